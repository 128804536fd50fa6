/- slices.Index, slices.Contains at []int. No condition but sizes. -/
import Derived.Test.YtlidbiaadoigeaaKitA
import Derived.Test.YtlidbiaadoigeaaSli
namespace Go.Proofs.Ytlidbiaadoigeaa
open Go.RowKit
/-- the first place of v, or -1 -/
def ixI (v : Int) : List Int → Int
  | [] => -1
  | x :: l => if x = v then 0 else if ixI v l < 0 then -1 else ixI v l + 1
theorem ixI_at (v : Int) : ∀ (l : List Int) (j : Nat), j < l.length → (∀ k, k < j → l[k]?.getD 0 ≠ v) → l[j]?.getD 0 = v → ixI v l = j
  | [], j, h, _, _ => absurd h (by simp)
  | x :: l, 0, _, _, h => by simp only [List.getElem?_cons_zero, Option.getD_some] at h; simp [ixI, h]
  | x :: l, j + 1, hj, hk, h => by
    have h0 := hk 0 (by omega)
    simp only [List.getElem?_cons_zero, Option.getD_some] at h0
    have := ixI_at v l j (by simpa using hj) (fun k hk' => by have := hk (k + 1) (by omega); simpa using this) (by simpa using h)
    simp only [ixI, h0, this, if_false]
    rw [if_neg (by omega)]
    omega
theorem ixI_no (v : Int) : ∀ (l : List Int), (∀ k, k < l.length → l[k]?.getD 0 ≠ v) → ixI v l = -1
  | [], _ => rfl
  | x :: l, h => by
    have h0 := h 0 (by simp)
    simp only [List.getElem?_cons_zero, Option.getD_some] at h0
    have := ixI_no v l (fun k hk => by have := h (k + 1) (by simpa using hk); simpa using this)
    simp [ixI, h0, this]
theorem ixI_mem (v : Int) : ∀ l : List Int, 0 ≤ ixI v l ↔ v ∈ l
  | [] => by simp [ixI]
  | x :: l => by
    have ih := ixI_mem v l
    unfold ixI
    by_cases h : x = v
    · rw [if_pos h]; simp [h]
    · rw [if_neg h]
      split
      · rename_i hn
        refine ⟨fun hh => absurd hh (by decide), fun hm => ?_⟩
        rcases List.mem_cons.1 hm with e | hm
        · exact absurd e.symm h
        · have := ih.2 hm; omega
      · rename_i hn
        exact ⟨fun _ => List.mem_cons_of_mem _ (ih.1 (by omega)), fun _ => by omega⟩
set_option maxHeartbeats 1000000 in
theorem index_int (A : Option Addr) (n c lo hi : Nat) (xs : List Int) (v : Int) (w : World) (h : Sl i64 0 w lo hi A n xs) (hn : n ≤ 1000000) :
    Calls Try.prog 32 #[.slice A n c, .int .i64 v] w fun e w' => e = .returned (.int .i64 (ixI v xs)) ∧ w' = w := by
  have HR := hid h
  have hl := hid h.len
  clear h
  go_enter Try.func32, Try.ntmps32
  go_wp2_with fail
  go_loopw [5, 8] (fun _ i wr => ∃ j : Nat, j ≤ n ∧ i = .int .i64 j ∧ wr = w ∧ ∀ k, k < j → xs[k]?.getD 0 ≠ v) (fun _ i _ => n - (intOf i).toNat)
  case atStart => exact ⟨0, Nat.zero_le _, rfl, rfl, fun k hk => absurd hk (Nat.not_lt_zero _)⟩
  case round =>
    obtain ⟨j, hj, rfl, rfl, hall⟩ := hrel
    have HA := hid hall
    clear hall
    by_cases hjn : j < n
    · obtain ⟨b, off, rfl, _, _, hc⟩ := HR.out.row (by omega)
      have f0 := hc j hjn
      obtain ⟨x, hx⟩ : ∃ x, x = xs[j]?.getD 0 := ⟨_, rfl⟩
      rw [← hx] at f0
      have HX := hid hx
      have hji : (j : Int) < (n : Int) := by omega
      clear hx hc
      by_cases he : v = x
      · subst he
        have E := hid (show ixI v xs = j from ixI_at _ xs j (by rw [hl.out]; exact hjn) HA.out HX.out.symm)
        go_wp2
        go_ret
        exact ⟨ret_int E.out.symm, by first | rfl | trivial⟩
      · have hE := hid he
        have e1 : (v == x) = false := by simp [he]
        clear he
        go_wp2_with fail
        go_roundw
        case rel => exact ⟨j + 1, by omega, by go_num, by first | rfl | trivial, fun k hk => by
          by_cases e : k = j
          · subst e; rw [← HX.out]; exact fun h => hE.out h.symm
          · exact HA.out k (by omega)⟩
        case measure => simp [intOf]; omega
    · obtain rfl : j = n := by omega
      have hnn : ¬ ((j : Int) < (j : Int)) := by omega
      have E := hid (show ixI v xs = -1 from ixI_no _ xs (fun k hk => HA.out k (by rw [← hl.out]; exact hk)))
      go_wp2
      go_ret
      exact ⟨ret_int E.out.symm, by first | rfl | trivial⟩
theorem contains_int (A : Option Addr) (n c lo hi : Nat) (xs : List Int) (v : Int) (w : World) (h : Sl i64 0 w lo hi A n xs) (hn : n ≤ 1000000) :
    Calls Try.prog 19 #[.slice A n c, .int .i64 v] w fun e w' => e = .returned (.bool (decide (v ∈ xs))) ∧ w' = w := by
  have HR := hid h
  have E := hid (ixI_mem v xs)
  clear h
  go_enter Try.func19, Try.ntmps19
  go_wp2_with fail
  refine (index_int A n c lo hi xs v w HR.out hn).mono ?_
  rintro e w' ⟨rfl, rfl⟩
  go_wp2
  go_ret
  exact ⟨ret_bool (decide_eq_decide.2 E.out), by first | rfl | trivial⟩
end Go.Proofs.Ytlidbiaadoigeaa
