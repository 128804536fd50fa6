/- afterglowref04: Places. No condition but sizes. -/
import Derived.Test.YtijofgbealikaaaSc7
namespace Go.Proofs.Ytijofgbealikaaa
open Go.RowKit
/-- the places of a CPU's picks, of the first j -/
def plF (xs : List Int) (q : Int) : Nat → List Int
  | 0 => []
  | j + 1 => if xs[j]?.getD 0 = q then plF xs q j ++ [(j : Int)] else plF xs q j
theorem plF_succ (xs : List Int) (q : Int) (j : Nat) : plF xs q (j + 1) = if xs[j]?.getD 0 = q then plF xs q j ++ [(j : Int)] else plF xs q j := rfl
theorem plF_len (xs : List Int) (q : Int) : ∀ j, (plF xs q j).length ≤ j
  | 0 => Nat.le_refl _
  | j + 1 => by
    have := plF_len xs q j
    rw [plF_succ]
    split
    · rw [List.length_append, List.length_singleton]; omega
    · omega
def placesL (xs : List Int) (q : Int) : List Int := plF xs q xs.length
set_option maxHeartbeats 2000000 in
theorem rplaces_any (P : Option Addr) (n c : Nat) (xs : List Int) (q : Int) (w : World) (h : Sl i64 0 w 0 w.heap.size P n xs) (hn : n ≤ 1000000) :
    Calls Try.prog 19 #[.slice P n c, .int .i64 q] w fun e w' => (∃ A m d, e = .returned (.slice A m d) ∧ Ow i64 w' w.heap.size 3 A m d (placesL xs q)) ∧ Below w.heap.size w w' := by
  have HR := hid h
  have hl := hid h.len
  clear h
  obtain ⟨i0, hi0, hz00, hz01, hz02⟩ := info_parts info_int
  go_enter Try.func19, Try.ntmps19
  go_wp2_with fail
  go_loopw [5, 10] (fun v i wr => ∃ j : Nat, j ≤ n ∧ i = .int .i64 j ∧ Below w.heap.size w wr ∧ ∃ A m d, v = .slice A m d ∧ Ow i64 wr w.heap.size 3 A m d (plF xs q j)) (fun _ i _ => n - (intOf i).toNat)
  case atStart => exact ⟨0, Nat.zero_le _, rfl, Below.refl _ _, none, 0, 0, rfl, Ow.nil _ _ _⟩
  case round =>
    obtain ⟨j, hj, rfl, hbr, A, m, d, rfl, ho⟩ := hrel
    have HB := hid hbr; have HO := hid ho
    clear hbr ho
    by_cases hjn : j < n
    · obtain ⟨b, off, rfl, _, hbh, hc⟩ := HR.out.row (by omega)
      obtain ⟨x, hx⟩ : ∃ x, x = xs[j]?.getD 0 := ⟨_, rfl⟩
      have f0 := (HB.out.cell (p := ⟨b, off + j, none⟩) hbh).trans (hc j hjn)
      rw [← hx] at f0
      have HX := hid hx
      have hji : (j : Int) < (n : Int) := by omega
      have hw2 : IntKind.i64.wrap ((j : Int) + 1) = (j : Int) + 1 := by rw [IntKind.wrap_i64]; omega
      have hmj := hid (show m ≤ j by rw [← HO.out.len]; exact plF_len xs q j)
      clear hx hc
      by_cases hq : x = q
      · have d2 : (x == q) = true := by simpa using hq
        have H1 := hid (show plF xs q (j + 1) = plF xs q j ++ [(j : Int)] by rw [plF_succ, if_pos (by rw [← HX.out]; exact hq)])
        have hs := hid HB.out.size
        go_wp2_with (at_builtin; refine wpList_app i64 0 _ rfl _ _ 22 rfl w.heap.size 3 i0 _ 8 Try.underlying22 hi0 hz00 hz01 hz02 rfl A m d _ rfl (HO.out.alloc _) 0 _ _ 1 1 [(j : Int)] rfl ((Sl.one' rfl).mono (Nat.zero_le _) (Nat.le_refl _)) (fun _ => rfl) (by have := hmj.out; simp only [maxLen]; omega) (by have := hmj.out; omega) (by have := hs.out; simp; omega) ?_; intro A8 c8 w8 hown hgr hat; have HO2 := hid hown; have HB2 := hid (Below.grown (below_then HB.out (below_box wr (.cells #[.int .i64 (j : Int)] 3))) hgr (by have := hs.out; simp; omega) (fun k hk => HO.out.row_ge k hk)); clear hown hgr hat)
        go_roundw
        case rel => exact ⟨j + 1, by omega, by go_num, HB2.out, A8, m + 1, c8, rfl, by rw [H1.out]; exact HO2.out⟩
        case measure => simp [intOf]; omega
      · have d2 : (x == q) = false := by simpa using hq
        have H1 := hid (show plF xs q (j + 1) = plF xs q j by rw [plF_succ, if_neg (by rw [← HX.out]; exact hq)])
        go_wp2
        go_roundw
        case rel => exact ⟨j + 1, by omega, by go_num, HB.out, A, m, d, rfl, by rw [H1.out]; exact HO.out⟩
        case measure => simp [intOf]; omega
    · obtain rfl : j = n := by omega
      have hnn : ¬ ((j : Int) < (j : Int)) := by omega
      have H1 := hid (show plF xs q j = placesL xs q by unfold placesL; rw [hl.out])
      go_wp2
      go_ret
      exact ⟨⟨A, m, d, rfl, by rw [← H1.out]; exact HO.out⟩, HB.out⟩
end Go.Proofs.Ytijofgbealikaaa
