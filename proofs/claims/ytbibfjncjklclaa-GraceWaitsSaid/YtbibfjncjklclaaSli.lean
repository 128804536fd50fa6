/- slices.Clone and slices.Equal at []int, and afterglowref07.Has. No condition but sizes. -/
import Derived.Test.YtbibfjncjklclaaProg
import Derived.Test.YtbibfjncjklclaaKitA
namespace Go.Proofs.Ytbibfjncjklclaa
open Go.RowKit
abbrev i64 : Int → Value := .int .i64
theorem one_i64 (y : Int) : (i64 y).oneCell' = true := rfl
theorem info_int : (Try.prog.info? 3).map (fun i => (i.zero, i.size, i.bytes)) = some (some (.int .i64 0), 1, 8) := by kernel_rfl

set_option maxHeartbeats 400000 in
theorem clone_int (A : Option Addr) (n c lo : Nat) (xs : List Int) (w : World) (h : Sl i64 0 w lo w.heap.size A n xs) (hn : n ≤ 1000000) :
    Calls Try.prog 38 #[.slice A n c] w fun e w' => ∃ A' c', e = .returned (.slice A' n c') ∧ Ow i64 w' w.heap.size 3 A' n c' xs ∧ Below w.heap.size w w' := by
  obtain ⟨i0, hi0, hz00, hz01, hz02⟩ := info_parts info_int
  have hq := fun W a n c => run_eqnil (P := Try.prog) (t := 22) Try.underlying22 W a n c
  rcases A with _ | ad
  · obtain ⟨rfl, rfl⟩ := h.none_
    go_enter Try.func38, Try.ntmps38
    go_wp2
    go_ret
    exact ⟨none, 0, rfl, Ow.nil _ _ _, Below.refl _ _⟩
  · go_enter Try.func38, Try.ntmps38
    go_wp2_with (at_builtin; refine wpList_app i64 0 _ rfl _ _ 22 rfl w.heap.size 3 i0 _ 8 Try.underlying22 hi0 hz00 hz01 hz02 rfl _ _ _ [] rfl (Ow.empty w _ _ (Nat.le_refl _)) lo w.heap.size (some ad) n c xs rfl (h.alloc (Nat.le_refl _) _) one_i64 (by simp only [maxLen]; omega) (by omega) (by simp) ?_; intro A1 c1 w1 hown1 hg1 hat1; simp only [Nat.zero_add, List.nil_append] at hown1)
    go_ret
    refine ⟨A1, c1, by simp, hown1, ?_⟩
    exact ((Below.refl _ w).alloc (Nat.le_refl _) _).grown hg1 (by simp) (fun k hk => by simp [Value.ownBlock] at hk; omega)

theorem below_succ {p : Nat → Prop} {k : Nat} (h : ∀ j, j < k → p j) (hk : p k) : ∀ j, j < k + 1 → p j := fun j hj => by
  by_cases e : j < k
  · exact h j e
  · obtain rfl : j = k := by omega
    exact hk
theorem ext_getD {xs ys : List Int} {n : Nat} (hx : xs.length = n) (hy : ys.length = n) (h : ∀ k, k < n → xs[k]?.getD 0 = ys[k]?.getD 0) : xs = ys := by
  apply List.ext_getElem (by omega)
  intro k h1 h2
  have := h k (by omega)
  rwa [List.getElem?_eq_getElem h1, List.getElem?_eq_getElem h2] at this

set_option maxHeartbeats 1000000 in
theorem equal_int (A B : Option Addr) (n c m c' lo hi lo' hi' : Nat) (xs ys : List Int) (w : World) (hx : Sl i64 0 w lo hi A n xs) (hy : Sl i64 0 w lo' hi' B m ys) (hn : n ≤ 1000000) (hm : m ≤ 1000000) :
    Calls Try.prog 18 #[.slice A n c, .slice B m c'] w fun e w' => e = .returned (.bool (decide (xs = ys))) ∧ ∃ q, w' = w.drewN q := by
  by_cases hnm : n = m
  · subst hnm
    go_enter Try.func18, Try.ntmps18
    go_wp2
    go_loopw [13] (fun i wr => ∃ k q : Nat, k ≤ n ∧ i = .int .i64 k ∧ (∀ j, j < k → xs[j]?.getD 0 = ys[j]?.getD 0) ∧ wr = w.drewN q) (fun i _ => n - (intOf i).toNat)
    case atStart => exact ⟨0, 0, Nat.zero_le _, rfl, fun j hj => absurd hj (Nat.not_lt_zero _), rfl⟩
    case round =>
      obtain ⟨k, q, hk, rfl, hall, rfl⟩ := hrel
      have HA := hid hall; clear hall
      have hL := hid hx.len; have hL' := hid hy.len
      by_cases hlt : k < n
      · obtain ⟨b, off, rfl, _, _, hc1⟩ := hx.row (by omega)
        obtain ⟨b', off', rfl, _, _, hc2⟩ := hy.row (by omega)
        clear hx hy
        have g1 := hc1 k hlt
        have g2 := hc2 k hlt
        clear hc1 hc2
        obtain ⟨x, hX⟩ : ∃ x, x = xs[k]?.getD 0 := ⟨_, rfl⟩
        obtain ⟨y, hY⟩ : ∃ y, y = ys[k]?.getD 0 := ⟨_, rfl⟩
        rw [← hX] at g1
        rw [← hY] at g2
        have HX := hid hX; have HY := hid hY
        clear hX hY
        by_cases hxy : x = y
        · have e1 : (x != y) = false := by simp [hxy]
          clear hxy
          go_wp2
          go_quiet (fail)
          go_wp2
          go_roundw
          case rel => exact ⟨k + 1, _, by omega, by go_num, below_succ HA.out (by rw [← HX.out, ← HY.out]; simpa using e1), rfl⟩
          case measure => simp [intOf]; omega
        · have e1 : (x != y) = true := by simp [hxy]
          have hd : decide (xs = ys) = false := by
            simp only [decide_eq_false_iff_not]; rintro rfl; exact hxy (by rw [HX.out, HY.out])
          have HD := hid hd
          clear hxy hd
          go_wp2
          go_quiet (fail)
          go_wp2
          go_ret
          exact ⟨ret_bool HD.out.symm, _, by rw [World.drewN_drewN]⟩
      · obtain rfl : k = n := by omega
        have hd : decide (xs = ys) = true := by
          simp only [decide_eq_true_eq]; exact ext_getD hL.out hL'.out HA.out
        have HD := hid hd
        clear hd hx hy
        go_wp2
        go_ret
        exact ⟨ret_bool HD.out.symm, _, rfl⟩
  · have hd : decide (xs = ys) = false := by
      simp only [decide_eq_false_iff_not]; rintro rfl; exact hnm (hx.len.symm.trans hy.len)
    have e1 : ((n : Int) != (m : Int)) = true := by simp; omega
    have HD := hid hd
    clear hd
    go_enter Try.func18, Try.ntmps18
    go_wp2
    go_ret
    exact ⟨ret_bool HD.out.symm, 0, rfl⟩

/-! ### afterglowref07.Has -/
end Go.Proofs.Ytbibfjncjklclaa
