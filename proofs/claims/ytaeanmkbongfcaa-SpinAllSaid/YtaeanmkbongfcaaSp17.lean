/- Rows of those who want locks: slices.Equal, afterglowref05.Same; few of the statements. No condition but sizes. -/
import Derived.Test.YtaeanmkbongfcaaSp16
namespace Go.Proofs.Ytaeanmkbongfcaa
open Go.RowKit
set_option maxHeartbeats 1000000 in
theorem equal_spn (A B : Option Addr) (n c m c' lo hi lo' hi' : Nat) (xs ys : List (Spn)) (w : World) (hx : Sm 3 encS (0, 0, 0) w lo hi A n xs) (hy : Sm 3 encS (0, 0, 0) w lo' hi' B m ys) (hn : n ≤ 1000000) (hm : m ≤ 1000000) :
    Calls Try.prog 19 #[.slice A n c, .slice B m c'] w fun e w' => e = .returned (.bool (decide (xs = ys))) ∧ Below w.heap.size w w' := by
  by_cases hnm : n = m
  · subst hnm
    go_enter Try.func19, Try.ntmps19
    go_wp2
    go_loopw [13] (fun i wr => ∃ k q : Nat, k ≤ n ∧ i = .int .i64 k ∧ (∀ j, j < k → xs[j]?.getD (0, 0, 0) = ys[j]?.getD (0, 0, 0)) ∧ wr = w.drewN q) (fun i _ => n - (intOf i).toNat)
    case atStart => exact ⟨0, 0, Nat.zero_le _, rfl, fun j hj => absurd hj (Nat.not_lt_zero _), rfl⟩
    case round =>
      obtain ⟨k, q, hk, rfl, hall, rfl⟩ := hrel
      have HA := hid hall; clear hall
      have hL := hid hx.len; have hL' := hid hy.len
      by_cases hlt : k < n
      · obtain ⟨b, off, rfl, _, _, hc1⟩ := hx.row (by omega)
        obtain ⟨b', off', rfl, _, _, hc2⟩ := hy.row (by omega)
        clear hx hy
        have g0 := hc1 k hlt 0 (by omega)
        have g1 := hc1 k hlt 1 (by omega)
        have g2 := hc1 k hlt 2 (by omega)
        have f0 := hc2 k hlt 0 (by omega)
        have f1 := hc2 k hlt 1 (by omega)
        have f2 := hc2 k hlt 2 (by omega)
        clear hc1 hc2
        obtain ⟨x, hX⟩ : ∃ x, x = xs[k]?.getD (0, 0, 0) := ⟨_, rfl⟩
        obtain ⟨y, hY⟩ : ∃ y, y = ys[k]?.getD (0, 0, 0) := ⟨_, rfl⟩
        rw [← hX] at g0 g1 g2
        rw [← hY] at f0 f1 f2
        have HX := hid hX; have HY := hid hY
        clear hX hY
        obtain ⟨x0, x1, x2⟩ := x
        obtain ⟨y0, y1, y2⟩ := y
        simp only [encS, Nat.add_zero] at g0 g1 g2 f0 f1 f2
        have hne := neq_spn x0 x1 x2 y0 y1 y2
        by_cases hxy : (x0, x1, x2) = (y0, y1, y2)
        · rw [decide_eq_false (not_not_intro hxy)] at hne
          have HXY := hid hxy
          clear hxy
          go_wp2
          go_quiet (fail)
          go_wp2
          go_roundw
          case rel => exact ⟨k + 1, _, by omega, by go_num, below_succ HA.out (by rw [← HX.out, ← HY.out]; exact HXY.out), rfl⟩
          case measure => simp [intOf]; omega
        · rw [decide_eq_true hxy] at hne
          have HD := hid (show decide (xs = ys) = false from decide_eq_false (by rintro rfl; exact hxy (by rw [HX.out, HY.out])))
          clear hxy
          go_wp2
          go_quiet (fail)
          go_wp2
          go_ret
          exact ⟨ret_bool HD.out.symm, by rw [World.drewN_drewN]; exact below_drewN (Below.refl _ _) _⟩
      · obtain rfl : k = n := by omega
        have HD := hid (show decide (xs = ys) = true from decide_eq_true (ext_getDg (0, 0, 0) hL.out hL'.out HA.out))
        clear hx hy
        go_wp2
        go_ret
        exact ⟨ret_bool HD.out.symm, below_drewN (Below.refl _ _) _⟩
  · have HD := hid (show decide (xs = ys) = false from decide_eq_false (by rintro rfl; exact hnm (hx.len.symm.trans hy.len)))
    have e1 : ((n : Int) != (m : Int)) = true := by simp; omega
    clear hnm
    go_enter Try.func19, Try.ntmps19
    go_wp2
    go_ret
    exact ⟨ret_bool HD.out.symm, Below.refl _ _⟩

set_option maxHeartbeats 1000000 in
theorem rspsame_any (A B : Option Addr) (n c m c' lo hi lo' hi' : Nat) (xs ys : List (Spn)) (w : World) (hx : Sm 3 encS (0, 0, 0) w lo hi A n xs) (hy : Sm 3 encS (0, 0, 0) w lo' hi' B m ys) (hn : n ≤ 1000000) (hm : m ≤ 1000000) :
    Calls Try.prog 17 #[.slice A n c, .slice B m c'] w fun e w' => e = .returned (.bool (decide (xs = ys))) ∧ Below w.heap.size w w' := by
  by_cases hnm : n = m
  · subst hnm
    go_enter Try.func17, Try.ntmps17
    go_wp2
    go_loopw [13] (fun i wr => ∃ k q : Nat, k ≤ n ∧ i = .int .i64 k ∧ (∀ j, j < k → xs[j]?.getD (0, 0, 0) = ys[j]?.getD (0, 0, 0)) ∧ wr = w.drewN q) (fun i _ => n - (intOf i).toNat)
    case atStart => exact ⟨0, 0, Nat.zero_le _, rfl, fun j hj => absurd hj (Nat.not_lt_zero _), rfl⟩
    case round =>
      obtain ⟨k, q, hk, rfl, hall, rfl⟩ := hrel
      have HA := hid hall; clear hall
      have hL := hid hx.len; have hL' := hid hy.len
      by_cases hlt : k < n
      · obtain ⟨b, off, rfl, _, _, hc1⟩ := hx.row (by omega)
        obtain ⟨b', off', rfl, _, _, hc2⟩ := hy.row (by omega)
        clear hx hy
        have g0 := hc1 k hlt 0 (by omega)
        have g1 := hc1 k hlt 1 (by omega)
        have g2 := hc1 k hlt 2 (by omega)
        have f0 := hc2 k hlt 0 (by omega)
        have f1 := hc2 k hlt 1 (by omega)
        have f2 := hc2 k hlt 2 (by omega)
        clear hc1 hc2
        obtain ⟨x, hX⟩ : ∃ x, x = xs[k]?.getD (0, 0, 0) := ⟨_, rfl⟩
        obtain ⟨y, hY⟩ : ∃ y, y = ys[k]?.getD (0, 0, 0) := ⟨_, rfl⟩
        rw [← hX] at g0 g1 g2
        rw [← hY] at f0 f1 f2
        have HX := hid hX; have HY := hid hY
        clear hX hY
        obtain ⟨x0, x1, x2⟩ := x
        obtain ⟨y0, y1, y2⟩ := y
        simp only [encS, Nat.add_zero] at g0 g1 g2 f0 f1 f2
        have hne := neq_spn x0 x1 x2 y0 y1 y2
        by_cases hxy : (x0, x1, x2) = (y0, y1, y2)
        · rw [decide_eq_false (not_not_intro hxy)] at hne
          have HXY := hid hxy
          clear hxy
          go_wp2
          go_quiet (fail)
          go_wp2
          go_roundw
          case rel => exact ⟨k + 1, _, by omega, by go_num, below_succ HA.out (by rw [← HX.out, ← HY.out]; exact HXY.out), rfl⟩
          case measure => simp [intOf]; omega
        · rw [decide_eq_true hxy] at hne
          have HD := hid (show decide (xs = ys) = false from decide_eq_false (by rintro rfl; exact hxy (by rw [HX.out, HY.out])))
          clear hxy
          go_wp2
          go_quiet (fail)
          go_wp2
          go_ret
          exact ⟨ret_bool HD.out.symm, by rw [World.drewN_drewN]; exact below_drewN (Below.refl _ _) _⟩
      · obtain rfl : k = n := by omega
        have HD := hid (show decide (xs = ys) = true from decide_eq_true (ext_getDg (0, 0, 0) hL.out hL'.out HA.out))
        clear hx hy
        go_wp2
        go_ret
        exact ⟨ret_bool HD.out.symm, below_drewN (Below.refl _ _) _⟩
  · have HD := hid (show decide (xs = ys) = false from decide_eq_false (by rintro rfl; exact hnm (hx.len.symm.trans hy.len)))
    have e1 : ((n : Int) != (m : Int)) = true := by simp; omega
    clear hnm
    go_enter Try.func17, Try.ntmps17
    go_wp2
    go_ret
    exact ⟨ret_bool HD.out.symm, Below.refl _ _⟩

def FewPost (w : World) (k : Nat) (xs : List Spn) (e : Ending) (w' : World) : Prop := ∃ A c, e = .returned (.slice A k c) ∧ Om 3 encS w' w.heap.size 38 A k c xs ∧ Below w.heap.size w w'
set_option maxHeartbeats 1000000 in
theorem few_any (A : Option Addr) (n c : Nat) (xs : List Spn) (w : World) (h : Sm 3 encS (0, 0, 0) w 0 w.heap.size A n xs) (hnc : n ≤ c) :
    Calls Try.prog 10 #[.slice A n c] w (FewPost w (min n 6) (xs.take 6)) := by
  have HR := hid h
  by_cases h6 : n ≤ 6
  · have j1 : (0 : Int) ≤ (n : Int) := by omega
    have j2 : (n : Int) ≤ (c : Int) := by omega
    have j3 : ¬ (6 : Int) < (n : Int) := by omega
    have j4 : min (n : Int) 6 = (n : Int) := by omega
    have HC := hid (show Sm 3 encS (0, 0, 0) w 0 w.heap.size A n (xs.take 6) by rw [List.take_of_length_le (by rw [h.len]; exact h6)]; exact h)
    rw [show min n 6 = n by omega]
    clear h
    go_enter Try.func10, Try.ntmps10
    go_wp2_with fail
    refine (clone_spn A n c 0 (xs.take 6) w HC.out (by omega)).mono ?_
    rintro e w1 ⟨A', c', rfl, ho, hb⟩
    have HO := hid ho; have HB := hid hb
    clear ho hb
    go_wp2
    go_ret
    exact ⟨A', c', rfl, HO.out, HB.out⟩
  · have j2 : (6 : Int) ≤ (c : Int) := by omega
    have j3 : (6 : Int) < (n : Int) := by omega
    have j4 : min (n : Int) 6 = 6 := by omega
    have HC := hid (h.take (show 6 ≤ n by omega))
    rw [show min n 6 = 6 by omega]
    clear h
    go_enter Try.func10, Try.ntmps10
    go_wp2_with fail
    refine (clone_spn A 6 c 0 (xs.take 6) w HC.out (by omega)).mono ?_
    rintro e w1 ⟨A', c', rfl, ho, hb⟩
    have HO := hid ho; have HB := hid hb
    clear ho hb
    go_wp2
    go_ret
    exact ⟨A', c', rfl, HO.out, HB.out⟩
end Go.Proofs.Ytaeanmkbongfcaa
