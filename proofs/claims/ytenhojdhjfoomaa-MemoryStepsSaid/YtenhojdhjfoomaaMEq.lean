/- slices.Equal at rows of what accesses come to, and of pairs of numbers. No condition but sizes. -/
import Derived.Test.YtenhojdhjfoomaaMe10
import Derived.Laws.StructEq
import Derived.ChangeKeysEq
namespace Go.Proofs.Ytenhojdhjfoomaa
open Go.RowKit
theorem neq_got (a : Int) (b : Bool) (c : Int) (d : Bool) : ∀ W, (binOp .neq 47 (.agg #[.int .u64 a, .bool b]) (.agg #[.int .u64 c, .bool d])).run Try.prog W = .ok (.bool (decide (¬ (a, b) = (c, d)))) W := by
  intro W
  have u3 := Try.underlying42
  have a3 := Try.isAgg42
  have z3 := Try.sizeOf42
  have u4 := Try.underlying4
  have a4 := Try.isAgg4
  have z4 := Try.sizeOf4
  have hS : Try.prog.underlying 47 = some (.struct (Try.prog.fieldsOf 47)) := by kernel_rfl
  have hp : Try.prog.stoodInHeld 47 = false := by kernel_rfl
  rw [run_neq_struct, show (10000 : Nat) = 9999 + 1 from rfl, run_equalIn_agg W 9999 47 _ _ hS hp]
  simp only [Program.fieldsOf, Try.underlying47]
  go_simp
  by_cases h1 : a = c <;> by_cases h2 : b = d <;> simp [h1, h2]
def encP (x : Int × Int) : Nat → Value
  | 0 => .int .i64 x.1
  | _ => .int .i64 x.2
theorem neq_pair (a b c d : Int) : ∀ W, (binOp .neq 29 (.agg #[.int .i64 a, .int .i64 b]) (.agg #[.int .i64 c, .int .i64 d])).run Try.prog W = .ok (.bool (decide (¬ (a, b) = (c, d)))) W := by
  intro W
  have u3 := Try.underlying3
  have a3 := Try.isAgg3
  have z3 := Try.sizeOf3
  obtain ⟨i, hi⟩ : ∃ i, Try.prog.info? 3 = some i := ⟨_, rfl⟩
  have hc : Try.prog.cellsOf 3 = 1 := by kernel_rfl
  rw [run_neq_struct, show (10000 : Nat) = 9999 + 1 from rfl, run_equalIn_array W 9999 _ _ Try.underlying29 hi, hc, show List.range 2 = [0, 1] from rfl]
  simp only [Op.eqItems]
  go_simp
  by_cases h1 : a = c <;> by_cases h2 : b = d <;> simp [h1, h2]
set_option maxHeartbeats 1000000 in
theorem equal_got (A B : Option Addr) (n c m c' lo hi lo' hi' : Nat) (xs ys : List (Int × Bool)) (w : World) (hx : Sm 2 encG (0, false) w lo hi A n xs) (hy : Sm 2 encG (0, false) w lo' hi' B m ys) (hn : n ≤ 1000000) (hm : m ≤ 1000000) :
    Calls Try.prog 24 #[.slice A n c, .slice B m c'] w fun e w' => e = .returned (.bool (decide (xs = ys))) ∧ Below w.heap.size w w' := by
  by_cases hnm : n = m
  · subst hnm
    go_enter Try.func24, Try.ntmps24
    go_wp2
    go_loopw [13] (fun i wr => ∃ k q : Nat, k ≤ n ∧ i = .int .i64 k ∧ (∀ j, j < k → xs[j]?.getD (0, false) = ys[j]?.getD (0, false)) ∧ wr = w.drewN q) (fun i _ => n - (intOf i).toNat)
    case atStart => exact ⟨0, 0, Nat.zero_le _, rfl, fun j hj => absurd hj (Nat.not_lt_zero _), rfl⟩
    case round =>
      obtain ⟨k, q, hk, rfl, hall, rfl⟩ := hrel
      have HA := hid hall; clear hall
      have hL := hid hx.len; have hL' := hid hy.len
      by_cases hlt : k < n
      · obtain ⟨b, off, rfl, _, _, hc1⟩ := hx.row (by omega)
        obtain ⟨b', off', rfl, _, _, hc2⟩ := hy.row (by omega)
        clear hx hy
        have g0 := hc1 k hlt 0 (by omega)
        have g1 := hc1 k hlt 1 (by omega)
        have f0 := hc2 k hlt 0 (by omega)
        have f1 := hc2 k hlt 1 (by omega)
        clear hc1 hc2
        obtain ⟨x, hX⟩ : ∃ x, x = xs[k]?.getD (0, false) := ⟨_, rfl⟩
        obtain ⟨y, hY⟩ : ∃ y, y = ys[k]?.getD (0, false) := ⟨_, rfl⟩
        rw [← hX] at g0 g1
        rw [← hY] at f0 f1
        have HX := hid hX; have HY := hid hY
        clear hX hY
        obtain ⟨x0, x1⟩ := x
        obtain ⟨y0, y1⟩ := y
        simp only [encG, Nat.add_zero] at g0 g1 f0 f1
        have hne := neq_got x0 x1 y0 y1
        by_cases hxy : (x0, x1) = (y0, y1)
        · rw [decide_eq_false (not_not_intro hxy)] at hne
          have HXY := hid hxy
          clear hxy
          go_wp2
          go_quiet (fail)
          go_wp2
          go_roundw
          case rel => exact ⟨k + 1, _, by omega, by go_num, below_succ HA.out (by rw [← HX.out, ← HY.out]; exact HXY.out), rfl⟩
          case measure => simp [intOf]; omega
        · rw [decide_eq_true hxy] at hne
          have HD := hid (show decide (xs = ys) = false from decide_eq_false (by rintro rfl; exact hxy (by rw [HX.out, HY.out])))
          clear hxy
          go_wp2
          go_quiet (fail)
          go_wp2
          go_ret
          exact ⟨ret_bool HD.out.symm, by rw [World.drewN_drewN]; exact below_drewN (Below.refl _ _) _⟩
      · obtain rfl : k = n := by omega
        have HD := hid (show decide (xs = ys) = true from decide_eq_true (ext_getDg (0, false) hL.out hL'.out HA.out))
        clear hx hy
        go_wp2
        go_ret
        exact ⟨ret_bool HD.out.symm, below_drewN (Below.refl _ _) _⟩
  · have HD := hid (show decide (xs = ys) = false from decide_eq_false (by rintro rfl; exact hnm (hx.len.symm.trans hy.len)))
    have e1 : ((n : Int) != (m : Int)) = true := by simp; omega
    clear hnm
    go_enter Try.func24, Try.ntmps24
    go_wp2
    go_ret
    exact ⟨ret_bool HD.out.symm, Below.refl _ _⟩

set_option maxHeartbeats 1000000 in
theorem equal_pairs (A B : Option Addr) (n c m c' lo hi lo' hi' : Nat) (xs ys : List (Int × Int)) (w : World) (hx : Sm 2 encP (0, 0) w lo hi A n xs) (hy : Sm 2 encP (0, 0) w lo' hi' B m ys) (hn : n ≤ 1000000) (hm : m ≤ 1000000) :
    Calls Try.prog 30 #[.slice A n c, .slice B m c'] w fun e w' => e = .returned (.bool (decide (xs = ys))) ∧ Below w.heap.size w w' := by
  by_cases hnm : n = m
  · subst hnm
    go_enter Try.func30, Try.ntmps30
    go_wp2
    go_loopw [13] (fun i wr => ∃ k q : Nat, k ≤ n ∧ i = .int .i64 k ∧ (∀ j, j < k → xs[j]?.getD (0, 0) = ys[j]?.getD (0, 0)) ∧ wr = w.drewN q) (fun i _ => n - (intOf i).toNat)
    case atStart => exact ⟨0, 0, Nat.zero_le _, rfl, fun j hj => absurd hj (Nat.not_lt_zero _), rfl⟩
    case round =>
      obtain ⟨k, q, hk, rfl, hall, rfl⟩ := hrel
      have HA := hid hall; clear hall
      have hL := hid hx.len; have hL' := hid hy.len
      by_cases hlt : k < n
      · obtain ⟨b, off, rfl, _, _, hc1⟩ := hx.row (by omega)
        obtain ⟨b', off', rfl, _, _, hc2⟩ := hy.row (by omega)
        clear hx hy
        have g0 := hc1 k hlt 0 (by omega)
        have g1 := hc1 k hlt 1 (by omega)
        have f0 := hc2 k hlt 0 (by omega)
        have f1 := hc2 k hlt 1 (by omega)
        clear hc1 hc2
        obtain ⟨x, hX⟩ : ∃ x, x = xs[k]?.getD (0, 0) := ⟨_, rfl⟩
        obtain ⟨y, hY⟩ : ∃ y, y = ys[k]?.getD (0, 0) := ⟨_, rfl⟩
        rw [← hX] at g0 g1
        rw [← hY] at f0 f1
        have HX := hid hX; have HY := hid hY
        clear hX hY
        obtain ⟨x0, x1⟩ := x
        obtain ⟨y0, y1⟩ := y
        simp only [encP, Nat.add_zero] at g0 g1 f0 f1
        have hne := neq_pair x0 x1 y0 y1
        by_cases hxy : (x0, x1) = (y0, y1)
        · rw [decide_eq_false (not_not_intro hxy)] at hne
          have HXY := hid hxy
          clear hxy
          go_wp2
          go_quiet (fail)
          go_wp2
          go_roundw
          case rel => exact ⟨k + 1, _, by omega, by go_num, below_succ HA.out (by rw [← HX.out, ← HY.out]; exact HXY.out), rfl⟩
          case measure => simp [intOf]; omega
        · rw [decide_eq_true hxy] at hne
          have HD := hid (show decide (xs = ys) = false from decide_eq_false (by rintro rfl; exact hxy (by rw [HX.out, HY.out])))
          clear hxy
          go_wp2
          go_quiet (fail)
          go_wp2
          go_ret
          exact ⟨ret_bool HD.out.symm, by rw [World.drewN_drewN]; exact below_drewN (Below.refl _ _) _⟩
      · obtain rfl : k = n := by omega
        have HD := hid (show decide (xs = ys) = true from decide_eq_true (ext_getDg (0, 0) hL.out hL'.out HA.out))
        clear hx hy
        go_wp2
        go_ret
        exact ⟨ret_bool HD.out.symm, below_drewN (Below.refl _ _) _⟩
  · have HD := hid (show decide (xs = ys) = false from decide_eq_false (by rintro rfl; exact hnm (hx.len.symm.trans hy.len)))
    have e1 : ((n : Int) != (m : Int)) = true := by simp; omega
    clear hnm
    go_enter Try.func30, Try.ntmps30
    go_wp2
    go_ret
    exact ⟨ret_bool HD.out.symm, Below.refl _ _⟩

end Go.Proofs.Ytenhojdhjfoomaa
