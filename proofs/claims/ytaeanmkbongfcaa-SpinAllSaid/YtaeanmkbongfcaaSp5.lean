/- package spin: Leave. afterglowref05: Right, Has, Need, Take. Equality of those who want locks, and of accesses. No condition. -/
import Derived.Test.YtaeanmkbongfcaaSp4
import Derived.Laws.StructEq
import Derived.ChangeKeysEq
namespace Go.Proofs.Ytaeanmkbongfcaa
open Go.RowKit
theorem eqd_spn (a0 : Int) (a1 : Int) (a2 : Int) (b0 : Int) (b1 : Int) (b2 : Int) : ∀ W, (binOp .eql 38 (.agg #[.int .i64 a0, .int .i64 a1, .int .u64 a2]) (.agg #[.int .i64 b0, .int .i64 b1, .int .u64 b2])).run Try.prog W = .ok (.bool (decide ((a0, a1, a2) = (b0, b1, b2)))) W := by
  intro W
  have u0 := Try.underlying3
  have c0 := Try.isAgg3
  have z0 := Try.sizeOf3
  have u1 := Try.underlying36
  have c1 := Try.isAgg36
  have z1 := Try.sizeOf36
  have hS : Try.prog.underlying 38 = some (.struct (Try.prog.fieldsOf 38)) := by kernel_rfl
  have hp : Try.prog.stoodInHeld 38 = false := by kernel_rfl
  rw [run_eql_struct, show (10000 : Nat) = 9999 + 1 from rfl, run_equalIn_agg W 9999 38 _ _ hS hp]
  simp only [Program.fieldsOf, Try.underlying38]
  go_simp
  by_cases h0 : a0 = b0 <;> by_cases h1 : a1 = b1 <;> by_cases h2 : a2 = b2 <;> simp [h0, h1, h2]
theorem eqds_spn (a0 : Int) (a1 : Int) (a2 : Int) : ∀ W, (binOp .eql 38 (.agg #[.int .i64 a0, .int .i64 a1, .int .u64 a2]) (.agg #[.int .i64 a0, .int .i64 a1, .int .u64 a2])).run Try.prog W = .ok (.bool true) W := fun W => by
  rw [eqd_spn]
  simp
theorem neq_spn (a0 : Int) (a1 : Int) (a2 : Int) (b0 : Int) (b1 : Int) (b2 : Int) : ∀ W, (binOp .neq 38 (.agg #[.int .i64 a0, .int .i64 a1, .int .u64 a2]) (.agg #[.int .i64 b0, .int .i64 b1, .int .u64 b2])).run Try.prog W = .ok (.bool (decide (¬ (a0, a1, a2) = (b0, b1, b2)))) W := by
  intro W
  have u0 := Try.underlying3
  have c0 := Try.isAgg3
  have z0 := Try.sizeOf3
  have u1 := Try.underlying36
  have c1 := Try.isAgg36
  have z1 := Try.sizeOf36
  have hS : Try.prog.underlying 38 = some (.struct (Try.prog.fieldsOf 38)) := by kernel_rfl
  have hp : Try.prog.stoodInHeld 38 = false := by kernel_rfl
  rw [run_neq_struct, show (10000 : Nat) = 9999 + 1 from rfl, run_equalIn_agg W 9999 38 _ _ hS hp]
  simp only [Program.fieldsOf, Try.underlying38]
  go_simp
  by_cases h0 : a0 = b0 <;> by_cases h1 : a1 = b1 <;> by_cases h2 : a2 = b2 <;> simp [h0, h1, h2]
theorem neqs_spn (a0 : Int) (a1 : Int) (a2 : Int) : ∀ W, (binOp .neq 38 (.agg #[.int .i64 a0, .int .i64 a1, .int .u64 a2]) (.agg #[.int .i64 a0, .int .i64 a1, .int .u64 a2])).run Try.prog W = .ok (.bool false) W := fun W => by
  rw [neq_spn]
  simp

theorem eqd_acc (a0 : Int) (a1 : Int) (a2 : Int) (a3 : Int) (b0 : Int) (b1 : Int) (b2 : Int) (b3 : Int) : ∀ W, (binOp .eql 49 (.agg #[.int .i64 a0, .int .i64 a1, .int .u64 a2, .int .u64 a3]) (.agg #[.int .i64 b0, .int .i64 b1, .int .u64 b2, .int .u64 b3])).run Try.prog W = .ok (.bool (decide ((a0, a1, a2, a3) = (b0, b1, b2, b3)))) W := by
  intro W
  have u0 := Try.underlying3
  have c0 := Try.isAgg3
  have z0 := Try.sizeOf3
  have u1 := Try.underlying36
  have c1 := Try.isAgg36
  have z1 := Try.sizeOf36
  have hS : Try.prog.underlying 49 = some (.struct (Try.prog.fieldsOf 49)) := by kernel_rfl
  have hp : Try.prog.stoodInHeld 49 = false := by kernel_rfl
  rw [run_eql_struct, show (10000 : Nat) = 9999 + 1 from rfl, run_equalIn_agg W 9999 49 _ _ hS hp]
  simp only [Program.fieldsOf, Try.underlying49]
  go_simp
  by_cases h0 : a0 = b0 <;> by_cases h1 : a1 = b1 <;> by_cases h2 : a2 = b2 <;> by_cases h3 : a3 = b3 <;> simp [h0, h1, h2, h3]
theorem eqds_acc (a0 : Int) (a1 : Int) (a2 : Int) (a3 : Int) : ∀ W, (binOp .eql 49 (.agg #[.int .i64 a0, .int .i64 a1, .int .u64 a2, .int .u64 a3]) (.agg #[.int .i64 a0, .int .i64 a1, .int .u64 a2, .int .u64 a3])).run Try.prog W = .ok (.bool true) W := fun W => by
  rw [eqd_acc]
  simp
theorem neq_acc (a0 : Int) (a1 : Int) (a2 : Int) (a3 : Int) (b0 : Int) (b1 : Int) (b2 : Int) (b3 : Int) : ∀ W, (binOp .neq 49 (.agg #[.int .i64 a0, .int .i64 a1, .int .u64 a2, .int .u64 a3]) (.agg #[.int .i64 b0, .int .i64 b1, .int .u64 b2, .int .u64 b3])).run Try.prog W = .ok (.bool (decide (¬ (a0, a1, a2, a3) = (b0, b1, b2, b3)))) W := by
  intro W
  have u0 := Try.underlying3
  have c0 := Try.isAgg3
  have z0 := Try.sizeOf3
  have u1 := Try.underlying36
  have c1 := Try.isAgg36
  have z1 := Try.sizeOf36
  have hS : Try.prog.underlying 49 = some (.struct (Try.prog.fieldsOf 49)) := by kernel_rfl
  have hp : Try.prog.stoodInHeld 49 = false := by kernel_rfl
  rw [run_neq_struct, show (10000 : Nat) = 9999 + 1 from rfl, run_equalIn_agg W 9999 49 _ _ hS hp]
  simp only [Program.fieldsOf, Try.underlying49]
  go_simp
  by_cases h0 : a0 = b0 <;> by_cases h1 : a1 = b1 <;> by_cases h2 : a2 = b2 <;> by_cases h3 : a3 = b3 <;> simp [h0, h1, h2, h3]
theorem neqs_acc (a0 : Int) (a1 : Int) (a2 : Int) (a3 : Int) : ∀ W, (binOp .neq 49 (.agg #[.int .i64 a0, .int .i64 a1, .int .u64 a2, .int .u64 a3]) (.agg #[.int .i64 a0, .int .i64 a1, .int .u64 a2, .int .u64 a3])).run Try.prog W = .ok (.bool false) W := fun W => by
  rw [neq_acc]
  simp

def spLeaveF (s : Spn) : Spn × Int := if ¬ SpGood s then ((0, 0, 0), 150) else if s.2.1 ≠ 3 then ((0, 0, 0), 2) else ((s.1, 4, s.2.2), 0)
def LvPost (s : Spn) (w : World) (e : Ending) (w' : World) : Prop := e = .returned (.tuple #[svS (spLeaveF s).1, .int .i64 (spLeaveF s).2]) ∧ Below w.heap.size w w'
set_option maxHeartbeats 2000000 in
theorem spleave_any (a p t : Int) (w : World) : Calls Try.prog 26 #[sv a p t] w (LvPost (a, p, t) w) := by
  have HB := hid (Below.refl w.heap.size w)
  have bx := below_box w (.cells (scs a p t) 38)
  replace HB := hid (below_then HB.out bx)
  clear bx
  have PS := hid (Blk.new w 38 (scs a p t))
  have bx := below_box (w.alloc (.cells (scs a p t) 38)) (.cells (scs 0 0 0) 38)
  replace PS := hid (PS.out.step bx); replace HB := hid (below_then HB.out bx)
  clear bx
  have PR := hid (Blk.new2 w 38 (scs 0 0 0) (.cells (scs a p t) 38))
  go_enter Try.func26, Try.ntmps26
  obtain ⟨y00, y01, y02, yf0⟩ := PS.out.cells3
  go_wp2_with fail
  clear y00 y01 y02 yf0
  generalize (w.alloc (.cells (scs a p t) 38)).alloc (.cells (scs 0 0 0) 38) = W0 at *
  refine (spcheck_any a p t W0).mono ?_
  rintro e w1 ⟨rfl, hb⟩
  replace PS := hid (PS.out.step hb); replace PR := hid (PR.out.step hb); replace HB := hid (below_then HB.out hb)
  clear hb
  by_cases hg : SpGood (a, p, t)
  · rw [show spCheckC (a, p, t) = 0 from if_pos hg]
    have HG := hid hg
    clear hg
    by_cases hp : p = 3
    · subst hp
      obtain ⟨y00, y01, y02, yf0⟩ := PS.out.cells3
      go_upto_region 6 with fail
      clear y00 y01 y02 yf0
      skip
      obtain ⟨y00, y01, y02, yf0⟩ := PS.out.cells3
      obtain ⟨y10, y11, y12, yf1⟩ := PR.out.cells3
      obtain ⟨z0, z1, z2, zf⟩ := (PS.out.setCell 1 (.int .i64 4)).cells3; obtain ⟨v0, v1, v2, vf⟩ := (PR.out.far (p := ⟨w.heap.size, 1, none⟩) (by simp) (.int .i64 4)).cells3
      go_wp2
      have HB2 := hid (HB.out.setCell (p := ⟨w.heap.size, 1, none⟩) (by simp) (.int .i64 4)); have PR2 := hid (PR.out.far (p := ⟨w.heap.size, 1, none⟩) (by simp) (.int .i64 4))
      obtain ⟨q0, q1, q2, qf⟩ := (((PR2.out.setCell 0 (.int .i64 a)).setCell 1 (.int .i64 4)).setCell 2 (.int .u64 t)).cells3
      refine bodyPost_ret (v := .tuple #[sv a 4 t, .int .i64 0]) (by simp [results, Try.results26, go_sem, q0, q1, q2]) rfl ⟨?_, ((HB2.out.setCell (by simp <;> omega) _).setCell (by simp <;> omega) _).setCell (by simp <;> omega) _⟩
      rw [show spLeaveF (a, 3, t) = ((a, 4, t), 0) by rw [spLeaveF, if_neg (not_not_intro HG.out), if_neg (fun h => h rfl)]]
    · have h1 : (p != 3) = true := by simpa using hp
      have HP := hid hp
      clear hp
      obtain ⟨y00, y01, y02, yf0⟩ := PS.out.cells3
      obtain ⟨y10, y11, y12, yf1⟩ := PR.out.cells3
      go_wp2
      obtain ⟨q0, q1, q2, qf⟩ := (((PR.out.setCell 0 (.int .i64 0)).setCell 1 (.int .i64 0)).setCell 2 (.int .u64 0)).cells3
      refine bodyPost_ret (v := .tuple #[sv 0 0 0, .int .i64 2]) (by simp [results, Try.results26, go_sem, q0, q1, q2]) rfl ⟨?_, ((HB.out.setCell (by simp <;> omega) _).setCell (by simp <;> omega) _).setCell (by simp <;> omega) _⟩
      rw [show spLeaveF (a, p, t) = ((0, 0, 0), 2) by rw [spLeaveF, if_neg (not_not_intro HG.out), if_pos HP.out]]
  · rw [show spCheckC (a, p, t) = 150 from if_neg hg]
    have HG := hid hg
    clear hg
    obtain ⟨y00, y01, y02, yf0⟩ := PR.out.cells3
    go_wp2
    obtain ⟨q0, q1, q2, qf⟩ := (((PR.out.setCell 0 (.int .i64 0)).setCell 1 (.int .i64 0)).setCell 2 (.int .u64 0)).cells3
    refine bodyPost_ret (v := .tuple #[sv 0 0 0, .int .i64 150]) (by simp [results, Try.results26, go_sem, q0, q1, q2]) rfl ⟨?_, ((HB.out.setCell (by simp <;> omega) _).setCell (by simp <;> omega) _).setCell (by simp <;> omega) _⟩
    rw [show spLeaveF (a, p, t) = ((0, 0, 0), 150) from if_pos HG.out]
set_option maxHeartbeats 2000000 in
theorem rspright_any (a p t : Int) (w : World) : Calls Try.prog 14 #[sv a p t] w fun e w' => e = .returned (.bool (decide (SpGood (a, p, t)))) ∧ Below w.heap.size w w' := by
  have E1 := hid (show SpGood (a, p, t) ↔ (0 ≤ a ∧ 0 ≤ p ∧ p ≤ 5 ∧ (p = 0 → t = 0)) from Iff.rfl)
  by_cases c1 : ¬ (0 ≤ a)
  · have dc1 : decide (0 ≤ a) = false := decide_eq_false c1
    have E := hid (show decide (SpGood (a, p, t)) = false from decide_eq_false (by rw [E1.out]; omega))
    clear c1
    go_enter Try.func14, Try.ntmps14
    go_wp2
    go_ret
    exact ⟨ret_bool E.out.symm, (by repeat (first | (with_reducible exact Below.refl _ _) | (with_reducible refine Below.setCell ?_ ?_ _; rotate_left; focus (first | omega | (simp; done) | (simp; omega) | (simp only [World.size_alloc, size_setRow, World.size_setCell]; omega))) | (with_reducible refine below_setRow ?_ ?_ _; rotate_left; focus (first | omega | (simp; done) | (simp; omega) | (simp only [World.size_alloc, size_setRow, World.size_setCell]; omega))) | (with_reducible refine Below.alloc ?_ ?_ _; rotate_left; focus (first | omega | (simp; done) | (simp; omega) | (simp only [World.size_alloc, size_setRow, World.size_setCell]; omega))) | (with_reducible refine Below.drew ?_) | (with_reducible refine below_drewN ?_ _) | (with_reducible exact Below.refl _ _)))⟩
  replace c1 : 0 ≤ a := by omega
  have dc1 : decide (0 ≤ a) = true := decide_eq_true c1
  by_cases c2 : ¬ (0 ≤ p)
  · have dc2 : decide (0 ≤ p) = false := decide_eq_false c2
    have E := hid (show decide (SpGood (a, p, t)) = false from decide_eq_false (by rw [E1.out]; omega))
    clear c1 c2
    go_enter Try.func14, Try.ntmps14
    go_wp2
    go_ret
    exact ⟨ret_bool E.out.symm, (by repeat (first | (with_reducible exact Below.refl _ _) | (with_reducible refine Below.setCell ?_ ?_ _; rotate_left; focus (first | omega | (simp; done) | (simp; omega) | (simp only [World.size_alloc, size_setRow, World.size_setCell]; omega))) | (with_reducible refine below_setRow ?_ ?_ _; rotate_left; focus (first | omega | (simp; done) | (simp; omega) | (simp only [World.size_alloc, size_setRow, World.size_setCell]; omega))) | (with_reducible refine Below.alloc ?_ ?_ _; rotate_left; focus (first | omega | (simp; done) | (simp; omega) | (simp only [World.size_alloc, size_setRow, World.size_setCell]; omega))) | (with_reducible refine Below.drew ?_) | (with_reducible refine below_drewN ?_ _) | (with_reducible exact Below.refl _ _)))⟩
  replace c2 : 0 ≤ p := by omega
  have dc2 : decide (0 ≤ p) = true := decide_eq_true c2
  by_cases c3 : ¬ (p ≤ 5)
  · have dc3 : decide (p ≤ 5) = false := decide_eq_false c3
    have E := hid (show decide (SpGood (a, p, t)) = false from decide_eq_false (by rw [E1.out]; omega))
    clear c1 c2 c3
    go_enter Try.func14, Try.ntmps14
    go_wp2
    go_ret
    exact ⟨ret_bool E.out.symm, (by repeat (first | (with_reducible exact Below.refl _ _) | (with_reducible refine Below.setCell ?_ ?_ _; rotate_left; focus (first | omega | (simp; done) | (simp; omega) | (simp only [World.size_alloc, size_setRow, World.size_setCell]; omega))) | (with_reducible refine below_setRow ?_ ?_ _; rotate_left; focus (first | omega | (simp; done) | (simp; omega) | (simp only [World.size_alloc, size_setRow, World.size_setCell]; omega))) | (with_reducible refine Below.alloc ?_ ?_ _; rotate_left; focus (first | omega | (simp; done) | (simp; omega) | (simp only [World.size_alloc, size_setRow, World.size_setCell]; omega))) | (with_reducible refine Below.drew ?_) | (with_reducible refine below_drewN ?_ _) | (with_reducible exact Below.refl _ _)))⟩
  replace c3 : p ≤ 5 := by omega
  have dc3 : decide (p ≤ 5) = true := decide_eq_true c3
  by_cases c4 : p = 0
  · have d4 : (p != 0) = false := by simpa using c4
    by_cases c5 : t = 0
    · have d5 : (t == 0) = true := by simpa using c5
      have E := hid (show decide (SpGood (a, p, t)) = true from decide_eq_true (by rw [E1.out]; omega))
      clear c1 c2 c3 c4 c5
      go_enter Try.func14, Try.ntmps14
      go_wp2
      go_ret
      exact ⟨ret_bool E.out.symm, (by repeat (first | (with_reducible exact Below.refl _ _) | (with_reducible refine Below.setCell ?_ ?_ _; rotate_left; focus (first | omega | (simp; done) | (simp; omega) | (simp only [World.size_alloc, size_setRow, World.size_setCell]; omega))) | (with_reducible refine below_setRow ?_ ?_ _; rotate_left; focus (first | omega | (simp; done) | (simp; omega) | (simp only [World.size_alloc, size_setRow, World.size_setCell]; omega))) | (with_reducible refine Below.alloc ?_ ?_ _; rotate_left; focus (first | omega | (simp; done) | (simp; omega) | (simp only [World.size_alloc, size_setRow, World.size_setCell]; omega))) | (with_reducible refine Below.drew ?_) | (with_reducible refine below_drewN ?_ _) | (with_reducible exact Below.refl _ _)))⟩
    · have d5 : (t == 0) = false := by simpa using c5
      have E := hid (show decide (SpGood (a, p, t)) = false from decide_eq_false (by rw [E1.out]; omega))
      clear c1 c2 c3 c4 c5
      go_enter Try.func14, Try.ntmps14
      go_wp2
      go_ret
      exact ⟨ret_bool E.out.symm, (by repeat (first | (with_reducible exact Below.refl _ _) | (with_reducible refine Below.setCell ?_ ?_ _; rotate_left; focus (first | omega | (simp; done) | (simp; omega) | (simp only [World.size_alloc, size_setRow, World.size_setCell]; omega))) | (with_reducible refine below_setRow ?_ ?_ _; rotate_left; focus (first | omega | (simp; done) | (simp; omega) | (simp only [World.size_alloc, size_setRow, World.size_setCell]; omega))) | (with_reducible refine Below.alloc ?_ ?_ _; rotate_left; focus (first | omega | (simp; done) | (simp; omega) | (simp only [World.size_alloc, size_setRow, World.size_setCell]; omega))) | (with_reducible refine Below.drew ?_) | (with_reducible refine below_drewN ?_ _) | (with_reducible exact Below.refl _ _)))⟩
  · have d4 : (p != 0) = true := by simpa using c4
    have E := hid (show decide (SpGood (a, p, t)) = true from decide_eq_true (by rw [E1.out]; omega))
    clear c1 c2 c3 c4
    go_enter Try.func14, Try.ntmps14
    go_wp2
    go_ret
    exact ⟨ret_bool E.out.symm, (by repeat (first | (with_reducible exact Below.refl _ _) | (with_reducible refine Below.setCell ?_ ?_ _; rotate_left; focus (first | omega | (simp; done) | (simp; omega) | (simp only [World.size_alloc, size_setRow, World.size_setCell]; omega))) | (with_reducible refine below_setRow ?_ ?_ _; rotate_left; focus (first | omega | (simp; done) | (simp; omega) | (simp only [World.size_alloc, size_setRow, World.size_setCell]; omega))) | (with_reducible refine Below.alloc ?_ ?_ _; rotate_left; focus (first | omega | (simp; done) | (simp; omega) | (simp only [World.size_alloc, size_setRow, World.size_setCell]; omega))) | (with_reducible refine Below.drew ?_) | (with_reducible refine below_drewN ?_ _) | (with_reducible exact Below.refl _ _)))⟩
theorem rsphas_any (a p t : Int) (w : World) : Calls Try.prog 22 #[sv a p t] w fun e w' => e = .returned (.bool (decide (spHas p))) ∧ Below w.heap.size w w' := by
  have E1 := hid (show spHas p ↔ (p ≠ 3 ∧ p ≠ 5) from Iff.rfl)
  by_cases c1 : p = 3
  · have d1 : (p != 3) = false := by simpa using c1
    have E := hid (show decide (spHas p) = false from decide_eq_false (by rw [E1.out]; omega))
    clear c1
    go_enter Try.func22, Try.ntmps22
    go_wp2
    go_ret
    exact ⟨ret_bool E.out.symm, (by repeat (first | (with_reducible exact Below.refl _ _) | (with_reducible refine Below.setCell ?_ ?_ _; rotate_left; focus (first | omega | (simp; done) | (simp; omega) | (simp only [World.size_alloc, size_setRow, World.size_setCell]; omega))) | (with_reducible refine below_setRow ?_ ?_ _; rotate_left; focus (first | omega | (simp; done) | (simp; omega) | (simp only [World.size_alloc, size_setRow, World.size_setCell]; omega))) | (with_reducible refine Below.alloc ?_ ?_ _; rotate_left; focus (first | omega | (simp; done) | (simp; omega) | (simp only [World.size_alloc, size_setRow, World.size_setCell]; omega))) | (with_reducible refine Below.drew ?_) | (with_reducible refine below_drewN ?_ _) | (with_reducible exact Below.refl _ _)))⟩
  have d1 : (p != 3) = true := by simpa using c1
  by_cases c2 : p = 5
  · have d2 : (p != 5) = false := by simpa using c2
    have E := hid (show decide (spHas p) = false from decide_eq_false (by rw [E1.out]; omega))
    clear c1 c2
    go_enter Try.func22, Try.ntmps22
    go_wp2
    go_ret
    exact ⟨ret_bool E.out.symm, (by repeat (first | (with_reducible exact Below.refl _ _) | (with_reducible refine Below.setCell ?_ ?_ _; rotate_left; focus (first | omega | (simp; done) | (simp; omega) | (simp only [World.size_alloc, size_setRow, World.size_setCell]; omega))) | (with_reducible refine below_setRow ?_ ?_ _; rotate_left; focus (first | omega | (simp; done) | (simp; omega) | (simp only [World.size_alloc, size_setRow, World.size_setCell]; omega))) | (with_reducible refine Below.alloc ?_ ?_ _; rotate_left; focus (first | omega | (simp; done) | (simp; omega) | (simp only [World.size_alloc, size_setRow, World.size_setCell]; omega))) | (with_reducible refine Below.drew ?_) | (with_reducible refine below_drewN ?_ _) | (with_reducible exact Below.refl _ _)))⟩
  have d2 : (p != 5) = true := by simpa using c2
  have E := hid (show decide (spHas p) = true from decide_eq_true (by rw [E1.out]; omega))
  clear c1 c2
  go_enter Try.func22, Try.ntmps22
  go_wp2
  go_ret
  exact ⟨ret_bool E.out.symm, (by repeat (first | (with_reducible exact Below.refl _ _) | (with_reducible refine Below.setCell ?_ ?_ _; rotate_left; focus (first | omega | (simp; done) | (simp; omega) | (simp only [World.size_alloc, size_setRow, World.size_setCell]; omega))) | (with_reducible refine below_setRow ?_ ?_ _; rotate_left; focus (first | omega | (simp; done) | (simp; omega) | (simp only [World.size_alloc, size_setRow, World.size_setCell]; omega))) | (with_reducible refine Below.alloc ?_ ?_ _; rotate_left; focus (first | omega | (simp; done) | (simp; omega) | (simp only [World.size_alloc, size_setRow, World.size_setCell]; omega))) | (with_reducible refine Below.drew ?_) | (with_reducible refine below_drewN ?_ _) | (with_reducible exact Below.refl _ _)))⟩
set_option maxHeartbeats 2000000 in
theorem rspneed_any (a p t : Int) (w : World) : Calls Try.prog 23 #[sv a p t] w fun e w' => e = .returned (avA (spNeed (a, p, t))) ∧ Below w.heap.size w w' := by
  by_cases c0 : p = 0
  · subst c0
    have E := hid (show spNeed (a, 0, t) = (1, a, 0, 0) by simp [spNeed])
    skip
    rw [E.out]
    go_enter Try.func23, Try.ntmps23
    go_wp2
    refine bodyPost_ret (v := av (1) (a) (0) (0)) (by simp [results, Try.results23, go_sem, incU, inc64]) rfl ⟨rfl, (by repeat (first | (with_reducible exact Below.refl _ _) | (with_reducible refine Below.setCell ?_ ?_ _; rotate_left; focus (first | omega | (simp; done) | (simp; omega) | (simp only [World.size_alloc, size_setRow, World.size_setCell]; omega))) | (with_reducible refine below_setRow ?_ ?_ _; rotate_left; focus (first | omega | (simp; done) | (simp; omega) | (simp only [World.size_alloc, size_setRow, World.size_setCell]; omega))) | (with_reducible refine Below.alloc ?_ ?_ _; rotate_left; focus (first | omega | (simp; done) | (simp; omega) | (simp only [World.size_alloc, size_setRow, World.size_setCell]; omega))) | (with_reducible refine Below.drew ?_) | (with_reducible refine below_drewN ?_ _) | (with_reducible exact Below.refl _ _)))⟩
  have d0 : (p == 0) = false := by simpa using c0
  by_cases c1 : p = 1
  · subst c1
    have E := hid (show spNeed (a, 1, t) = (3, a, t, incU t) by simp [spNeed])
    skip
    rw [E.out]
    go_enter Try.func23, Try.ntmps23
    go_wp2
    refine bodyPost_ret (v := av (3) (a) (t) (incU t)) (by simp [results, Try.results23, go_sem, incU, inc64]) rfl ⟨rfl, (by repeat (first | (with_reducible exact Below.refl _ _) | (with_reducible refine Below.setCell ?_ ?_ _; rotate_left; focus (first | omega | (simp; done) | (simp; omega) | (simp only [World.size_alloc, size_setRow, World.size_setCell]; omega))) | (with_reducible refine below_setRow ?_ ?_ _; rotate_left; focus (first | omega | (simp; done) | (simp; omega) | (simp only [World.size_alloc, size_setRow, World.size_setCell]; omega))) | (with_reducible refine Below.alloc ?_ ?_ _; rotate_left; focus (first | omega | (simp; done) | (simp; omega) | (simp only [World.size_alloc, size_setRow, World.size_setCell]; omega))) | (with_reducible refine Below.drew ?_) | (with_reducible refine below_drewN ?_ _) | (with_reducible exact Below.refl _ _)))⟩
  have d1 : (p == 1) = false := by simpa using c1
  by_cases c2 : p = 2
  · subst c2
    have E := hid (show spNeed (a, 2, t) = (1, inc64 a, 0, 0) by simp [spNeed])
    skip
    rw [E.out]
    go_enter Try.func23, Try.ntmps23
    go_wp2
    refine bodyPost_ret (v := av (1) (inc64 a) (0) (0)) (by simp [results, Try.results23, go_sem, incU, inc64]) rfl ⟨rfl, (by repeat (first | (with_reducible exact Below.refl _ _) | (with_reducible refine Below.setCell ?_ ?_ _; rotate_left; focus (first | omega | (simp; done) | (simp; omega) | (simp only [World.size_alloc, size_setRow, World.size_setCell]; omega))) | (with_reducible refine below_setRow ?_ ?_ _; rotate_left; focus (first | omega | (simp; done) | (simp; omega) | (simp only [World.size_alloc, size_setRow, World.size_setCell]; omega))) | (with_reducible refine Below.alloc ?_ ?_ _; rotate_left; focus (first | omega | (simp; done) | (simp; omega) | (simp only [World.size_alloc, size_setRow, World.size_setCell]; omega))) | (with_reducible refine Below.drew ?_) | (with_reducible refine below_drewN ?_ _) | (with_reducible exact Below.refl _ _)))⟩
  have d2 : (p == 2) = false := by simpa using c2
  have E := hid (show spNeed (a, p, t) = (2, inc64 a, 0, incU t) by simp [spNeed, c0, c1, c2])
  clear c0 c1 c2
  rw [E.out]
  go_enter Try.func23, Try.ntmps23
  go_wp2
  refine bodyPost_ret (v := av (2) (inc64 a) (0) (incU t)) (by simp [results, Try.results23, go_sem, incU, inc64]) rfl ⟨rfl, (by repeat (first | (with_reducible exact Below.refl _ _) | (with_reducible refine Below.setCell ?_ ?_ _; rotate_left; focus (first | omega | (simp; done) | (simp; omega) | (simp only [World.size_alloc, size_setRow, World.size_setCell]; omega))) | (with_reducible refine below_setRow ?_ ?_ _; rotate_left; focus (first | omega | (simp; done) | (simp; omega) | (simp only [World.size_alloc, size_setRow, World.size_setCell]; omega))) | (with_reducible refine Below.alloc ?_ ?_ _; rotate_left; focus (first | omega | (simp; done) | (simp; omega) | (simp only [World.size_alloc, size_setRow, World.size_setCell]; omega))) | (with_reducible refine Below.drew ?_) | (with_reducible refine below_drewN ?_ _) | (with_reducible exact Below.refl _ _)))⟩
def RtPost (s : Spn) (w : World) (e : Ending) (w' : World) : Prop := e = .returned (svS s) ∧ Below w.heap.size w w'
set_option maxHeartbeats 4000000 in
theorem rsptake_any (a p t x : Int) (y : Bool) (w : World) : Calls Try.prog 25 #[sv a p t, gv x y] w (RtPost (spTake (a, p, t) (x, y)) w) := by
  by_cases c1 : p = 1
  · subst c1
    cases y
    · skip
      have E := hid (show spTake (a, 1, t) (x, false) = (a, 0, 0) by simp [spTake])
      rw [E.out]
      skip
      go_enter Try.func25, Try.ntmps25
      go_wp2
      refine bodyPost_ret (v := sv (a) (0) (0)) (by simp [results, Try.results25, go_sem]) rfl ⟨rfl, (by repeat (first | (with_reducible exact Below.refl _ _) | (with_reducible refine Below.setCell ?_ ?_ _; rotate_left; focus (first | omega | (simp; done) | (simp; omega) | (simp only [World.size_alloc, size_setRow, World.size_setCell]; omega))) | (with_reducible refine below_setRow ?_ ?_ _; rotate_left; focus (first | omega | (simp; done) | (simp; omega) | (simp only [World.size_alloc, size_setRow, World.size_setCell]; omega))) | (with_reducible refine Below.alloc ?_ ?_ _; rotate_left; focus (first | omega | (simp; done) | (simp; omega) | (simp only [World.size_alloc, size_setRow, World.size_setCell]; omega))) | (with_reducible refine Below.drew ?_) | (with_reducible refine below_drewN ?_ _) | (with_reducible exact Below.refl _ _)))⟩
    · skip
      have E := hid (show spTake (a, 1, t) (x, true) = (a, 2, t) by simp [spTake])
      rw [E.out]
      skip
      go_enter Try.func25, Try.ntmps25
      go_wp2
      refine bodyPost_ret (v := sv (a) (2) (t)) (by simp [results, Try.results25, go_sem]) rfl ⟨rfl, (by repeat (first | (with_reducible exact Below.refl _ _) | (with_reducible refine Below.setCell ?_ ?_ _; rotate_left; focus (first | omega | (simp; done) | (simp; omega) | (simp only [World.size_alloc, size_setRow, World.size_setCell]; omega))) | (with_reducible refine below_setRow ?_ ?_ _; rotate_left; focus (first | omega | (simp; done) | (simp; omega) | (simp only [World.size_alloc, size_setRow, World.size_setCell]; omega))) | (with_reducible refine Below.alloc ?_ ?_ _; rotate_left; focus (first | omega | (simp; done) | (simp; omega) | (simp only [World.size_alloc, size_setRow, World.size_setCell]; omega))) | (with_reducible refine Below.drew ?_) | (with_reducible refine below_drewN ?_ _) | (with_reducible exact Below.refl _ _)))⟩
  have d1 : (p == 1) = false := by simpa using c1
  cases y
  · skip
    have E := hid (show spTake (a, p, t) (x, false) = (a, p, t) by simp [spTake, c1])
    rw [E.out]
    clear c1
    go_enter Try.func25, Try.ntmps25
    go_wp2
    refine bodyPost_ret (v := sv (a) (p) (t)) (by simp [results, Try.results25, go_sem]) rfl ⟨rfl, (by repeat (first | (with_reducible exact Below.refl _ _) | (with_reducible refine Below.setCell ?_ ?_ _; rotate_left; focus (first | omega | (simp; done) | (simp; omega) | (simp only [World.size_alloc, size_setRow, World.size_setCell]; omega))) | (with_reducible refine below_setRow ?_ ?_ _; rotate_left; focus (first | omega | (simp; done) | (simp; omega) | (simp only [World.size_alloc, size_setRow, World.size_setCell]; omega))) | (with_reducible refine Below.alloc ?_ ?_ _; rotate_left; focus (first | omega | (simp; done) | (simp; omega) | (simp only [World.size_alloc, size_setRow, World.size_setCell]; omega))) | (with_reducible refine Below.drew ?_) | (with_reducible refine below_drewN ?_ _) | (with_reducible exact Below.refl _ _)))⟩
  by_cases c0 : p = 0
  · subst c0
    have E := hid (show spTake (a, 0, t) (x, true) = (a, 1, x) by simp [spTake])
    rw [E.out]
    clear c1 d1
    go_enter Try.func25, Try.ntmps25
    go_wp2
    go_region
    all_goals go_wp2
    all_goals refine bodyPost_ret (v := sv (a) (1) (x)) (by simp [results, Try.results25, go_sem]) rfl ⟨rfl, (by repeat (first | (with_reducible exact Below.refl _ _) | (with_reducible refine Below.setCell ?_ ?_ _; rotate_left; focus (first | omega | (simp; done) | (simp; omega) | (simp only [World.size_alloc, size_setRow, World.size_setCell]; omega))) | (with_reducible refine below_setRow ?_ ?_ _; rotate_left; focus (first | omega | (simp; done) | (simp; omega) | (simp only [World.size_alloc, size_setRow, World.size_setCell]; omega))) | (with_reducible refine Below.alloc ?_ ?_ _; rotate_left; focus (first | omega | (simp; done) | (simp; omega) | (simp only [World.size_alloc, size_setRow, World.size_setCell]; omega))) | (with_reducible refine Below.drew ?_) | (with_reducible refine below_drewN ?_ _) | (with_reducible exact Below.refl _ _)))⟩
  have d0 : (p == 0) = false := by simpa using c0
  by_cases c2 : p = 2
  · subst c2
    by_cases c3 : x = t
    · subst c3
      have d3 : (x == x) = true := by simp
      have E := hid (show spTake (a, 2, x) (x, true) = (a, 3, x) by simp [spTake])
      rw [E.out]
      clear c1 c0
      go_enter Try.func25, Try.ntmps25
      go_wp2
      refine bodyPost_ret (v := sv (a) (3) (x)) (by simp [results, Try.results25, go_sem]) rfl ⟨rfl, (by repeat (first | (with_reducible exact Below.refl _ _) | (with_reducible refine Below.setCell ?_ ?_ _; rotate_left; focus (first | omega | (simp; done) | (simp; omega) | (simp only [World.size_alloc, size_setRow, World.size_setCell]; omega))) | (with_reducible refine below_setRow ?_ ?_ _; rotate_left; focus (first | omega | (simp; done) | (simp; omega) | (simp only [World.size_alloc, size_setRow, World.size_setCell]; omega))) | (with_reducible refine Below.alloc ?_ ?_ _; rotate_left; focus (first | omega | (simp; done) | (simp; omega) | (simp only [World.size_alloc, size_setRow, World.size_setCell]; omega))) | (with_reducible refine Below.drew ?_) | (with_reducible refine below_drewN ?_ _) | (with_reducible exact Below.refl _ _)))⟩
    · have d3 : (x == t) = false := by simpa using c3
      have E := hid (show spTake (a, 2, t) (x, true) = (a, 2, t) by simp [spTake, c3])
      rw [E.out]
      clear c1 c0 c3
      go_enter Try.func25, Try.ntmps25
      go_wp2
      refine bodyPost_ret (v := sv (a) (2) (t)) (by simp [results, Try.results25, go_sem]) rfl ⟨rfl, (by repeat (first | (with_reducible exact Below.refl _ _) | (with_reducible refine Below.setCell ?_ ?_ _; rotate_left; focus (first | omega | (simp; done) | (simp; omega) | (simp only [World.size_alloc, size_setRow, World.size_setCell]; omega))) | (with_reducible refine below_setRow ?_ ?_ _; rotate_left; focus (first | omega | (simp; done) | (simp; omega) | (simp only [World.size_alloc, size_setRow, World.size_setCell]; omega))) | (with_reducible refine Below.alloc ?_ ?_ _; rotate_left; focus (first | omega | (simp; done) | (simp; omega) | (simp only [World.size_alloc, size_setRow, World.size_setCell]; omega))) | (with_reducible refine Below.drew ?_) | (with_reducible refine below_drewN ?_ _) | (with_reducible exact Below.refl _ _)))⟩
  have d2 : (p == 2) = false := by simpa using c2
  by_cases c4 : p = 4
  · subst c4
    have E := hid (show spTake (a, 4, t) (x, true) = (a, 5, t) by simp [spTake])
    rw [E.out]
    clear c1 c0 c2 d1 d0 d2
    go_enter Try.func25, Try.ntmps25
    go_wp2
    refine bodyPost_ret (v := sv (a) (5) (t)) (by simp [results, Try.results25, go_sem]) rfl ⟨rfl, (by repeat (first | (with_reducible exact Below.refl _ _) | (with_reducible refine Below.setCell ?_ ?_ _; rotate_left; focus (first | omega | (simp; done) | (simp; omega) | (simp only [World.size_alloc, size_setRow, World.size_setCell]; omega))) | (with_reducible refine below_setRow ?_ ?_ _; rotate_left; focus (first | omega | (simp; done) | (simp; omega) | (simp only [World.size_alloc, size_setRow, World.size_setCell]; omega))) | (with_reducible refine Below.alloc ?_ ?_ _; rotate_left; focus (first | omega | (simp; done) | (simp; omega) | (simp only [World.size_alloc, size_setRow, World.size_setCell]; omega))) | (with_reducible refine Below.drew ?_) | (with_reducible refine below_drewN ?_ _) | (with_reducible exact Below.refl _ _)))⟩
  have d4 : (p == 4) = false := by simpa using c4
  have E := hid (show spTake (a, p, t) (x, true) = (a, p, t) by simp [spTake, c1, c0, c2, c4])
  rw [E.out]
  clear c1 c0 c2 c4
  go_enter Try.func25, Try.ntmps25
  go_wp2
  refine bodyPost_ret (v := sv (a) (p) (t)) (by simp [results, Try.results25, go_sem]) rfl ⟨rfl, (by repeat (first | (with_reducible exact Below.refl _ _) | (with_reducible refine Below.setCell ?_ ?_ _; rotate_left; focus (first | omega | (simp; done) | (simp; omega) | (simp only [World.size_alloc, size_setRow, World.size_setCell]; omega))) | (with_reducible refine below_setRow ?_ ?_ _; rotate_left; focus (first | omega | (simp; done) | (simp; omega) | (simp only [World.size_alloc, size_setRow, World.size_setCell]; omega))) | (with_reducible refine Below.alloc ?_ ?_ _; rotate_left; focus (first | omega | (simp; done) | (simp; omega) | (simp only [World.size_alloc, size_setRow, World.size_setCell]; omega))) | (with_reducible refine Below.drew ?_) | (with_reducible refine below_drewN ?_ _) | (with_reducible exact Below.refl _ _)))⟩
end Go.Proofs.Ytaeanmkbongfcaa
