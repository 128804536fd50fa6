/- package spin: Take, Leave. No condition. -/
import Derived.Test.YtaeanmkbongfcaaSp3
namespace Go.Proofs.Ytaeanmkbongfcaa
open Go.RowKit
@[reducible] def svS (s : Spn) : Value := sv s.1 s.2.1 s.2.2
def spTakeF (s : Spn) (g : Int × Bool) : Spn × Int := if ¬ SpGood s then ((0, 0, 0), 150) else if ¬ spHas s.2.1 then ((0, 0, 0), 2) else (spTake s g, 0)
theorem spTakeF_ok {s : Spn} {g : Int × Bool} (hg : SpGood s) (hh : spHas s.2.1) : spTakeF s g = (spTake s g, 0) := by
  rw [spTakeF, if_neg (not_not_intro hg), if_neg (not_not_intro hh)]
def TkPost (s : Spn) (g : Int × Bool) (w : World) (e : Ending) (w' : World) : Prop := e = .returned (.tuple #[svS (spTakeF s g).1, .int .i64 (spTakeF s g).2]) ∧ Below w.heap.size w w'
def ThPost (s : Spn) (w : World) (e : Ending) (w' : World) : Prop := e = .returned (svS s) ∧ Below w.heap.size w w'
set_option maxHeartbeats 1000000 in
theorem then1n_any (a p t x : Int) (w : World) : Calls Try.prog 60 #[sv a p t, gv x false] w (ThPost (a, 0, 0) w) := by
  have HB := hid (Below.refl w.heap.size w)
  have bx := below_box w (.cells (scs a p t) 38)
  replace HB := hid (below_then HB.out bx)
  clear bx
  have PS := hid (Blk.new w 38 (scs a p t))
  have bx := below_box (w.alloc (.cells (scs a p t) 38)) (.cells #[.int .u64 x, .bool false] 54)
  replace PS := hid (PS.out.step bx); replace HB := hid (below_then HB.out bx)
  clear bx
  have bx := below_box ((w.alloc (.cells (scs a p t) 38)).alloc (.cells #[.int .u64 x, .bool false] 54)) (.cells (scs 0 0 0) 38)
  replace PS := hid (PS.out.step bx); replace HB := hid (below_then HB.out bx)
  clear bx
  have PR := hid (Blk.new3 w 38 (scs 0 0 0) (.cells (scs a p t) 38) (.cells #[.int .u64 x, .bool false] 54))
  go_enter Try.func60, Try.ntmps60
  go_wp2_with fail
  generalize ((w.alloc (.cells (scs a p t) 38)).alloc (.cells #[.int .u64 x, .bool false] 54)).alloc (.cells (scs 0 0 0) 38) = W0 at *
  refine (ask_any a W0).mono ?_
  rintro e w1 ⟨rfl, hb⟩
  replace PS := hid (PS.out.step hb); replace PR := hid (PR.out.step hb); replace HB := hid (below_then HB.out hb)
  clear hb
  obtain ⟨y00, y01, y02, yf0⟩ := PR.out.cells3
  go_wp2
  obtain ⟨q0, q1, q2, qf⟩ := (((PR.out.setCell 0 (.int .i64 a)).setCell 1 (.int .i64 0)).setCell 2 (.int .u64 0)).cells3
  refine bodyPost_ret (v := sv a 0 0) (by simp [results, Try.results60, go_sem, q0, q1, q2]) rfl ⟨rfl, ((HB.out.setCell (by simp <;> omega) _).setCell (by simp <;> omega) _).setCell (by simp <;> omega) _⟩
set_option maxHeartbeats 1000000 in
theorem then1y_any (a p t x : Int) (w : World) : Calls Try.prog 60 #[sv a p t, gv x true] w (ThPost (a, 2, t) w) := by
  go_enter Try.func60, Try.ntmps60
  go_wp2
  refine bodyPost_ret (v := sv a 2 t) (by simp [results, Try.results60, go_sem]) rfl ⟨rfl, (by repeat (first | (with_reducible exact Below.refl _ _) | (with_reducible refine Below.setCell ?_ ?_ _; rotate_left; focus (first | omega | (simp; done) | (simp; omega) | (simp only [World.size_alloc, size_setRow, World.size_setCell]; omega))) | (with_reducible refine below_setRow ?_ ?_ _; rotate_left; focus (first | omega | (simp; done) | (simp; omega) | (simp only [World.size_alloc, size_setRow, World.size_setCell]; omega))) | (with_reducible refine Below.alloc ?_ ?_ _; rotate_left; focus (first | omega | (simp; done) | (simp; omega) | (simp only [World.size_alloc, size_setRow, World.size_setCell]; omega))) | (with_reducible refine Below.drew ?_) | (with_reducible refine below_drewN ?_ _) | (with_reducible exact Below.refl _ _)))⟩
set_option maxHeartbeats 1000000 in
theorem then2n_any (a p t x : Int) (y : Bool) (w : World) (h : x ≠ t) : Calls Try.prog 62 #[sv a p t, gv x y] w (ThPost (a, p, t) w) := by
  have h1 : (x == t) = false := by simpa using h
  clear h
  go_enter Try.func62, Try.ntmps62
  go_wp2
  refine bodyPost_ret (v := sv a p t) (by simp [results, Try.results62, go_sem]) rfl ⟨rfl, (by repeat (first | (with_reducible exact Below.refl _ _) | (with_reducible refine Below.setCell ?_ ?_ _; rotate_left; focus (first | omega | (simp; done) | (simp; omega) | (simp only [World.size_alloc, size_setRow, World.size_setCell]; omega))) | (with_reducible refine below_setRow ?_ ?_ _; rotate_left; focus (first | omega | (simp; done) | (simp; omega) | (simp only [World.size_alloc, size_setRow, World.size_setCell]; omega))) | (with_reducible refine Below.alloc ?_ ?_ _; rotate_left; focus (first | omega | (simp; done) | (simp; omega) | (simp only [World.size_alloc, size_setRow, World.size_setCell]; omega))) | (with_reducible refine Below.drew ?_) | (with_reducible refine below_drewN ?_ _) | (with_reducible exact Below.refl _ _)))⟩
set_option maxRecDepth 100000 in
set_option maxHeartbeats 4000000 in
theorem sptake_bad (a p t x : Int) (y : Bool) (w : World) (hg : ¬ SpGood (a, p, t)) : Calls Try.prog 24 #[sv a p t, gv x y] w (TkPost (a, p, t) (x, y) w) := by
  have HB := hid (Below.refl w.heap.size w)
  have HG := hid hg
  clear hg
  have bx := below_box w (.cells (scs a p t) 38)
  replace HB := hid (below_then HB.out bx)
  clear bx
  have PS := hid (Blk.new w 38 (scs a p t))
  have bx := below_box (w.alloc (.cells (scs a p t) 38)) (.cells #[.int .u64 x, .bool y] 54)
  replace PS := hid (PS.out.step bx); replace HB := hid (below_then HB.out bx)
  clear bx
  have PG := hid (Blk.new2 w 54 #[.int .u64 x, .bool y] (.cells (scs a p t) 38))
  have bx := below_box ((w.alloc (.cells (scs a p t) 38)).alloc (.cells #[.int .u64 x, .bool y] 54)) (.cells (scs 0 0 0) 38)
  replace PS := hid (PS.out.step bx); replace PG := hid (PG.out.step bx); replace HB := hid (below_then HB.out bx)
  clear bx
  have PR := hid (Blk.new3 w 38 (scs 0 0 0) (.cells (scs a p t) 38) (.cells #[.int .u64 x, .bool y] 54))
  obtain ⟨y00, y01, y02, yf0⟩ := PS.out.cells3
  obtain ⟨y10, y11, yf1⟩ := PG.out.cells2
  obtain ⟨y20, y21, y22, yf2⟩ := PR.out.cells3
  go_enter Try.func24, Try.ntmps24
  go_wp2_with fail
  clear y00 y01 y02 yf0 y10 y11 yf1 y20 y21 y22 yf2
  generalize ((w.alloc (.cells (scs a p t) 38)).alloc (.cells #[.int .u64 x, .bool y] 54)).alloc (.cells (scs 0 0 0) 38) = W0 at *
  refine (spcheck_any a p t W0).mono ?_
  rintro e w1 ⟨rfl, hb⟩
  replace PS := hid (PS.out.step hb); replace PG := hid (PG.out.step hb); replace PR := hid (PR.out.step hb); replace HB := hid (below_then HB.out hb)
  clear hb
  rw [show spCheckC (a, p, t) = 150 from if_neg HG.out]
  obtain ⟨y00, y01, y02, yf0⟩ := PR.out.cells3
  go_wp2
  obtain ⟨q0, q1, q2, qf⟩ := (((PR.out.setCell 0 (.int .i64 0)).setCell 1 (.int .i64 0)).setCell 2 (.int .u64 0)).cells3
  refine bodyPost_ret (v := .tuple #[sv 0 0 0, .int .i64 150]) (by simp [results, Try.results24, go_sem, q0, q1, q2]) rfl ⟨?_, ((HB.out.setCell (by simp <;> omega) _).setCell (by simp <;> omega) _).setCell (by simp <;> omega) _⟩
  rw [show spTakeF (a, p, t) (x, y) = ((0, 0, 0), 150) from if_pos HG.out]
set_option maxRecDepth 100000 in
set_option maxHeartbeats 4000000 in
theorem sptake3 (a t x : Int) (y : Bool) (w : World) (hg : SpGood (a, 3, t)) : Calls Try.prog 24 #[sv a 3 t, gv x y] w (TkPost (a, 3, t) (x, y) w) := by
  have HB := hid (Below.refl w.heap.size w)
  have HG := hid hg
  clear hg
  have bx := below_box w (.cells (scs a 3 t) 38)
  replace HB := hid (below_then HB.out bx)
  clear bx
  have PS := hid (Blk.new w 38 (scs a 3 t))
  have bx := below_box (w.alloc (.cells (scs a 3 t) 38)) (.cells #[.int .u64 x, .bool y] 54)
  replace PS := hid (PS.out.step bx); replace HB := hid (below_then HB.out bx)
  clear bx
  have PG := hid (Blk.new2 w 54 #[.int .u64 x, .bool y] (.cells (scs a 3 t) 38))
  have bx := below_box ((w.alloc (.cells (scs a 3 t) 38)).alloc (.cells #[.int .u64 x, .bool y] 54)) (.cells (scs 0 0 0) 38)
  replace PS := hid (PS.out.step bx); replace PG := hid (PG.out.step bx); replace HB := hid (below_then HB.out bx)
  clear bx
  have PR := hid (Blk.new3 w 38 (scs 0 0 0) (.cells (scs a 3 t) 38) (.cells #[.int .u64 x, .bool y] 54))
  obtain ⟨y00, y01, y02, yf0⟩ := PS.out.cells3
  obtain ⟨y10, y11, yf1⟩ := PG.out.cells2
  obtain ⟨y20, y21, y22, yf2⟩ := PR.out.cells3
  go_enter Try.func24, Try.ntmps24
  go_wp2_with fail
  clear y00 y01 y02 yf0 y10 y11 yf1 y20 y21 y22 yf2
  generalize ((w.alloc (.cells (scs a 3 t) 38)).alloc (.cells #[.int .u64 x, .bool y] 54)).alloc (.cells (scs 0 0 0) 38) = W0 at *
  refine (spcheck_any a 3 t W0).mono ?_
  rintro e w1 ⟨rfl, hb⟩
  replace PS := hid (PS.out.step hb); replace PG := hid (PG.out.step hb); replace PR := hid (PR.out.step hb); replace HB := hid (below_then HB.out hb)
  clear hb
  rw [show spCheckC (a, 3, t) = 0 from if_pos HG.out]
  obtain ⟨y00, y01, y02, yf0⟩ := PS.out.cells3
  go_wp2_with fail
  clear y00 y01 y02 yf0
  refine (spneed_any a 3 t w1).mono ?_
  rintro e w2 ⟨rfl, hb⟩
  replace PS := hid (PS.out.step hb); replace PG := hid (PG.out.step hb); replace PR := hid (PR.out.step hb); replace HB := hid (below_then HB.out hb)
  clear hb
  rw [show spNeedF (a, 3, t) = ((0, 0, 0, 0), false) from if_neg (fun h => h.2.1 rfl)]
  dsimp only
  have bx := below_box w2 (.cells (acs 0 0 0 0) 49)
  replace PS := hid (PS.out.step bx); replace PG := hid (PG.out.step bx); replace PR := hid (PR.out.step bx); replace HB := hid (below_then HB.out bx)
  clear bx
  have PA := hid (Blk.new w2 49 (acs 0 0 0 0))
  obtain ⟨y00, y01, y02, yf0⟩ := PR.out.cells3
  go_wp2
  obtain ⟨q0, q1, q2, qf⟩ := (((PR.out.setCell 0 (.int .i64 0)).setCell 1 (.int .i64 0)).setCell 2 (.int .u64 0)).cells3
  refine bodyPost_ret (v := .tuple #[sv 0 0 0, .int .i64 2]) (by simp [results, Try.results24, go_sem, q0, q1, q2]) rfl ⟨?_, ((HB.out.setCell (by simp <;> omega) _).setCell (by simp <;> omega) _).setCell (by simp <;> omega) _⟩
  rw [show spTakeF (a, 3, t) (x, y) = ((0, 0, 0), 2) by rw [spTakeF, if_neg (not_not_intro HG.out), if_pos (fun h => h.1 rfl)]]
set_option maxRecDepth 100000 in
set_option maxHeartbeats 4000000 in
theorem sptake5 (a t x : Int) (y : Bool) (w : World) (hg : SpGood (a, 5, t)) : Calls Try.prog 24 #[sv a 5 t, gv x y] w (TkPost (a, 5, t) (x, y) w) := by
  have HB := hid (Below.refl w.heap.size w)
  have HG := hid hg
  clear hg
  have bx := below_box w (.cells (scs a 5 t) 38)
  replace HB := hid (below_then HB.out bx)
  clear bx
  have PS := hid (Blk.new w 38 (scs a 5 t))
  have bx := below_box (w.alloc (.cells (scs a 5 t) 38)) (.cells #[.int .u64 x, .bool y] 54)
  replace PS := hid (PS.out.step bx); replace HB := hid (below_then HB.out bx)
  clear bx
  have PG := hid (Blk.new2 w 54 #[.int .u64 x, .bool y] (.cells (scs a 5 t) 38))
  have bx := below_box ((w.alloc (.cells (scs a 5 t) 38)).alloc (.cells #[.int .u64 x, .bool y] 54)) (.cells (scs 0 0 0) 38)
  replace PS := hid (PS.out.step bx); replace PG := hid (PG.out.step bx); replace HB := hid (below_then HB.out bx)
  clear bx
  have PR := hid (Blk.new3 w 38 (scs 0 0 0) (.cells (scs a 5 t) 38) (.cells #[.int .u64 x, .bool y] 54))
  obtain ⟨y00, y01, y02, yf0⟩ := PS.out.cells3
  obtain ⟨y10, y11, yf1⟩ := PG.out.cells2
  obtain ⟨y20, y21, y22, yf2⟩ := PR.out.cells3
  go_enter Try.func24, Try.ntmps24
  go_wp2_with fail
  clear y00 y01 y02 yf0 y10 y11 yf1 y20 y21 y22 yf2
  generalize ((w.alloc (.cells (scs a 5 t) 38)).alloc (.cells #[.int .u64 x, .bool y] 54)).alloc (.cells (scs 0 0 0) 38) = W0 at *
  refine (spcheck_any a 5 t W0).mono ?_
  rintro e w1 ⟨rfl, hb⟩
  replace PS := hid (PS.out.step hb); replace PG := hid (PG.out.step hb); replace PR := hid (PR.out.step hb); replace HB := hid (below_then HB.out hb)
  clear hb
  rw [show spCheckC (a, 5, t) = 0 from if_pos HG.out]
  obtain ⟨y00, y01, y02, yf0⟩ := PS.out.cells3
  go_wp2_with fail
  clear y00 y01 y02 yf0
  refine (spneed_any a 5 t w1).mono ?_
  rintro e w2 ⟨rfl, hb⟩
  replace PS := hid (PS.out.step hb); replace PG := hid (PG.out.step hb); replace PR := hid (PR.out.step hb); replace HB := hid (below_then HB.out hb)
  clear hb
  rw [show spNeedF (a, 5, t) = ((0, 0, 0, 0), false) from if_neg (fun h => h.2.2 rfl)]
  dsimp only
  have bx := below_box w2 (.cells (acs 0 0 0 0) 49)
  replace PS := hid (PS.out.step bx); replace PG := hid (PG.out.step bx); replace PR := hid (PR.out.step bx); replace HB := hid (below_then HB.out bx)
  clear bx
  have PA := hid (Blk.new w2 49 (acs 0 0 0 0))
  obtain ⟨y00, y01, y02, yf0⟩ := PR.out.cells3
  go_wp2
  obtain ⟨q0, q1, q2, qf⟩ := (((PR.out.setCell 0 (.int .i64 0)).setCell 1 (.int .i64 0)).setCell 2 (.int .u64 0)).cells3
  refine bodyPost_ret (v := .tuple #[sv 0 0 0, .int .i64 2]) (by simp [results, Try.results24, go_sem, q0, q1, q2]) rfl ⟨?_, ((HB.out.setCell (by simp <;> omega) _).setCell (by simp <;> omega) _).setCell (by simp <;> omega) _⟩
  rw [show spTakeF (a, 5, t) (x, y) = ((0, 0, 0), 2) by rw [spTakeF, if_neg (not_not_intro HG.out), if_pos (fun h => h.2 rfl)]]
set_option maxRecDepth 100000 in
set_option maxHeartbeats 4000000 in
theorem sptakeS0 (a t x : Int) (w : World) (hg : SpGood (a, 0, t)) : Calls Try.prog 24 #[sv a 0 t, gv x false] w (TkPost (a, 0, t) (x, false) w) := by
  have HB := hid (Below.refl w.heap.size w)
  have HG := hid hg
  clear hg
  have bx := below_box w (.cells (scs a 0 t) 38)
  replace HB := hid (below_then HB.out bx)
  clear bx
  have PS := hid (Blk.new w 38 (scs a 0 t))
  have bx := below_box (w.alloc (.cells (scs a 0 t) 38)) (.cells #[.int .u64 x, .bool false] 54)
  replace PS := hid (PS.out.step bx); replace HB := hid (below_then HB.out bx)
  clear bx
  have PG := hid (Blk.new2 w 54 #[.int .u64 x, .bool false] (.cells (scs a 0 t) 38))
  have bx := below_box ((w.alloc (.cells (scs a 0 t) 38)).alloc (.cells #[.int .u64 x, .bool false] 54)) (.cells (scs 0 0 0) 38)
  replace PS := hid (PS.out.step bx); replace PG := hid (PG.out.step bx); replace HB := hid (below_then HB.out bx)
  clear bx
  have PR := hid (Blk.new3 w 38 (scs 0 0 0) (.cells (scs a 0 t) 38) (.cells #[.int .u64 x, .bool false] 54))
  obtain ⟨y00, y01, y02, yf0⟩ := PS.out.cells3
  obtain ⟨y10, y11, yf1⟩ := PG.out.cells2
  obtain ⟨y20, y21, y22, yf2⟩ := PR.out.cells3
  go_enter Try.func24, Try.ntmps24
  go_wp2_with fail
  clear y00 y01 y02 yf0 y10 y11 yf1 y20 y21 y22 yf2
  generalize ((w.alloc (.cells (scs a 0 t) 38)).alloc (.cells #[.int .u64 x, .bool false] 54)).alloc (.cells (scs 0 0 0) 38) = W0 at *
  refine (spcheck_any a 0 t W0).mono ?_
  rintro e w1 ⟨rfl, hb⟩
  replace PS := hid (PS.out.step hb); replace PG := hid (PG.out.step hb); replace PR := hid (PR.out.step hb); replace HB := hid (below_then HB.out hb)
  clear hb
  rw [show spCheckC (a, 0, t) = 0 from if_pos HG.out]
  obtain ⟨y00, y01, y02, yf0⟩ := PS.out.cells3
  go_wp2_with fail
  clear y00 y01 y02 yf0
  refine (spneed_any a 0 t w1).mono ?_
  rintro e w2 ⟨rfl, hb⟩
  replace PS := hid (PS.out.step hb); replace PG := hid (PG.out.step hb); replace PR := hid (PR.out.step hb); replace HB := hid (below_then HB.out hb)
  clear hb
  rw [show spNeedF (a, 0, t) = ((1, a, 0, 0), true) from if_pos ⟨HG.out, show (0 : Int) ≠ 3 ∧ (0 : Int) ≠ 5 by decide⟩]
  dsimp only
  have bx := below_box w2 (.cells (acs 1 a 0 0) 49)
  replace PS := hid (PS.out.step bx); replace PG := hid (PG.out.step bx); replace PR := hid (PR.out.step bx); replace HB := hid (below_then HB.out bx)
  clear bx
  have PA := hid (Blk.new w2 49 (acs 1 a 0 0))
  obtain ⟨y00, y01, y02, yf0⟩ := PS.out.cells3
  obtain ⟨y10, y11, yf1⟩ := PG.out.cells2
  obtain ⟨y20, y21, y22, yf2⟩ := PR.out.cells3
  obtain ⟨y30, y31, y32, y33, yf3⟩ := PA.out.cells4
  go_wp2
  obtain ⟨q0, q1, q2, qf⟩ := (((PR.out.setCell 0 (.int .i64 a)).setCell 1 (.int .i64 0)).setCell 2 (.int .u64 t)).cells3
  refine bodyPost_ret (v := .tuple #[sv a 0 t, .int .i64 0]) (by simp [results, Try.results24, go_sem, q0, q1, q2]) rfl ⟨?_, ((HB.out.setCell (by simp <;> omega) _).setCell (by simp <;> omega) _).setCell (by simp <;> omega) _⟩
  rw [show spTakeF (a, 0, t) (x, false) = ((a, 0, t), 0) from (spTakeF_ok HG.out (show (0 : Int) ≠ 3 ∧ (0 : Int) ≠ 5 by decide)).trans (by simp [spTake])]
set_option maxRecDepth 100000 in
set_option maxHeartbeats 4000000 in
theorem sptakeS2 (a t x : Int) (w : World) (hg : SpGood (a, 2, t)) : Calls Try.prog 24 #[sv a 2 t, gv x false] w (TkPost (a, 2, t) (x, false) w) := by
  have HB := hid (Below.refl w.heap.size w)
  have HG := hid hg
  clear hg
  have bx := below_box w (.cells (scs a 2 t) 38)
  replace HB := hid (below_then HB.out bx)
  clear bx
  have PS := hid (Blk.new w 38 (scs a 2 t))
  have bx := below_box (w.alloc (.cells (scs a 2 t) 38)) (.cells #[.int .u64 x, .bool false] 54)
  replace PS := hid (PS.out.step bx); replace HB := hid (below_then HB.out bx)
  clear bx
  have PG := hid (Blk.new2 w 54 #[.int .u64 x, .bool false] (.cells (scs a 2 t) 38))
  have bx := below_box ((w.alloc (.cells (scs a 2 t) 38)).alloc (.cells #[.int .u64 x, .bool false] 54)) (.cells (scs 0 0 0) 38)
  replace PS := hid (PS.out.step bx); replace PG := hid (PG.out.step bx); replace HB := hid (below_then HB.out bx)
  clear bx
  have PR := hid (Blk.new3 w 38 (scs 0 0 0) (.cells (scs a 2 t) 38) (.cells #[.int .u64 x, .bool false] 54))
  obtain ⟨y00, y01, y02, yf0⟩ := PS.out.cells3
  obtain ⟨y10, y11, yf1⟩ := PG.out.cells2
  obtain ⟨y20, y21, y22, yf2⟩ := PR.out.cells3
  go_enter Try.func24, Try.ntmps24
  go_wp2_with fail
  clear y00 y01 y02 yf0 y10 y11 yf1 y20 y21 y22 yf2
  generalize ((w.alloc (.cells (scs a 2 t) 38)).alloc (.cells #[.int .u64 x, .bool false] 54)).alloc (.cells (scs 0 0 0) 38) = W0 at *
  refine (spcheck_any a 2 t W0).mono ?_
  rintro e w1 ⟨rfl, hb⟩
  replace PS := hid (PS.out.step hb); replace PG := hid (PG.out.step hb); replace PR := hid (PR.out.step hb); replace HB := hid (below_then HB.out hb)
  clear hb
  rw [show spCheckC (a, 2, t) = 0 from if_pos HG.out]
  obtain ⟨y00, y01, y02, yf0⟩ := PS.out.cells3
  go_wp2_with fail
  clear y00 y01 y02 yf0
  refine (spneed_any a 2 t w1).mono ?_
  rintro e w2 ⟨rfl, hb⟩
  replace PS := hid (PS.out.step hb); replace PG := hid (PG.out.step hb); replace PR := hid (PR.out.step hb); replace HB := hid (below_then HB.out hb)
  clear hb
  rw [show spNeedF (a, 2, t) = ((1, (inc64 a), 0, 0), true) from if_pos ⟨HG.out, show (2 : Int) ≠ 3 ∧ (2 : Int) ≠ 5 by decide⟩]
  dsimp only
  have bx := below_box w2 (.cells (acs 1 (inc64 a) 0 0) 49)
  replace PS := hid (PS.out.step bx); replace PG := hid (PG.out.step bx); replace PR := hid (PR.out.step bx); replace HB := hid (below_then HB.out bx)
  clear bx
  have PA := hid (Blk.new w2 49 (acs 1 (inc64 a) 0 0))
  obtain ⟨y00, y01, y02, yf0⟩ := PS.out.cells3
  obtain ⟨y10, y11, yf1⟩ := PG.out.cells2
  obtain ⟨y20, y21, y22, yf2⟩ := PR.out.cells3
  obtain ⟨y30, y31, y32, y33, yf3⟩ := PA.out.cells4
  go_wp2
  obtain ⟨q0, q1, q2, qf⟩ := (((PR.out.setCell 0 (.int .i64 a)).setCell 1 (.int .i64 2)).setCell 2 (.int .u64 t)).cells3
  refine bodyPost_ret (v := .tuple #[sv a 2 t, .int .i64 0]) (by simp [results, Try.results24, go_sem, q0, q1, q2]) rfl ⟨?_, ((HB.out.setCell (by simp <;> omega) _).setCell (by simp <;> omega) _).setCell (by simp <;> omega) _⟩
  rw [show spTakeF (a, 2, t) (x, false) = ((a, 2, t), 0) from (spTakeF_ok HG.out (show (2 : Int) ≠ 3 ∧ (2 : Int) ≠ 5 by decide)).trans (by simp [spTake])]
set_option maxRecDepth 100000 in
set_option maxHeartbeats 4000000 in
theorem sptakeS4 (a t x : Int) (w : World) (hg : SpGood (a, 4, t)) : Calls Try.prog 24 #[sv a 4 t, gv x false] w (TkPost (a, 4, t) (x, false) w) := by
  have HB := hid (Below.refl w.heap.size w)
  have HG := hid hg
  clear hg
  have bx := below_box w (.cells (scs a 4 t) 38)
  replace HB := hid (below_then HB.out bx)
  clear bx
  have PS := hid (Blk.new w 38 (scs a 4 t))
  have bx := below_box (w.alloc (.cells (scs a 4 t) 38)) (.cells #[.int .u64 x, .bool false] 54)
  replace PS := hid (PS.out.step bx); replace HB := hid (below_then HB.out bx)
  clear bx
  have PG := hid (Blk.new2 w 54 #[.int .u64 x, .bool false] (.cells (scs a 4 t) 38))
  have bx := below_box ((w.alloc (.cells (scs a 4 t) 38)).alloc (.cells #[.int .u64 x, .bool false] 54)) (.cells (scs 0 0 0) 38)
  replace PS := hid (PS.out.step bx); replace PG := hid (PG.out.step bx); replace HB := hid (below_then HB.out bx)
  clear bx
  have PR := hid (Blk.new3 w 38 (scs 0 0 0) (.cells (scs a 4 t) 38) (.cells #[.int .u64 x, .bool false] 54))
  obtain ⟨y00, y01, y02, yf0⟩ := PS.out.cells3
  obtain ⟨y10, y11, yf1⟩ := PG.out.cells2
  obtain ⟨y20, y21, y22, yf2⟩ := PR.out.cells3
  go_enter Try.func24, Try.ntmps24
  go_wp2_with fail
  clear y00 y01 y02 yf0 y10 y11 yf1 y20 y21 y22 yf2
  generalize ((w.alloc (.cells (scs a 4 t) 38)).alloc (.cells #[.int .u64 x, .bool false] 54)).alloc (.cells (scs 0 0 0) 38) = W0 at *
  refine (spcheck_any a 4 t W0).mono ?_
  rintro e w1 ⟨rfl, hb⟩
  replace PS := hid (PS.out.step hb); replace PG := hid (PG.out.step hb); replace PR := hid (PR.out.step hb); replace HB := hid (below_then HB.out hb)
  clear hb
  rw [show spCheckC (a, 4, t) = 0 from if_pos HG.out]
  obtain ⟨y00, y01, y02, yf0⟩ := PS.out.cells3
  go_wp2_with fail
  clear y00 y01 y02 yf0
  refine (spneed_any a 4 t w1).mono ?_
  rintro e w2 ⟨rfl, hb⟩
  replace PS := hid (PS.out.step hb); replace PG := hid (PG.out.step hb); replace PR := hid (PR.out.step hb); replace HB := hid (below_then HB.out hb)
  clear hb
  rw [show spNeedF (a, 4, t) = ((2, (inc64 a), 0, (incU t)), true) from if_pos ⟨HG.out, show (4 : Int) ≠ 3 ∧ (4 : Int) ≠ 5 by decide⟩]
  dsimp only
  have bx := below_box w2 (.cells (acs 2 (inc64 a) 0 (incU t)) 49)
  replace PS := hid (PS.out.step bx); replace PG := hid (PG.out.step bx); replace PR := hid (PR.out.step bx); replace HB := hid (below_then HB.out bx)
  clear bx
  have PA := hid (Blk.new w2 49 (acs 2 (inc64 a) 0 (incU t)))
  obtain ⟨y00, y01, y02, yf0⟩ := PS.out.cells3
  obtain ⟨y10, y11, yf1⟩ := PG.out.cells2
  obtain ⟨y20, y21, y22, yf2⟩ := PR.out.cells3
  obtain ⟨y30, y31, y32, y33, yf3⟩ := PA.out.cells4
  go_wp2
  obtain ⟨q0, q1, q2, qf⟩ := (((PR.out.setCell 0 (.int .i64 a)).setCell 1 (.int .i64 4)).setCell 2 (.int .u64 t)).cells3
  refine bodyPost_ret (v := .tuple #[sv a 4 t, .int .i64 0]) (by simp [results, Try.results24, go_sem, q0, q1, q2]) rfl ⟨?_, ((HB.out.setCell (by simp <;> omega) _).setCell (by simp <;> omega) _).setCell (by simp <;> omega) _⟩
  rw [show spTakeF (a, 4, t) (x, false) = ((a, 4, t), 0) from (spTakeF_ok HG.out (show (4 : Int) ≠ 3 ∧ (4 : Int) ≠ 5 by decide)).trans (by simp [spTake])]
set_option maxRecDepth 100000 in
set_option maxHeartbeats 4000000 in
theorem sptake0 (a t x : Int) (w : World) (hg : SpGood (a, 0, t)) : Calls Try.prog 24 #[sv a 0 t, gv x true] w (TkPost (a, 0, t) (x, true) w) := by
  have HB := hid (Below.refl w.heap.size w)
  have HG := hid hg
  clear hg
  have bx := below_box w (.cells (scs a 0 t) 38)
  replace HB := hid (below_then HB.out bx)
  clear bx
  have PS := hid (Blk.new w 38 (scs a 0 t))
  have bx := below_box (w.alloc (.cells (scs a 0 t) 38)) (.cells #[.int .u64 x, .bool true] 54)
  replace PS := hid (PS.out.step bx); replace HB := hid (below_then HB.out bx)
  clear bx
  have PG := hid (Blk.new2 w 54 #[.int .u64 x, .bool true] (.cells (scs a 0 t) 38))
  have bx := below_box ((w.alloc (.cells (scs a 0 t) 38)).alloc (.cells #[.int .u64 x, .bool true] 54)) (.cells (scs 0 0 0) 38)
  replace PS := hid (PS.out.step bx); replace PG := hid (PG.out.step bx); replace HB := hid (below_then HB.out bx)
  clear bx
  have PR := hid (Blk.new3 w 38 (scs 0 0 0) (.cells (scs a 0 t) 38) (.cells #[.int .u64 x, .bool true] 54))
  obtain ⟨y00, y01, y02, yf0⟩ := PS.out.cells3
  obtain ⟨y10, y11, yf1⟩ := PG.out.cells2
  obtain ⟨y20, y21, y22, yf2⟩ := PR.out.cells3
  go_enter Try.func24, Try.ntmps24
  go_wp2_with fail
  clear y00 y01 y02 yf0 y10 y11 yf1 y20 y21 y22 yf2
  generalize ((w.alloc (.cells (scs a 0 t) 38)).alloc (.cells #[.int .u64 x, .bool true] 54)).alloc (.cells (scs 0 0 0) 38) = W0 at *
  refine (spcheck_any a 0 t W0).mono ?_
  rintro e w1 ⟨rfl, hb⟩
  replace PS := hid (PS.out.step hb); replace PG := hid (PG.out.step hb); replace PR := hid (PR.out.step hb); replace HB := hid (below_then HB.out hb)
  clear hb
  rw [show spCheckC (a, 0, t) = 0 from if_pos HG.out]
  obtain ⟨y00, y01, y02, yf0⟩ := PS.out.cells3
  go_wp2_with fail
  clear y00 y01 y02 yf0
  refine (spneed_any a 0 t w1).mono ?_
  rintro e w2 ⟨rfl, hb⟩
  replace PS := hid (PS.out.step hb); replace PG := hid (PG.out.step hb); replace PR := hid (PR.out.step hb); replace HB := hid (below_then HB.out hb)
  clear hb
  rw [show spNeedF (a, 0, t) = ((1, a, 0, 0), true) from if_pos ⟨HG.out, show (0 : Int) ≠ 3 ∧ (0 : Int) ≠ 5 by decide⟩]
  dsimp only
  have bx := below_box w2 (.cells (acs 1 a 0 0) 49)
  replace PS := hid (PS.out.step bx); replace PG := hid (PG.out.step bx); replace PR := hid (PR.out.step bx); replace HB := hid (below_then HB.out bx)
  clear bx
  have PA := hid (Blk.new w2 49 (acs 1 a 0 0))
  obtain ⟨y00, y01, y02, yf0⟩ := PS.out.cells3
  obtain ⟨y10, y11, yf1⟩ := PG.out.cells2
  obtain ⟨y20, y21, y22, y23, yf2⟩ := PA.out.cells4
  go_upto_region 9 with fail
  clear y00 y01 y02 yf0 y10 y11 yf1 y20 y21 y22 y23 yf2
  generalize w2.alloc (.cells (acs 1 a 0 0) 49) = W3 at *
  have HS : Hid (∀ W, Below W3.heap.size W3 W → (W.cell? ⟨w.heap.size, 0, none⟩ = some (.int .i64 a) ∧ W.cell? ⟨w.heap.size, 1, none⟩ = some (.int .i64 0) ∧ W.cell? ⟨w.heap.size, 2, none⟩ = some (.int .u64 t) ∧ W.cell? ⟨w.heap.size + 1, 0, none⟩ = some (.int .u64 x) ∧ W.cell? ⟨w.heap.size + 1, 1, none⟩ = some (.bool true))) := hid (fun W hb => ⟨(PS.out.step hb).cells3.1, (PS.out.step hb).cells3.2.1, (PS.out.step hb).cells3.2.2.1, (PG.out.step hb).cells2.1, (PG.out.step hb).cells2.2.1⟩)
  have hix := widx0; have hfl := wfld01
  have hen := enters_of Try.func58 (by kernel_rfl) rfl
  refine wp_region_noPanic ?_
  refine wp_region_held_tail 8 (fun W => Below W3.heap.size W3 W ∧ W.cell? ⟨w.heap.size, 0, none⟩ = some (.int .i64 a) ∧ W.cell? ⟨w.heap.size, 1, none⟩ = some (.int .i64 0) ∧ W.cell? ⟨w.heap.size, 2, none⟩ = some (.int .u64 t) ∧ W.cell? ⟨w.heap.size + 1, 0, none⟩ = some (.int .u64 x) ∧ W.cell? ⟨w.heap.size + 1, 1, none⟩ = some (.bool true)) #[false, false, false, false, false, false, false, false, false, false] (by kernel_rfl) ⟨(Below.refl _ _).drew, HS.out _ (Below.refl _ _).drew⟩ (by kernel_rfl) (by kernel_rfl) (fun hS => ?_)
  refine wpAnyT_take (i := 1) (v := ?_) (by kernel_rfl) (by simp only [List.getElem?_toArray, List.getElem?_cons_succ, List.getElem?_cons_zero]; rfl) (by kernel_rfl) (fun _ _ _ h => h) (Or.inl ⟨by rfl, ?_⟩) hS ?_
  rotate_left
  · intro w' hSw; (try dsimp only at hSw); go_split_ands; go_simp; (try with_reducible rfl)
  (try simp only [Act.put, List.setIfInBounds_toArray, List.set_cons_zero, List.set_cons_succ])
  refine wpAnyT_take (i := 2) (v := ?_) (by kernel_rfl) (by simp only [List.getElem?_toArray, List.getElem?_cons_succ, List.getElem?_cons_zero]; rfl) (by kernel_rfl) (fun _ _ _ h => h) (Or.inl ⟨by rfl, ?_⟩) hS ?_
  rotate_left
  · intro w' hSw; (try dsimp only at hSw); go_split_ands; go_simp; (try with_reducible rfl)
  (try simp only [Act.put, List.setIfInBounds_toArray, List.set_cons_zero, List.set_cons_succ])
  refine wpAnyT_take (i := 5) (v := ?_) (by kernel_rfl) (by simp only [List.getElem?_toArray, List.getElem?_cons_succ, List.getElem?_cons_zero]; rfl) (by kernel_rfl) (fun _ _ _ h => h) (Or.inl ⟨by rfl, ?_⟩) hS ?_
  rotate_left
  · intro w' hSw; (try dsimp only at hSw); go_split_ands; go_simp; (try with_reducible rfl)
  (try simp only [Act.put, List.setIfInBounds_toArray, List.set_cons_zero, List.set_cons_succ])
  refine wpAnyT_take (i := 6) (v := ?_) (by kernel_rfl) (by simp only [List.getElem?_toArray, List.getElem?_cons_succ, List.getElem?_cons_zero]; rfl) (by kernel_rfl) (fun _ _ _ h => h) (Or.inl ⟨by rfl, ?_⟩) hS ?_
  rotate_left
  · intro w' hSw; (try dsimp only at hSw); go_split_ands; go_simp; (try with_reducible rfl)
  (try simp only [Act.put, List.setIfInBounds_toArray, List.set_cons_zero, List.set_cons_succ])
  refine wpAnyT_ready [0] (by kernel_rfl) (by simp) ?_
  refine AllReadyT.cons (by simp only [List.getElem?_toArray, List.getElem?_cons_succ, List.getElem?_cons_zero]; rfl) rfl (fun K hK => ?_) AllReadyT.nil
  go_simp
  refine (ways_any _).mono ?_
  rintro e w4 ⟨rfl, hb⟩
  have hq3 := hid (below_then (Below.refl W3.heap.size W3).drew hb)
  clear hb
  go_wp2_with fail
  have hS' : (fun W => Below W3.heap.size W3 W ∧ W.cell? ⟨w.heap.size, 0, none⟩ = some (.int .i64 a) ∧ W.cell? ⟨w.heap.size, 1, none⟩ = some (.int .i64 0) ∧ W.cell? ⟨w.heap.size, 2, none⟩ = some (.int .u64 t) ∧ W.cell? ⟨w.heap.size + 1, 0, none⟩ = some (.int .u64 x) ∧ W.cell? ⟨w.heap.size + 1, 1, none⟩ = some (.bool true)) _ := ⟨hq3.out, HS.out _ hq3.out⟩
  refine hK.out _ _ hS' ?_
  clear hK K hS
  have hS := hS'
  clear hS'
  (try simp only [Act.put, List.setIfInBounds_toArray, List.set_cons_zero, List.set_cons_succ])
  refine wpAnyT_take (i := 3) (v := ?_) (by kernel_rfl) (by simp only [List.getElem?_toArray, List.getElem?_cons_succ, List.getElem?_cons_zero]; rfl) (by kernel_rfl) (fun _ _ _ h => h) (Or.inl ⟨by rfl, ?_⟩) hS ?_
  rotate_left
  · intro w' hSw; (try dsimp only at hSw); go_split_ands; go_simp; (try with_reducible rfl)
  (try simp only [Act.put, List.setIfInBounds_toArray, List.set_cons_zero, List.set_cons_succ])
  refine wpAnyT_take (i := 4) (v := ?_) (by kernel_rfl) (by simp only [List.getElem?_toArray, List.getElem?_cons_succ, List.getElem?_cons_zero]; rfl) (by kernel_rfl) (fun _ _ _ h => h) (Or.inl ⟨by rfl, ?_⟩) hS ?_
  rotate_left
  · intro w' hSw; (try dsimp only at hSw); go_split_ands; go_simp; (try with_reducible rfl)
  (try simp only [Act.put, List.setIfInBounds_toArray, List.set_cons_zero, List.set_cons_succ])
  refine wpAnyT_ready [7] (by kernel_rfl) (by simp) ?_
  refine AllReadyT.cons (by simp only [List.getElem?_toArray, List.getElem?_cons_succ, List.getElem?_cons_zero]; rfl) rfl (fun K hK => ?_) AllReadyT.nil
  go_simp
  refine (then0_any a 0 t x true _).mono ?_
  rintro e w5 ⟨rfl, hb⟩
  have hq4 := hid (below_then hq3.out hb)
  clear hb
  go_wp2_with fail
  have hS' : (fun W => Below W3.heap.size W3 W ∧ W.cell? ⟨w.heap.size, 0, none⟩ = some (.int .i64 a) ∧ W.cell? ⟨w.heap.size, 1, none⟩ = some (.int .i64 0) ∧ W.cell? ⟨w.heap.size, 2, none⟩ = some (.int .u64 t) ∧ W.cell? ⟨w.heap.size + 1, 0, none⟩ = some (.int .u64 x) ∧ W.cell? ⟨w.heap.size + 1, 1, none⟩ = some (.bool true)) _ := ⟨hq4.out, HS.out _ hq4.out⟩
  refine hK.out _ _ hS' ?_
  clear hK K hS
  have hS := hS'
  clear hS'
  (try simp only [Act.put, List.setIfInBounds_toArray, List.set_cons_zero, List.set_cons_succ])
  refine wpAnyT_done (by kernel_rfl) ?_
  simp only [List.drop_succ_cons, List.drop_zero]
  have HB1 := hid (below_then HB.out hq4.out); have PR1 := hid (PR.out.step hq4.out)
  clear hS hix hfl hen
  obtain ⟨x0, x1, x2, xf⟩ := PR1.out.cells3
  go_wp2_with fail
  refine NoPanic.normal ?_
  go_wp2
  obtain ⟨q0, q1, q2, qf⟩ := (((PR1.out.setCell 0 (.int .i64 a)).setCell 1 (.int .i64 1)).setCell 2 (.int .u64 x)).cells3
  refine bodyPost_ret (v := .tuple #[sv a 1 x, .int .i64 0]) (by simp [results, Try.results24, go_sem, q0, q1, q2]) rfl ⟨?_, ((HB1.out.setCell (by simp <;> omega) _).setCell (by simp <;> omega) _).setCell (by simp <;> omega) _⟩
  rw [show spTakeF (a, 0, t) (x, true) = ((a, 1, x), 0) from (spTakeF_ok HG.out (show (0 : Int) ≠ 3 ∧ (0 : Int) ≠ 5 by decide)).trans (by simp [spTake])]
set_option maxRecDepth 100000 in
set_option maxHeartbeats 4000000 in
theorem sptake1y (a t x : Int) (w : World) (hg : SpGood (a, 1, t)) : Calls Try.prog 24 #[sv a 1 t, gv x true] w (TkPost (a, 1, t) (x, true) w) := by
  have HB := hid (Below.refl w.heap.size w)
  have HG := hid hg
  clear hg
  have bx := below_box w (.cells (scs a 1 t) 38)
  replace HB := hid (below_then HB.out bx)
  clear bx
  have PS := hid (Blk.new w 38 (scs a 1 t))
  have bx := below_box (w.alloc (.cells (scs a 1 t) 38)) (.cells #[.int .u64 x, .bool true] 54)
  replace PS := hid (PS.out.step bx); replace HB := hid (below_then HB.out bx)
  clear bx
  have PG := hid (Blk.new2 w 54 #[.int .u64 x, .bool true] (.cells (scs a 1 t) 38))
  have bx := below_box ((w.alloc (.cells (scs a 1 t) 38)).alloc (.cells #[.int .u64 x, .bool true] 54)) (.cells (scs 0 0 0) 38)
  replace PS := hid (PS.out.step bx); replace PG := hid (PG.out.step bx); replace HB := hid (below_then HB.out bx)
  clear bx
  have PR := hid (Blk.new3 w 38 (scs 0 0 0) (.cells (scs a 1 t) 38) (.cells #[.int .u64 x, .bool true] 54))
  obtain ⟨y00, y01, y02, yf0⟩ := PS.out.cells3
  obtain ⟨y10, y11, yf1⟩ := PG.out.cells2
  obtain ⟨y20, y21, y22, yf2⟩ := PR.out.cells3
  go_enter Try.func24, Try.ntmps24
  go_wp2_with fail
  clear y00 y01 y02 yf0 y10 y11 yf1 y20 y21 y22 yf2
  generalize ((w.alloc (.cells (scs a 1 t) 38)).alloc (.cells #[.int .u64 x, .bool true] 54)).alloc (.cells (scs 0 0 0) 38) = W0 at *
  refine (spcheck_any a 1 t W0).mono ?_
  rintro e w1 ⟨rfl, hb⟩
  replace PS := hid (PS.out.step hb); replace PG := hid (PG.out.step hb); replace PR := hid (PR.out.step hb); replace HB := hid (below_then HB.out hb)
  clear hb
  rw [show spCheckC (a, 1, t) = 0 from if_pos HG.out]
  obtain ⟨y00, y01, y02, yf0⟩ := PS.out.cells3
  go_wp2_with fail
  clear y00 y01 y02 yf0
  refine (spneed_any a 1 t w1).mono ?_
  rintro e w2 ⟨rfl, hb⟩
  replace PS := hid (PS.out.step hb); replace PG := hid (PG.out.step hb); replace PR := hid (PR.out.step hb); replace HB := hid (below_then HB.out hb)
  clear hb
  rw [show spNeedF (a, 1, t) = ((3, a, t, (incU t)), true) from if_pos ⟨HG.out, show (1 : Int) ≠ 3 ∧ (1 : Int) ≠ 5 by decide⟩]
  dsimp only
  have bx := below_box w2 (.cells (acs 3 a t (incU t)) 49)
  replace PS := hid (PS.out.step bx); replace PG := hid (PG.out.step bx); replace PR := hid (PR.out.step bx); replace HB := hid (below_then HB.out bx)
  clear bx
  have PA := hid (Blk.new w2 49 (acs 3 a t (incU t)))
  obtain ⟨y00, y01, y02, yf0⟩ := PS.out.cells3
  obtain ⟨y10, y11, yf1⟩ := PG.out.cells2
  obtain ⟨y20, y21, y22, y23, yf2⟩ := PA.out.cells4
  go_upto_region 9 with fail
  clear y00 y01 y02 yf0 y10 y11 yf1 y20 y21 y22 y23 yf2
  generalize w2.alloc (.cells (acs 3 a t (incU t)) 49) = W3 at *
  have HS : Hid (∀ W, Below W3.heap.size W3 W → (W.cell? ⟨w.heap.size, 0, none⟩ = some (.int .i64 a) ∧ W.cell? ⟨w.heap.size, 1, none⟩ = some (.int .i64 1) ∧ W.cell? ⟨w.heap.size, 2, none⟩ = some (.int .u64 t) ∧ W.cell? ⟨w.heap.size + 1, 0, none⟩ = some (.int .u64 x) ∧ W.cell? ⟨w.heap.size + 1, 1, none⟩ = some (.bool true))) := hid (fun W hb => ⟨(PS.out.step hb).cells3.1, (PS.out.step hb).cells3.2.1, (PS.out.step hb).cells3.2.2.1, (PG.out.step hb).cells2.1, (PG.out.step hb).cells2.2.1⟩)
  have hix := widx1; have hfl := wfld11
  have hen := enters_of Try.func60 (by kernel_rfl) rfl
  refine wp_region_noPanic ?_
  refine wp_region_held_tail 8 (fun W => Below W3.heap.size W3 W ∧ W.cell? ⟨w.heap.size, 0, none⟩ = some (.int .i64 a) ∧ W.cell? ⟨w.heap.size, 1, none⟩ = some (.int .i64 1) ∧ W.cell? ⟨w.heap.size, 2, none⟩ = some (.int .u64 t) ∧ W.cell? ⟨w.heap.size + 1, 0, none⟩ = some (.int .u64 x) ∧ W.cell? ⟨w.heap.size + 1, 1, none⟩ = some (.bool true)) #[false, false, false, false, false, false, false, false, false, false] (by kernel_rfl) ⟨(Below.refl _ _).drew, HS.out _ (Below.refl _ _).drew⟩ (by kernel_rfl) (by kernel_rfl) (fun hS => ?_)
  refine wpAnyT_take (i := 1) (v := ?_) (by kernel_rfl) (by simp only [List.getElem?_toArray, List.getElem?_cons_succ, List.getElem?_cons_zero]; rfl) (by kernel_rfl) (fun _ _ _ h => h) (Or.inl ⟨by rfl, ?_⟩) hS ?_
  rotate_left
  · intro w' hSw; (try dsimp only at hSw); go_split_ands; go_simp; (try with_reducible rfl)
  (try simp only [Act.put, List.setIfInBounds_toArray, List.set_cons_zero, List.set_cons_succ])
  refine wpAnyT_take (i := 2) (v := ?_) (by kernel_rfl) (by simp only [List.getElem?_toArray, List.getElem?_cons_succ, List.getElem?_cons_zero]; rfl) (by kernel_rfl) (fun _ _ _ h => h) (Or.inl ⟨by rfl, ?_⟩) hS ?_
  rotate_left
  · intro w' hSw; (try dsimp only at hSw); go_split_ands; go_simp; (try with_reducible rfl)
  (try simp only [Act.put, List.setIfInBounds_toArray, List.set_cons_zero, List.set_cons_succ])
  refine wpAnyT_take (i := 5) (v := ?_) (by kernel_rfl) (by simp only [List.getElem?_toArray, List.getElem?_cons_succ, List.getElem?_cons_zero]; rfl) (by kernel_rfl) (fun _ _ _ h => h) (Or.inl ⟨by rfl, ?_⟩) hS ?_
  rotate_left
  · intro w' hSw; (try dsimp only at hSw); go_split_ands; go_simp; (try with_reducible rfl)
  (try simp only [Act.put, List.setIfInBounds_toArray, List.set_cons_zero, List.set_cons_succ])
  refine wpAnyT_take (i := 6) (v := ?_) (by kernel_rfl) (by simp only [List.getElem?_toArray, List.getElem?_cons_succ, List.getElem?_cons_zero]; rfl) (by kernel_rfl) (fun _ _ _ h => h) (Or.inl ⟨by rfl, ?_⟩) hS ?_
  rotate_left
  · intro w' hSw; (try dsimp only at hSw); go_split_ands; go_simp; (try with_reducible rfl)
  (try simp only [Act.put, List.setIfInBounds_toArray, List.set_cons_zero, List.set_cons_succ])
  refine wpAnyT_ready [0] (by kernel_rfl) (by simp) ?_
  refine AllReadyT.cons (by simp only [List.getElem?_toArray, List.getElem?_cons_succ, List.getElem?_cons_zero]; rfl) rfl (fun K hK => ?_) AllReadyT.nil
  go_simp
  refine (ways_any _).mono ?_
  rintro e w4 ⟨rfl, hb⟩
  have hq3 := hid (below_then (Below.refl W3.heap.size W3).drew hb)
  clear hb
  go_wp2_with fail
  have hS' : (fun W => Below W3.heap.size W3 W ∧ W.cell? ⟨w.heap.size, 0, none⟩ = some (.int .i64 a) ∧ W.cell? ⟨w.heap.size, 1, none⟩ = some (.int .i64 1) ∧ W.cell? ⟨w.heap.size, 2, none⟩ = some (.int .u64 t) ∧ W.cell? ⟨w.heap.size + 1, 0, none⟩ = some (.int .u64 x) ∧ W.cell? ⟨w.heap.size + 1, 1, none⟩ = some (.bool true)) _ := ⟨hq3.out, HS.out _ hq3.out⟩
  refine hK.out _ _ hS' ?_
  clear hK K hS
  have hS := hS'
  clear hS'
  (try simp only [Act.put, List.setIfInBounds_toArray, List.set_cons_zero, List.set_cons_succ])
  refine wpAnyT_take (i := 3) (v := ?_) (by kernel_rfl) (by simp only [List.getElem?_toArray, List.getElem?_cons_succ, List.getElem?_cons_zero]; rfl) (by kernel_rfl) (fun _ _ _ h => h) (Or.inl ⟨by rfl, ?_⟩) hS ?_
  rotate_left
  · intro w' hSw; (try dsimp only at hSw); go_split_ands; go_simp; (try with_reducible rfl)
  (try simp only [Act.put, List.setIfInBounds_toArray, List.set_cons_zero, List.set_cons_succ])
  refine wpAnyT_take (i := 4) (v := ?_) (by kernel_rfl) (by simp only [List.getElem?_toArray, List.getElem?_cons_succ, List.getElem?_cons_zero]; rfl) (by kernel_rfl) (fun _ _ _ h => h) (Or.inl ⟨by rfl, ?_⟩) hS ?_
  rotate_left
  · intro w' hSw; (try dsimp only at hSw); go_split_ands; go_simp; (try with_reducible rfl)
  (try simp only [Act.put, List.setIfInBounds_toArray, List.set_cons_zero, List.set_cons_succ])
  refine wpAnyT_ready [7] (by kernel_rfl) (by simp) ?_
  refine AllReadyT.cons (by simp only [List.getElem?_toArray, List.getElem?_cons_succ, List.getElem?_cons_zero]; rfl) rfl (fun K hK => ?_) AllReadyT.nil
  go_simp
  refine (then1y_any a 1 t x _).mono ?_
  rintro e w5 ⟨rfl, hb⟩
  have hq4 := hid (below_then hq3.out hb)
  clear hb
  go_wp2_with fail
  have hS' : (fun W => Below W3.heap.size W3 W ∧ W.cell? ⟨w.heap.size, 0, none⟩ = some (.int .i64 a) ∧ W.cell? ⟨w.heap.size, 1, none⟩ = some (.int .i64 1) ∧ W.cell? ⟨w.heap.size, 2, none⟩ = some (.int .u64 t) ∧ W.cell? ⟨w.heap.size + 1, 0, none⟩ = some (.int .u64 x) ∧ W.cell? ⟨w.heap.size + 1, 1, none⟩ = some (.bool true)) _ := ⟨hq4.out, HS.out _ hq4.out⟩
  refine hK.out _ _ hS' ?_
  clear hK K hS
  have hS := hS'
  clear hS'
  (try simp only [Act.put, List.setIfInBounds_toArray, List.set_cons_zero, List.set_cons_succ])
  refine wpAnyT_done (by kernel_rfl) ?_
  simp only [List.drop_succ_cons, List.drop_zero]
  have HB1 := hid (below_then HB.out hq4.out); have PR1 := hid (PR.out.step hq4.out)
  clear hS hix hfl hen
  obtain ⟨x0, x1, x2, xf⟩ := PR1.out.cells3
  go_wp2_with fail
  refine NoPanic.normal ?_
  go_wp2
  obtain ⟨q0, q1, q2, qf⟩ := (((PR1.out.setCell 0 (.int .i64 a)).setCell 1 (.int .i64 2)).setCell 2 (.int .u64 t)).cells3
  refine bodyPost_ret (v := .tuple #[sv a 2 t, .int .i64 0]) (by simp [results, Try.results24, go_sem, q0, q1, q2]) rfl ⟨?_, ((HB1.out.setCell (by simp <;> omega) _).setCell (by simp <;> omega) _).setCell (by simp <;> omega) _⟩
  rw [show spTakeF (a, 1, t) (x, true) = ((a, 2, t), 0) from (spTakeF_ok HG.out (show (1 : Int) ≠ 3 ∧ (1 : Int) ≠ 5 by decide)).trans (by simp [spTake])]
set_option maxRecDepth 100000 in
set_option maxHeartbeats 4000000 in
theorem sptake1n (a t x : Int) (w : World) (hg : SpGood (a, 1, t)) : Calls Try.prog 24 #[sv a 1 t, gv x false] w (TkPost (a, 1, t) (x, false) w) := by
  have HB := hid (Below.refl w.heap.size w)
  have HG := hid hg
  clear hg
  have bx := below_box w (.cells (scs a 1 t) 38)
  replace HB := hid (below_then HB.out bx)
  clear bx
  have PS := hid (Blk.new w 38 (scs a 1 t))
  have bx := below_box (w.alloc (.cells (scs a 1 t) 38)) (.cells #[.int .u64 x, .bool false] 54)
  replace PS := hid (PS.out.step bx); replace HB := hid (below_then HB.out bx)
  clear bx
  have PG := hid (Blk.new2 w 54 #[.int .u64 x, .bool false] (.cells (scs a 1 t) 38))
  have bx := below_box ((w.alloc (.cells (scs a 1 t) 38)).alloc (.cells #[.int .u64 x, .bool false] 54)) (.cells (scs 0 0 0) 38)
  replace PS := hid (PS.out.step bx); replace PG := hid (PG.out.step bx); replace HB := hid (below_then HB.out bx)
  clear bx
  have PR := hid (Blk.new3 w 38 (scs 0 0 0) (.cells (scs a 1 t) 38) (.cells #[.int .u64 x, .bool false] 54))
  obtain ⟨y00, y01, y02, yf0⟩ := PS.out.cells3
  obtain ⟨y10, y11, yf1⟩ := PG.out.cells2
  obtain ⟨y20, y21, y22, yf2⟩ := PR.out.cells3
  go_enter Try.func24, Try.ntmps24
  go_wp2_with fail
  clear y00 y01 y02 yf0 y10 y11 yf1 y20 y21 y22 yf2
  generalize ((w.alloc (.cells (scs a 1 t) 38)).alloc (.cells #[.int .u64 x, .bool false] 54)).alloc (.cells (scs 0 0 0) 38) = W0 at *
  refine (spcheck_any a 1 t W0).mono ?_
  rintro e w1 ⟨rfl, hb⟩
  replace PS := hid (PS.out.step hb); replace PG := hid (PG.out.step hb); replace PR := hid (PR.out.step hb); replace HB := hid (below_then HB.out hb)
  clear hb
  rw [show spCheckC (a, 1, t) = 0 from if_pos HG.out]
  obtain ⟨y00, y01, y02, yf0⟩ := PS.out.cells3
  go_wp2_with fail
  clear y00 y01 y02 yf0
  refine (spneed_any a 1 t w1).mono ?_
  rintro e w2 ⟨rfl, hb⟩
  replace PS := hid (PS.out.step hb); replace PG := hid (PG.out.step hb); replace PR := hid (PR.out.step hb); replace HB := hid (below_then HB.out hb)
  clear hb
  rw [show spNeedF (a, 1, t) = ((3, a, t, (incU t)), true) from if_pos ⟨HG.out, show (1 : Int) ≠ 3 ∧ (1 : Int) ≠ 5 by decide⟩]
  dsimp only
  have bx := below_box w2 (.cells (acs 3 a t (incU t)) 49)
  replace PS := hid (PS.out.step bx); replace PG := hid (PG.out.step bx); replace PR := hid (PR.out.step bx); replace HB := hid (below_then HB.out bx)
  clear bx
  have PA := hid (Blk.new w2 49 (acs 3 a t (incU t)))
  obtain ⟨y00, y01, y02, yf0⟩ := PS.out.cells3
  obtain ⟨y10, y11, yf1⟩ := PG.out.cells2
  obtain ⟨y20, y21, y22, y23, yf2⟩ := PA.out.cells4
  go_upto_region 9 with fail
  clear y00 y01 y02 yf0 y10 y11 yf1 y20 y21 y22 y23 yf2
  generalize w2.alloc (.cells (acs 3 a t (incU t)) 49) = W3 at *
  have HS : Hid (∀ W, Below W3.heap.size W3 W → (W.cell? ⟨w.heap.size, 0, none⟩ = some (.int .i64 a) ∧ W.cell? ⟨w.heap.size, 1, none⟩ = some (.int .i64 1) ∧ W.cell? ⟨w.heap.size, 2, none⟩ = some (.int .u64 t) ∧ W.cell? ⟨w.heap.size + 1, 0, none⟩ = some (.int .u64 x) ∧ W.cell? ⟨w.heap.size + 1, 1, none⟩ = some (.bool false))) := hid (fun W hb => ⟨(PS.out.step hb).cells3.1, (PS.out.step hb).cells3.2.1, (PS.out.step hb).cells3.2.2.1, (PG.out.step hb).cells2.1, (PG.out.step hb).cells2.2.1⟩)
  have hix := widx1; have hfl := wfld11
  have hen := enters_of Try.func60 (by kernel_rfl) rfl
  refine wp_region_noPanic ?_
  refine wp_region_held_tail 8 (fun W => Below W3.heap.size W3 W ∧ W.cell? ⟨w.heap.size, 0, none⟩ = some (.int .i64 a) ∧ W.cell? ⟨w.heap.size, 1, none⟩ = some (.int .i64 1) ∧ W.cell? ⟨w.heap.size, 2, none⟩ = some (.int .u64 t) ∧ W.cell? ⟨w.heap.size + 1, 0, none⟩ = some (.int .u64 x) ∧ W.cell? ⟨w.heap.size + 1, 1, none⟩ = some (.bool false)) #[false, false, false, false, false, false, false, false, false, false] (by kernel_rfl) ⟨(Below.refl _ _).drew, HS.out _ (Below.refl _ _).drew⟩ (by kernel_rfl) (by kernel_rfl) (fun hS => ?_)
  refine wpAnyT_take (i := 1) (v := ?_) (by kernel_rfl) (by simp only [List.getElem?_toArray, List.getElem?_cons_succ, List.getElem?_cons_zero]; rfl) (by kernel_rfl) (fun _ _ _ h => h) (Or.inl ⟨by rfl, ?_⟩) hS ?_
  rotate_left
  · intro w' hSw; (try dsimp only at hSw); go_split_ands; go_simp; (try with_reducible rfl)
  (try simp only [Act.put, List.setIfInBounds_toArray, List.set_cons_zero, List.set_cons_succ])
  refine wpAnyT_take (i := 2) (v := ?_) (by kernel_rfl) (by simp only [List.getElem?_toArray, List.getElem?_cons_succ, List.getElem?_cons_zero]; rfl) (by kernel_rfl) (fun _ _ _ h => h) (Or.inl ⟨by rfl, ?_⟩) hS ?_
  rotate_left
  · intro w' hSw; (try dsimp only at hSw); go_split_ands; go_simp; (try with_reducible rfl)
  (try simp only [Act.put, List.setIfInBounds_toArray, List.set_cons_zero, List.set_cons_succ])
  refine wpAnyT_take (i := 5) (v := ?_) (by kernel_rfl) (by simp only [List.getElem?_toArray, List.getElem?_cons_succ, List.getElem?_cons_zero]; rfl) (by kernel_rfl) (fun _ _ _ h => h) (Or.inl ⟨by rfl, ?_⟩) hS ?_
  rotate_left
  · intro w' hSw; (try dsimp only at hSw); go_split_ands; go_simp; (try with_reducible rfl)
  (try simp only [Act.put, List.setIfInBounds_toArray, List.set_cons_zero, List.set_cons_succ])
  refine wpAnyT_take (i := 6) (v := ?_) (by kernel_rfl) (by simp only [List.getElem?_toArray, List.getElem?_cons_succ, List.getElem?_cons_zero]; rfl) (by kernel_rfl) (fun _ _ _ h => h) (Or.inl ⟨by rfl, ?_⟩) hS ?_
  rotate_left
  · intro w' hSw; (try dsimp only at hSw); go_split_ands; go_simp; (try with_reducible rfl)
  (try simp only [Act.put, List.setIfInBounds_toArray, List.set_cons_zero, List.set_cons_succ])
  refine wpAnyT_ready [0] (by kernel_rfl) (by simp) ?_
  refine AllReadyT.cons (by simp only [List.getElem?_toArray, List.getElem?_cons_succ, List.getElem?_cons_zero]; rfl) rfl (fun K hK => ?_) AllReadyT.nil
  go_simp
  refine (ways_any _).mono ?_
  rintro e w4 ⟨rfl, hb⟩
  have hq3 := hid (below_then (Below.refl W3.heap.size W3).drew hb)
  clear hb
  go_wp2_with fail
  have hS' : (fun W => Below W3.heap.size W3 W ∧ W.cell? ⟨w.heap.size, 0, none⟩ = some (.int .i64 a) ∧ W.cell? ⟨w.heap.size, 1, none⟩ = some (.int .i64 1) ∧ W.cell? ⟨w.heap.size, 2, none⟩ = some (.int .u64 t) ∧ W.cell? ⟨w.heap.size + 1, 0, none⟩ = some (.int .u64 x) ∧ W.cell? ⟨w.heap.size + 1, 1, none⟩ = some (.bool false)) _ := ⟨hq3.out, HS.out _ hq3.out⟩
  refine hK.out _ _ hS' ?_
  clear hK K hS
  have hS := hS'
  clear hS'
  (try simp only [Act.put, List.setIfInBounds_toArray, List.set_cons_zero, List.set_cons_succ])
  refine wpAnyT_take (i := 3) (v := ?_) (by kernel_rfl) (by simp only [List.getElem?_toArray, List.getElem?_cons_succ, List.getElem?_cons_zero]; rfl) (by kernel_rfl) (fun _ _ _ h => h) (Or.inl ⟨by rfl, ?_⟩) hS ?_
  rotate_left
  · intro w' hSw; (try dsimp only at hSw); go_split_ands; go_simp; (try with_reducible rfl)
  (try simp only [Act.put, List.setIfInBounds_toArray, List.set_cons_zero, List.set_cons_succ])
  refine wpAnyT_take (i := 4) (v := ?_) (by kernel_rfl) (by simp only [List.getElem?_toArray, List.getElem?_cons_succ, List.getElem?_cons_zero]; rfl) (by kernel_rfl) (fun _ _ _ h => h) (Or.inl ⟨by rfl, ?_⟩) hS ?_
  rotate_left
  · intro w' hSw; (try dsimp only at hSw); go_split_ands; go_simp; (try with_reducible rfl)
  (try simp only [Act.put, List.setIfInBounds_toArray, List.set_cons_zero, List.set_cons_succ])
  refine wpAnyT_ready [7] (by kernel_rfl) (by simp) ?_
  refine AllReadyT.cons (by simp only [List.getElem?_toArray, List.getElem?_cons_succ, List.getElem?_cons_zero]; rfl) rfl (fun K hK => ?_) AllReadyT.nil
  go_simp
  refine (then1n_any a 1 t x _).mono ?_
  rintro e w5 ⟨rfl, hb⟩
  have hq4 := hid (below_then hq3.out hb)
  clear hb
  go_wp2_with fail
  have hS' : (fun W => Below W3.heap.size W3 W ∧ W.cell? ⟨w.heap.size, 0, none⟩ = some (.int .i64 a) ∧ W.cell? ⟨w.heap.size, 1, none⟩ = some (.int .i64 1) ∧ W.cell? ⟨w.heap.size, 2, none⟩ = some (.int .u64 t) ∧ W.cell? ⟨w.heap.size + 1, 0, none⟩ = some (.int .u64 x) ∧ W.cell? ⟨w.heap.size + 1, 1, none⟩ = some (.bool false)) _ := ⟨hq4.out, HS.out _ hq4.out⟩
  refine hK.out _ _ hS' ?_
  clear hK K hS
  have hS := hS'
  clear hS'
  (try simp only [Act.put, List.setIfInBounds_toArray, List.set_cons_zero, List.set_cons_succ])
  refine wpAnyT_done (by kernel_rfl) ?_
  simp only [List.drop_succ_cons, List.drop_zero]
  have HB1 := hid (below_then HB.out hq4.out); have PR1 := hid (PR.out.step hq4.out)
  clear hS hix hfl hen
  obtain ⟨x0, x1, x2, xf⟩ := PR1.out.cells3
  go_wp2_with fail
  refine NoPanic.normal ?_
  go_wp2
  obtain ⟨q0, q1, q2, qf⟩ := (((PR1.out.setCell 0 (.int .i64 a)).setCell 1 (.int .i64 0)).setCell 2 (.int .u64 0)).cells3
  refine bodyPost_ret (v := .tuple #[sv a 0 0, .int .i64 0]) (by simp [results, Try.results24, go_sem, q0, q1, q2]) rfl ⟨?_, ((HB1.out.setCell (by simp <;> omega) _).setCell (by simp <;> omega) _).setCell (by simp <;> omega) _⟩
  rw [show spTakeF (a, 1, t) (x, false) = ((a, 0, 0), 0) from (spTakeF_ok HG.out (show (1 : Int) ≠ 3 ∧ (1 : Int) ≠ 5 by decide)).trans (by simp [spTake])]
set_option maxRecDepth 100000 in
set_option maxHeartbeats 4000000 in
theorem sptake2y (a t : Int) (w : World) (hg : SpGood (a, 2, t)) : Calls Try.prog 24 #[sv a 2 t, gv t true] w (TkPost (a, 2, t) (t, true) w) := by
  have HB := hid (Below.refl w.heap.size w)
  have HG := hid hg
  clear hg
  have bx := below_box w (.cells (scs a 2 t) 38)
  replace HB := hid (below_then HB.out bx)
  clear bx
  have PS := hid (Blk.new w 38 (scs a 2 t))
  have bx := below_box (w.alloc (.cells (scs a 2 t) 38)) (.cells #[.int .u64 t, .bool true] 54)
  replace PS := hid (PS.out.step bx); replace HB := hid (below_then HB.out bx)
  clear bx
  have PG := hid (Blk.new2 w 54 #[.int .u64 t, .bool true] (.cells (scs a 2 t) 38))
  have bx := below_box ((w.alloc (.cells (scs a 2 t) 38)).alloc (.cells #[.int .u64 t, .bool true] 54)) (.cells (scs 0 0 0) 38)
  replace PS := hid (PS.out.step bx); replace PG := hid (PG.out.step bx); replace HB := hid (below_then HB.out bx)
  clear bx
  have PR := hid (Blk.new3 w 38 (scs 0 0 0) (.cells (scs a 2 t) 38) (.cells #[.int .u64 t, .bool true] 54))
  obtain ⟨y00, y01, y02, yf0⟩ := PS.out.cells3
  obtain ⟨y10, y11, yf1⟩ := PG.out.cells2
  obtain ⟨y20, y21, y22, yf2⟩ := PR.out.cells3
  go_enter Try.func24, Try.ntmps24
  go_wp2_with fail
  clear y00 y01 y02 yf0 y10 y11 yf1 y20 y21 y22 yf2
  generalize ((w.alloc (.cells (scs a 2 t) 38)).alloc (.cells #[.int .u64 t, .bool true] 54)).alloc (.cells (scs 0 0 0) 38) = W0 at *
  refine (spcheck_any a 2 t W0).mono ?_
  rintro e w1 ⟨rfl, hb⟩
  replace PS := hid (PS.out.step hb); replace PG := hid (PG.out.step hb); replace PR := hid (PR.out.step hb); replace HB := hid (below_then HB.out hb)
  clear hb
  rw [show spCheckC (a, 2, t) = 0 from if_pos HG.out]
  obtain ⟨y00, y01, y02, yf0⟩ := PS.out.cells3
  go_wp2_with fail
  clear y00 y01 y02 yf0
  refine (spneed_any a 2 t w1).mono ?_
  rintro e w2 ⟨rfl, hb⟩
  replace PS := hid (PS.out.step hb); replace PG := hid (PG.out.step hb); replace PR := hid (PR.out.step hb); replace HB := hid (below_then HB.out hb)
  clear hb
  rw [show spNeedF (a, 2, t) = ((1, (inc64 a), 0, 0), true) from if_pos ⟨HG.out, show (2 : Int) ≠ 3 ∧ (2 : Int) ≠ 5 by decide⟩]
  dsimp only
  have bx := below_box w2 (.cells (acs 1 (inc64 a) 0 0) 49)
  replace PS := hid (PS.out.step bx); replace PG := hid (PG.out.step bx); replace PR := hid (PR.out.step bx); replace HB := hid (below_then HB.out bx)
  clear bx
  have PA := hid (Blk.new w2 49 (acs 1 (inc64 a) 0 0))
  obtain ⟨y00, y01, y02, yf0⟩ := PS.out.cells3
  obtain ⟨y10, y11, yf1⟩ := PG.out.cells2
  obtain ⟨y20, y21, y22, y23, yf2⟩ := PA.out.cells4
  go_upto_region 9 with fail
  clear y00 y01 y02 yf0 y10 y11 yf1 y20 y21 y22 y23 yf2
  generalize w2.alloc (.cells (acs 1 (inc64 a) 0 0) 49) = W3 at *
  have HS : Hid (∀ W, Below W3.heap.size W3 W → (W.cell? ⟨w.heap.size, 0, none⟩ = some (.int .i64 a) ∧ W.cell? ⟨w.heap.size, 1, none⟩ = some (.int .i64 2) ∧ W.cell? ⟨w.heap.size, 2, none⟩ = some (.int .u64 t) ∧ W.cell? ⟨w.heap.size + 1, 0, none⟩ = some (.int .u64 t) ∧ W.cell? ⟨w.heap.size + 1, 1, none⟩ = some (.bool true))) := hid (fun W hb => ⟨(PS.out.step hb).cells3.1, (PS.out.step hb).cells3.2.1, (PS.out.step hb).cells3.2.2.1, (PG.out.step hb).cells2.1, (PG.out.step hb).cells2.2.1⟩)
  have hix := widx2; have hfl := wfld21
  have hen := enters_of Try.func62 (by kernel_rfl) rfl
  refine wp_region_noPanic ?_
  refine wp_region_held_tail 8 (fun W => Below W3.heap.size W3 W ∧ W.cell? ⟨w.heap.size, 0, none⟩ = some (.int .i64 a) ∧ W.cell? ⟨w.heap.size, 1, none⟩ = some (.int .i64 2) ∧ W.cell? ⟨w.heap.size, 2, none⟩ = some (.int .u64 t) ∧ W.cell? ⟨w.heap.size + 1, 0, none⟩ = some (.int .u64 t) ∧ W.cell? ⟨w.heap.size + 1, 1, none⟩ = some (.bool true)) #[false, false, false, false, false, false, false, false, false, false] (by kernel_rfl) ⟨(Below.refl _ _).drew, HS.out _ (Below.refl _ _).drew⟩ (by kernel_rfl) (by kernel_rfl) (fun hS => ?_)
  refine wpAnyT_take (i := 1) (v := ?_) (by kernel_rfl) (by simp only [List.getElem?_toArray, List.getElem?_cons_succ, List.getElem?_cons_zero]; rfl) (by kernel_rfl) (fun _ _ _ h => h) (Or.inl ⟨by rfl, ?_⟩) hS ?_
  rotate_left
  · intro w' hSw; (try dsimp only at hSw); go_split_ands; go_simp; (try with_reducible rfl)
  (try simp only [Act.put, List.setIfInBounds_toArray, List.set_cons_zero, List.set_cons_succ])
  refine wpAnyT_take (i := 2) (v := ?_) (by kernel_rfl) (by simp only [List.getElem?_toArray, List.getElem?_cons_succ, List.getElem?_cons_zero]; rfl) (by kernel_rfl) (fun _ _ _ h => h) (Or.inl ⟨by rfl, ?_⟩) hS ?_
  rotate_left
  · intro w' hSw; (try dsimp only at hSw); go_split_ands; go_simp; (try with_reducible rfl)
  (try simp only [Act.put, List.setIfInBounds_toArray, List.set_cons_zero, List.set_cons_succ])
  refine wpAnyT_take (i := 5) (v := ?_) (by kernel_rfl) (by simp only [List.getElem?_toArray, List.getElem?_cons_succ, List.getElem?_cons_zero]; rfl) (by kernel_rfl) (fun _ _ _ h => h) (Or.inl ⟨by rfl, ?_⟩) hS ?_
  rotate_left
  · intro w' hSw; (try dsimp only at hSw); go_split_ands; go_simp; (try with_reducible rfl)
  (try simp only [Act.put, List.setIfInBounds_toArray, List.set_cons_zero, List.set_cons_succ])
  refine wpAnyT_take (i := 6) (v := ?_) (by kernel_rfl) (by simp only [List.getElem?_toArray, List.getElem?_cons_succ, List.getElem?_cons_zero]; rfl) (by kernel_rfl) (fun _ _ _ h => h) (Or.inl ⟨by rfl, ?_⟩) hS ?_
  rotate_left
  · intro w' hSw; (try dsimp only at hSw); go_split_ands; go_simp; (try with_reducible rfl)
  (try simp only [Act.put, List.setIfInBounds_toArray, List.set_cons_zero, List.set_cons_succ])
  refine wpAnyT_ready [0] (by kernel_rfl) (by simp) ?_
  refine AllReadyT.cons (by simp only [List.getElem?_toArray, List.getElem?_cons_succ, List.getElem?_cons_zero]; rfl) rfl (fun K hK => ?_) AllReadyT.nil
  go_simp
  refine (ways_any _).mono ?_
  rintro e w4 ⟨rfl, hb⟩
  have hq3 := hid (below_then (Below.refl W3.heap.size W3).drew hb)
  clear hb
  go_wp2_with fail
  have hS' : (fun W => Below W3.heap.size W3 W ∧ W.cell? ⟨w.heap.size, 0, none⟩ = some (.int .i64 a) ∧ W.cell? ⟨w.heap.size, 1, none⟩ = some (.int .i64 2) ∧ W.cell? ⟨w.heap.size, 2, none⟩ = some (.int .u64 t) ∧ W.cell? ⟨w.heap.size + 1, 0, none⟩ = some (.int .u64 t) ∧ W.cell? ⟨w.heap.size + 1, 1, none⟩ = some (.bool true)) _ := ⟨hq3.out, HS.out _ hq3.out⟩
  refine hK.out _ _ hS' ?_
  clear hK K hS
  have hS := hS'
  clear hS'
  (try simp only [Act.put, List.setIfInBounds_toArray, List.set_cons_zero, List.set_cons_succ])
  refine wpAnyT_take (i := 3) (v := ?_) (by kernel_rfl) (by simp only [List.getElem?_toArray, List.getElem?_cons_succ, List.getElem?_cons_zero]; rfl) (by kernel_rfl) (fun _ _ _ h => h) (Or.inl ⟨by rfl, ?_⟩) hS ?_
  rotate_left
  · intro w' hSw; (try dsimp only at hSw); go_split_ands; go_simp; (try with_reducible rfl)
  (try simp only [Act.put, List.setIfInBounds_toArray, List.set_cons_zero, List.set_cons_succ])
  refine wpAnyT_take (i := 4) (v := ?_) (by kernel_rfl) (by simp only [List.getElem?_toArray, List.getElem?_cons_succ, List.getElem?_cons_zero]; rfl) (by kernel_rfl) (fun _ _ _ h => h) (Or.inl ⟨by rfl, ?_⟩) hS ?_
  rotate_left
  · intro w' hSw; (try dsimp only at hSw); go_split_ands; go_simp; (try with_reducible rfl)
  (try simp only [Act.put, List.setIfInBounds_toArray, List.set_cons_zero, List.set_cons_succ])
  refine wpAnyT_ready [7] (by kernel_rfl) (by simp) ?_
  refine AllReadyT.cons (by simp only [List.getElem?_toArray, List.getElem?_cons_succ, List.getElem?_cons_zero]; rfl) rfl (fun K hK => ?_) AllReadyT.nil
  go_simp
  refine (then2y_any a 2 t true _).mono ?_
  rintro e w5 ⟨rfl, hb⟩
  have hq4 := hid (below_then hq3.out hb)
  clear hb
  go_wp2_with fail
  have hS' : (fun W => Below W3.heap.size W3 W ∧ W.cell? ⟨w.heap.size, 0, none⟩ = some (.int .i64 a) ∧ W.cell? ⟨w.heap.size, 1, none⟩ = some (.int .i64 2) ∧ W.cell? ⟨w.heap.size, 2, none⟩ = some (.int .u64 t) ∧ W.cell? ⟨w.heap.size + 1, 0, none⟩ = some (.int .u64 t) ∧ W.cell? ⟨w.heap.size + 1, 1, none⟩ = some (.bool true)) _ := ⟨hq4.out, HS.out _ hq4.out⟩
  refine hK.out _ _ hS' ?_
  clear hK K hS
  have hS := hS'
  clear hS'
  (try simp only [Act.put, List.setIfInBounds_toArray, List.set_cons_zero, List.set_cons_succ])
  refine wpAnyT_done (by kernel_rfl) ?_
  simp only [List.drop_succ_cons, List.drop_zero]
  have HB1 := hid (below_then HB.out hq4.out); have PR1 := hid (PR.out.step hq4.out)
  clear hS hix hfl hen
  obtain ⟨x0, x1, x2, xf⟩ := PR1.out.cells3
  go_wp2_with fail
  refine NoPanic.normal ?_
  go_wp2
  obtain ⟨q0, q1, q2, qf⟩ := (((PR1.out.setCell 0 (.int .i64 a)).setCell 1 (.int .i64 3)).setCell 2 (.int .u64 t)).cells3
  refine bodyPost_ret (v := .tuple #[sv a 3 t, .int .i64 0]) (by simp [results, Try.results24, go_sem, q0, q1, q2]) rfl ⟨?_, ((HB1.out.setCell (by simp <;> omega) _).setCell (by simp <;> omega) _).setCell (by simp <;> omega) _⟩
  rw [show spTakeF (a, 2, t) (t, true) = ((a, 3, t), 0) from (spTakeF_ok HG.out (show (2 : Int) ≠ 3 ∧ (2 : Int) ≠ 5 by decide)).trans (by simp [spTake])]
set_option maxRecDepth 100000 in
set_option maxHeartbeats 4000000 in
theorem sptake2n (a t x : Int) (w : World) (hg : SpGood (a, 2, t) ∧ x ≠ t) : Calls Try.prog 24 #[sv a 2 t, gv x true] w (TkPost (a, 2, t) (x, true) w) := by
  have HB := hid (Below.refl w.heap.size w)
  have HG := hid hg
  clear hg
  have bx := below_box w (.cells (scs a 2 t) 38)
  replace HB := hid (below_then HB.out bx)
  clear bx
  have PS := hid (Blk.new w 38 (scs a 2 t))
  have bx := below_box (w.alloc (.cells (scs a 2 t) 38)) (.cells #[.int .u64 x, .bool true] 54)
  replace PS := hid (PS.out.step bx); replace HB := hid (below_then HB.out bx)
  clear bx
  have PG := hid (Blk.new2 w 54 #[.int .u64 x, .bool true] (.cells (scs a 2 t) 38))
  have bx := below_box ((w.alloc (.cells (scs a 2 t) 38)).alloc (.cells #[.int .u64 x, .bool true] 54)) (.cells (scs 0 0 0) 38)
  replace PS := hid (PS.out.step bx); replace PG := hid (PG.out.step bx); replace HB := hid (below_then HB.out bx)
  clear bx
  have PR := hid (Blk.new3 w 38 (scs 0 0 0) (.cells (scs a 2 t) 38) (.cells #[.int .u64 x, .bool true] 54))
  obtain ⟨y00, y01, y02, yf0⟩ := PS.out.cells3
  obtain ⟨y10, y11, yf1⟩ := PG.out.cells2
  obtain ⟨y20, y21, y22, yf2⟩ := PR.out.cells3
  go_enter Try.func24, Try.ntmps24
  go_wp2_with fail
  clear y00 y01 y02 yf0 y10 y11 yf1 y20 y21 y22 yf2
  generalize ((w.alloc (.cells (scs a 2 t) 38)).alloc (.cells #[.int .u64 x, .bool true] 54)).alloc (.cells (scs 0 0 0) 38) = W0 at *
  have HNE := hid HG.out.2
  replace HG := hid HG.out.1
  refine (spcheck_any a 2 t W0).mono ?_
  rintro e w1 ⟨rfl, hb⟩
  replace PS := hid (PS.out.step hb); replace PG := hid (PG.out.step hb); replace PR := hid (PR.out.step hb); replace HB := hid (below_then HB.out hb)
  clear hb
  rw [show spCheckC (a, 2, t) = 0 from if_pos HG.out]
  obtain ⟨y00, y01, y02, yf0⟩ := PS.out.cells3
  go_wp2_with fail
  clear y00 y01 y02 yf0
  refine (spneed_any a 2 t w1).mono ?_
  rintro e w2 ⟨rfl, hb⟩
  replace PS := hid (PS.out.step hb); replace PG := hid (PG.out.step hb); replace PR := hid (PR.out.step hb); replace HB := hid (below_then HB.out hb)
  clear hb
  rw [show spNeedF (a, 2, t) = ((1, (inc64 a), 0, 0), true) from if_pos ⟨HG.out, show (2 : Int) ≠ 3 ∧ (2 : Int) ≠ 5 by decide⟩]
  dsimp only
  have bx := below_box w2 (.cells (acs 1 (inc64 a) 0 0) 49)
  replace PS := hid (PS.out.step bx); replace PG := hid (PG.out.step bx); replace PR := hid (PR.out.step bx); replace HB := hid (below_then HB.out bx)
  clear bx
  have PA := hid (Blk.new w2 49 (acs 1 (inc64 a) 0 0))
  obtain ⟨y00, y01, y02, yf0⟩ := PS.out.cells3
  obtain ⟨y10, y11, yf1⟩ := PG.out.cells2
  obtain ⟨y20, y21, y22, y23, yf2⟩ := PA.out.cells4
  go_upto_region 9 with fail
  clear y00 y01 y02 yf0 y10 y11 yf1 y20 y21 y22 y23 yf2
  generalize w2.alloc (.cells (acs 1 (inc64 a) 0 0) 49) = W3 at *
  have HS : Hid (∀ W, Below W3.heap.size W3 W → (W.cell? ⟨w.heap.size, 0, none⟩ = some (.int .i64 a) ∧ W.cell? ⟨w.heap.size, 1, none⟩ = some (.int .i64 2) ∧ W.cell? ⟨w.heap.size, 2, none⟩ = some (.int .u64 t) ∧ W.cell? ⟨w.heap.size + 1, 0, none⟩ = some (.int .u64 x) ∧ W.cell? ⟨w.heap.size + 1, 1, none⟩ = some (.bool true))) := hid (fun W hb => ⟨(PS.out.step hb).cells3.1, (PS.out.step hb).cells3.2.1, (PS.out.step hb).cells3.2.2.1, (PG.out.step hb).cells2.1, (PG.out.step hb).cells2.2.1⟩)
  have hix := widx2; have hfl := wfld21
  have hen := enters_of Try.func62 (by kernel_rfl) rfl
  refine wp_region_noPanic ?_
  refine wp_region_held_tail 8 (fun W => Below W3.heap.size W3 W ∧ W.cell? ⟨w.heap.size, 0, none⟩ = some (.int .i64 a) ∧ W.cell? ⟨w.heap.size, 1, none⟩ = some (.int .i64 2) ∧ W.cell? ⟨w.heap.size, 2, none⟩ = some (.int .u64 t) ∧ W.cell? ⟨w.heap.size + 1, 0, none⟩ = some (.int .u64 x) ∧ W.cell? ⟨w.heap.size + 1, 1, none⟩ = some (.bool true)) #[false, false, false, false, false, false, false, false, false, false] (by kernel_rfl) ⟨(Below.refl _ _).drew, HS.out _ (Below.refl _ _).drew⟩ (by kernel_rfl) (by kernel_rfl) (fun hS => ?_)
  refine wpAnyT_take (i := 1) (v := ?_) (by kernel_rfl) (by simp only [List.getElem?_toArray, List.getElem?_cons_succ, List.getElem?_cons_zero]; rfl) (by kernel_rfl) (fun _ _ _ h => h) (Or.inl ⟨by rfl, ?_⟩) hS ?_
  rotate_left
  · intro w' hSw; (try dsimp only at hSw); go_split_ands; go_simp; (try with_reducible rfl)
  (try simp only [Act.put, List.setIfInBounds_toArray, List.set_cons_zero, List.set_cons_succ])
  refine wpAnyT_take (i := 2) (v := ?_) (by kernel_rfl) (by simp only [List.getElem?_toArray, List.getElem?_cons_succ, List.getElem?_cons_zero]; rfl) (by kernel_rfl) (fun _ _ _ h => h) (Or.inl ⟨by rfl, ?_⟩) hS ?_
  rotate_left
  · intro w' hSw; (try dsimp only at hSw); go_split_ands; go_simp; (try with_reducible rfl)
  (try simp only [Act.put, List.setIfInBounds_toArray, List.set_cons_zero, List.set_cons_succ])
  refine wpAnyT_take (i := 5) (v := ?_) (by kernel_rfl) (by simp only [List.getElem?_toArray, List.getElem?_cons_succ, List.getElem?_cons_zero]; rfl) (by kernel_rfl) (fun _ _ _ h => h) (Or.inl ⟨by rfl, ?_⟩) hS ?_
  rotate_left
  · intro w' hSw; (try dsimp only at hSw); go_split_ands; go_simp; (try with_reducible rfl)
  (try simp only [Act.put, List.setIfInBounds_toArray, List.set_cons_zero, List.set_cons_succ])
  refine wpAnyT_take (i := 6) (v := ?_) (by kernel_rfl) (by simp only [List.getElem?_toArray, List.getElem?_cons_succ, List.getElem?_cons_zero]; rfl) (by kernel_rfl) (fun _ _ _ h => h) (Or.inl ⟨by rfl, ?_⟩) hS ?_
  rotate_left
  · intro w' hSw; (try dsimp only at hSw); go_split_ands; go_simp; (try with_reducible rfl)
  (try simp only [Act.put, List.setIfInBounds_toArray, List.set_cons_zero, List.set_cons_succ])
  refine wpAnyT_ready [0] (by kernel_rfl) (by simp) ?_
  refine AllReadyT.cons (by simp only [List.getElem?_toArray, List.getElem?_cons_succ, List.getElem?_cons_zero]; rfl) rfl (fun K hK => ?_) AllReadyT.nil
  go_simp
  refine (ways_any _).mono ?_
  rintro e w4 ⟨rfl, hb⟩
  have hq3 := hid (below_then (Below.refl W3.heap.size W3).drew hb)
  clear hb
  go_wp2_with fail
  have hS' : (fun W => Below W3.heap.size W3 W ∧ W.cell? ⟨w.heap.size, 0, none⟩ = some (.int .i64 a) ∧ W.cell? ⟨w.heap.size, 1, none⟩ = some (.int .i64 2) ∧ W.cell? ⟨w.heap.size, 2, none⟩ = some (.int .u64 t) ∧ W.cell? ⟨w.heap.size + 1, 0, none⟩ = some (.int .u64 x) ∧ W.cell? ⟨w.heap.size + 1, 1, none⟩ = some (.bool true)) _ := ⟨hq3.out, HS.out _ hq3.out⟩
  refine hK.out _ _ hS' ?_
  clear hK K hS
  have hS := hS'
  clear hS'
  (try simp only [Act.put, List.setIfInBounds_toArray, List.set_cons_zero, List.set_cons_succ])
  refine wpAnyT_take (i := 3) (v := ?_) (by kernel_rfl) (by simp only [List.getElem?_toArray, List.getElem?_cons_succ, List.getElem?_cons_zero]; rfl) (by kernel_rfl) (fun _ _ _ h => h) (Or.inl ⟨by rfl, ?_⟩) hS ?_
  rotate_left
  · intro w' hSw; (try dsimp only at hSw); go_split_ands; go_simp; (try with_reducible rfl)
  (try simp only [Act.put, List.setIfInBounds_toArray, List.set_cons_zero, List.set_cons_succ])
  refine wpAnyT_take (i := 4) (v := ?_) (by kernel_rfl) (by simp only [List.getElem?_toArray, List.getElem?_cons_succ, List.getElem?_cons_zero]; rfl) (by kernel_rfl) (fun _ _ _ h => h) (Or.inl ⟨by rfl, ?_⟩) hS ?_
  rotate_left
  · intro w' hSw; (try dsimp only at hSw); go_split_ands; go_simp; (try with_reducible rfl)
  (try simp only [Act.put, List.setIfInBounds_toArray, List.set_cons_zero, List.set_cons_succ])
  refine wpAnyT_ready [7] (by kernel_rfl) (by simp) ?_
  refine AllReadyT.cons (by simp only [List.getElem?_toArray, List.getElem?_cons_succ, List.getElem?_cons_zero]; rfl) rfl (fun K hK => ?_) AllReadyT.nil
  go_simp
  refine (then2n_any a 2 t x true _ HNE.out).mono ?_
  rintro e w5 ⟨rfl, hb⟩
  have hq4 := hid (below_then hq3.out hb)
  clear hb
  go_wp2_with fail
  have hS' : (fun W => Below W3.heap.size W3 W ∧ W.cell? ⟨w.heap.size, 0, none⟩ = some (.int .i64 a) ∧ W.cell? ⟨w.heap.size, 1, none⟩ = some (.int .i64 2) ∧ W.cell? ⟨w.heap.size, 2, none⟩ = some (.int .u64 t) ∧ W.cell? ⟨w.heap.size + 1, 0, none⟩ = some (.int .u64 x) ∧ W.cell? ⟨w.heap.size + 1, 1, none⟩ = some (.bool true)) _ := ⟨hq4.out, HS.out _ hq4.out⟩
  refine hK.out _ _ hS' ?_
  clear hK K hS
  have hS := hS'
  clear hS'
  (try simp only [Act.put, List.setIfInBounds_toArray, List.set_cons_zero, List.set_cons_succ])
  refine wpAnyT_done (by kernel_rfl) ?_
  simp only [List.drop_succ_cons, List.drop_zero]
  have HB1 := hid (below_then HB.out hq4.out); have PR1 := hid (PR.out.step hq4.out)
  clear hS hix hfl hen
  obtain ⟨x0, x1, x2, xf⟩ := PR1.out.cells3
  go_wp2_with fail
  refine NoPanic.normal ?_
  go_wp2
  obtain ⟨q0, q1, q2, qf⟩ := (((PR1.out.setCell 0 (.int .i64 a)).setCell 1 (.int .i64 2)).setCell 2 (.int .u64 t)).cells3
  refine bodyPost_ret (v := .tuple #[sv a 2 t, .int .i64 0]) (by simp [results, Try.results24, go_sem, q0, q1, q2]) rfl ⟨?_, ((HB1.out.setCell (by simp <;> omega) _).setCell (by simp <;> omega) _).setCell (by simp <;> omega) _⟩
  rw [show spTakeF (a, 2, t) (x, true) = ((a, 2, t), 0) from (spTakeF_ok HG.out (show (2 : Int) ≠ 3 ∧ (2 : Int) ≠ 5 by decide)).trans (by simp [spTake, HNE.out])]
set_option maxRecDepth 100000 in
set_option maxHeartbeats 4000000 in
theorem sptake4 (a t x : Int) (w : World) (hg : SpGood (a, 4, t)) : Calls Try.prog 24 #[sv a 4 t, gv x true] w (TkPost (a, 4, t) (x, true) w) := by
  have HB := hid (Below.refl w.heap.size w)
  have HG := hid hg
  clear hg
  have bx := below_box w (.cells (scs a 4 t) 38)
  replace HB := hid (below_then HB.out bx)
  clear bx
  have PS := hid (Blk.new w 38 (scs a 4 t))
  have bx := below_box (w.alloc (.cells (scs a 4 t) 38)) (.cells #[.int .u64 x, .bool true] 54)
  replace PS := hid (PS.out.step bx); replace HB := hid (below_then HB.out bx)
  clear bx
  have PG := hid (Blk.new2 w 54 #[.int .u64 x, .bool true] (.cells (scs a 4 t) 38))
  have bx := below_box ((w.alloc (.cells (scs a 4 t) 38)).alloc (.cells #[.int .u64 x, .bool true] 54)) (.cells (scs 0 0 0) 38)
  replace PS := hid (PS.out.step bx); replace PG := hid (PG.out.step bx); replace HB := hid (below_then HB.out bx)
  clear bx
  have PR := hid (Blk.new3 w 38 (scs 0 0 0) (.cells (scs a 4 t) 38) (.cells #[.int .u64 x, .bool true] 54))
  obtain ⟨y00, y01, y02, yf0⟩ := PS.out.cells3
  obtain ⟨y10, y11, yf1⟩ := PG.out.cells2
  obtain ⟨y20, y21, y22, yf2⟩ := PR.out.cells3
  go_enter Try.func24, Try.ntmps24
  go_wp2_with fail
  clear y00 y01 y02 yf0 y10 y11 yf1 y20 y21 y22 yf2
  generalize ((w.alloc (.cells (scs a 4 t) 38)).alloc (.cells #[.int .u64 x, .bool true] 54)).alloc (.cells (scs 0 0 0) 38) = W0 at *
  refine (spcheck_any a 4 t W0).mono ?_
  rintro e w1 ⟨rfl, hb⟩
  replace PS := hid (PS.out.step hb); replace PG := hid (PG.out.step hb); replace PR := hid (PR.out.step hb); replace HB := hid (below_then HB.out hb)
  clear hb
  rw [show spCheckC (a, 4, t) = 0 from if_pos HG.out]
  obtain ⟨y00, y01, y02, yf0⟩ := PS.out.cells3
  go_wp2_with fail
  clear y00 y01 y02 yf0
  refine (spneed_any a 4 t w1).mono ?_
  rintro e w2 ⟨rfl, hb⟩
  replace PS := hid (PS.out.step hb); replace PG := hid (PG.out.step hb); replace PR := hid (PR.out.step hb); replace HB := hid (below_then HB.out hb)
  clear hb
  rw [show spNeedF (a, 4, t) = ((2, (inc64 a), 0, (incU t)), true) from if_pos ⟨HG.out, show (4 : Int) ≠ 3 ∧ (4 : Int) ≠ 5 by decide⟩]
  dsimp only
  have bx := below_box w2 (.cells (acs 2 (inc64 a) 0 (incU t)) 49)
  replace PS := hid (PS.out.step bx); replace PG := hid (PG.out.step bx); replace PR := hid (PR.out.step bx); replace HB := hid (below_then HB.out bx)
  clear bx
  have PA := hid (Blk.new w2 49 (acs 2 (inc64 a) 0 (incU t)))
  obtain ⟨y00, y01, y02, yf0⟩ := PS.out.cells3
  obtain ⟨y10, y11, yf1⟩ := PG.out.cells2
  obtain ⟨y20, y21, y22, y23, yf2⟩ := PA.out.cells4
  go_upto_region 9 with fail
  clear y00 y01 y02 yf0 y10 y11 yf1 y20 y21 y22 y23 yf2
  generalize w2.alloc (.cells (acs 2 (inc64 a) 0 (incU t)) 49) = W3 at *
  have HS : Hid (∀ W, Below W3.heap.size W3 W → (W.cell? ⟨w.heap.size, 0, none⟩ = some (.int .i64 a) ∧ W.cell? ⟨w.heap.size, 1, none⟩ = some (.int .i64 4) ∧ W.cell? ⟨w.heap.size, 2, none⟩ = some (.int .u64 t) ∧ W.cell? ⟨w.heap.size + 1, 0, none⟩ = some (.int .u64 x) ∧ W.cell? ⟨w.heap.size + 1, 1, none⟩ = some (.bool true))) := hid (fun W hb => ⟨(PS.out.step hb).cells3.1, (PS.out.step hb).cells3.2.1, (PS.out.step hb).cells3.2.2.1, (PG.out.step hb).cells2.1, (PG.out.step hb).cells2.2.1⟩)
  have hix := widx4; have hfl := wfld41
  have hen := enters_of Try.func64 (by kernel_rfl) rfl
  refine wp_region_noPanic ?_
  refine wp_region_held_tail 8 (fun W => Below W3.heap.size W3 W ∧ W.cell? ⟨w.heap.size, 0, none⟩ = some (.int .i64 a) ∧ W.cell? ⟨w.heap.size, 1, none⟩ = some (.int .i64 4) ∧ W.cell? ⟨w.heap.size, 2, none⟩ = some (.int .u64 t) ∧ W.cell? ⟨w.heap.size + 1, 0, none⟩ = some (.int .u64 x) ∧ W.cell? ⟨w.heap.size + 1, 1, none⟩ = some (.bool true)) #[false, false, false, false, false, false, false, false, false, false] (by kernel_rfl) ⟨(Below.refl _ _).drew, HS.out _ (Below.refl _ _).drew⟩ (by kernel_rfl) (by kernel_rfl) (fun hS => ?_)
  refine wpAnyT_take (i := 1) (v := ?_) (by kernel_rfl) (by simp only [List.getElem?_toArray, List.getElem?_cons_succ, List.getElem?_cons_zero]; rfl) (by kernel_rfl) (fun _ _ _ h => h) (Or.inl ⟨by rfl, ?_⟩) hS ?_
  rotate_left
  · intro w' hSw; (try dsimp only at hSw); go_split_ands; go_simp; (try with_reducible rfl)
  (try simp only [Act.put, List.setIfInBounds_toArray, List.set_cons_zero, List.set_cons_succ])
  refine wpAnyT_take (i := 2) (v := ?_) (by kernel_rfl) (by simp only [List.getElem?_toArray, List.getElem?_cons_succ, List.getElem?_cons_zero]; rfl) (by kernel_rfl) (fun _ _ _ h => h) (Or.inl ⟨by rfl, ?_⟩) hS ?_
  rotate_left
  · intro w' hSw; (try dsimp only at hSw); go_split_ands; go_simp; (try with_reducible rfl)
  (try simp only [Act.put, List.setIfInBounds_toArray, List.set_cons_zero, List.set_cons_succ])
  refine wpAnyT_take (i := 5) (v := ?_) (by kernel_rfl) (by simp only [List.getElem?_toArray, List.getElem?_cons_succ, List.getElem?_cons_zero]; rfl) (by kernel_rfl) (fun _ _ _ h => h) (Or.inl ⟨by rfl, ?_⟩) hS ?_
  rotate_left
  · intro w' hSw; (try dsimp only at hSw); go_split_ands; go_simp; (try with_reducible rfl)
  (try simp only [Act.put, List.setIfInBounds_toArray, List.set_cons_zero, List.set_cons_succ])
  refine wpAnyT_take (i := 6) (v := ?_) (by kernel_rfl) (by simp only [List.getElem?_toArray, List.getElem?_cons_succ, List.getElem?_cons_zero]; rfl) (by kernel_rfl) (fun _ _ _ h => h) (Or.inl ⟨by rfl, ?_⟩) hS ?_
  rotate_left
  · intro w' hSw; (try dsimp only at hSw); go_split_ands; go_simp; (try with_reducible rfl)
  (try simp only [Act.put, List.setIfInBounds_toArray, List.set_cons_zero, List.set_cons_succ])
  refine wpAnyT_ready [0] (by kernel_rfl) (by simp) ?_
  refine AllReadyT.cons (by simp only [List.getElem?_toArray, List.getElem?_cons_succ, List.getElem?_cons_zero]; rfl) rfl (fun K hK => ?_) AllReadyT.nil
  go_simp
  refine (ways_any _).mono ?_
  rintro e w4 ⟨rfl, hb⟩
  have hq3 := hid (below_then (Below.refl W3.heap.size W3).drew hb)
  clear hb
  go_wp2_with fail
  have hS' : (fun W => Below W3.heap.size W3 W ∧ W.cell? ⟨w.heap.size, 0, none⟩ = some (.int .i64 a) ∧ W.cell? ⟨w.heap.size, 1, none⟩ = some (.int .i64 4) ∧ W.cell? ⟨w.heap.size, 2, none⟩ = some (.int .u64 t) ∧ W.cell? ⟨w.heap.size + 1, 0, none⟩ = some (.int .u64 x) ∧ W.cell? ⟨w.heap.size + 1, 1, none⟩ = some (.bool true)) _ := ⟨hq3.out, HS.out _ hq3.out⟩
  refine hK.out _ _ hS' ?_
  clear hK K hS
  have hS := hS'
  clear hS'
  (try simp only [Act.put, List.setIfInBounds_toArray, List.set_cons_zero, List.set_cons_succ])
  refine wpAnyT_take (i := 3) (v := ?_) (by kernel_rfl) (by simp only [List.getElem?_toArray, List.getElem?_cons_succ, List.getElem?_cons_zero]; rfl) (by kernel_rfl) (fun _ _ _ h => h) (Or.inl ⟨by rfl, ?_⟩) hS ?_
  rotate_left
  · intro w' hSw; (try dsimp only at hSw); go_split_ands; go_simp; (try with_reducible rfl)
  (try simp only [Act.put, List.setIfInBounds_toArray, List.set_cons_zero, List.set_cons_succ])
  refine wpAnyT_take (i := 4) (v := ?_) (by kernel_rfl) (by simp only [List.getElem?_toArray, List.getElem?_cons_succ, List.getElem?_cons_zero]; rfl) (by kernel_rfl) (fun _ _ _ h => h) (Or.inl ⟨by rfl, ?_⟩) hS ?_
  rotate_left
  · intro w' hSw; (try dsimp only at hSw); go_split_ands; go_simp; (try with_reducible rfl)
  (try simp only [Act.put, List.setIfInBounds_toArray, List.set_cons_zero, List.set_cons_succ])
  refine wpAnyT_ready [7] (by kernel_rfl) (by simp) ?_
  refine AllReadyT.cons (by simp only [List.getElem?_toArray, List.getElem?_cons_succ, List.getElem?_cons_zero]; rfl) rfl (fun K hK => ?_) AllReadyT.nil
  go_simp
  refine (then4_any a 4 t x true _).mono ?_
  rintro e w5 ⟨rfl, hb⟩
  have hq4 := hid (below_then hq3.out hb)
  clear hb
  go_wp2_with fail
  have hS' : (fun W => Below W3.heap.size W3 W ∧ W.cell? ⟨w.heap.size, 0, none⟩ = some (.int .i64 a) ∧ W.cell? ⟨w.heap.size, 1, none⟩ = some (.int .i64 4) ∧ W.cell? ⟨w.heap.size, 2, none⟩ = some (.int .u64 t) ∧ W.cell? ⟨w.heap.size + 1, 0, none⟩ = some (.int .u64 x) ∧ W.cell? ⟨w.heap.size + 1, 1, none⟩ = some (.bool true)) _ := ⟨hq4.out, HS.out _ hq4.out⟩
  refine hK.out _ _ hS' ?_
  clear hK K hS
  have hS := hS'
  clear hS'
  (try simp only [Act.put, List.setIfInBounds_toArray, List.set_cons_zero, List.set_cons_succ])
  refine wpAnyT_done (by kernel_rfl) ?_
  simp only [List.drop_succ_cons, List.drop_zero]
  have HB1 := hid (below_then HB.out hq4.out); have PR1 := hid (PR.out.step hq4.out)
  clear hS hix hfl hen
  obtain ⟨x0, x1, x2, xf⟩ := PR1.out.cells3
  go_wp2_with fail
  refine NoPanic.normal ?_
  go_wp2
  obtain ⟨q0, q1, q2, qf⟩ := (((PR1.out.setCell 0 (.int .i64 a)).setCell 1 (.int .i64 5)).setCell 2 (.int .u64 t)).cells3
  refine bodyPost_ret (v := .tuple #[sv a 5 t, .int .i64 0]) (by simp [results, Try.results24, go_sem, q0, q1, q2]) rfl ⟨?_, ((HB1.out.setCell (by simp <;> omega) _).setCell (by simp <;> omega) _).setCell (by simp <;> omega) _⟩
  rw [show spTakeF (a, 4, t) (x, true) = ((a, 5, t), 0) from (spTakeF_ok HG.out (show (4 : Int) ≠ 3 ∧ (4 : Int) ≠ 5 by decide)).trans (by simp [spTake])]
theorem sptake_any (a p t x : Int) (y : Bool) (w : World) : Calls Try.prog 24 #[sv a p t, gv x y] w (TkPost (a, p, t) (x, y) w) := by
  by_cases hg : SpGood (a, p, t)
  · have h := hg
    obtain ⟨_, h1, h2, _⟩ := h
    have hp : p = 0 ∨ p = 1 ∨ p = 2 ∨ p = 3 ∨ p = 4 ∨ p = 5 := by have : 0 ≤ p := h1; have : p ≤ 5 := h2; omega
    rcases hp with rfl | rfl | rfl | rfl | rfl | rfl
    · cases y
      · exact sptakeS0 a t x w hg
      · exact sptake0 a t x w hg
    · cases y
      · exact sptake1n a t x w hg
      · exact sptake1y a t x w hg
    · cases y
      · exact sptakeS2 a t x w hg
      · by_cases hx : x = t
        · subst hx; exact sptake2y a x w hg
        · exact sptake2n a t x w ⟨hg, hx⟩
    · exact sptake3 a t x y w hg
    · cases y
      · exact sptakeS4 a t x w hg
      · exact sptake4 a t x w hg
    · exact sptake5 a t x y w hg
  · exact sptake_bad a p t x y w hg
end Go.Proofs.Ytaeanmkbongfcaa
