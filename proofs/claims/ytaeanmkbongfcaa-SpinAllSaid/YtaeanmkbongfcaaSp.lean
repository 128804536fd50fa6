/- package spin: ways, what the phases need, and where they lead; Ask. No condition. -/
import Derived.Test.YtaeanmkbongfcaaMPl
import Derived.Deep.RegionHeld3
import Derived.Laws.EntriesVeiled
import Derived.BigQuiet
namespace Go.Proofs.Ytaeanmkbongfcaa
open Go.RowKit
@[reducible] def scs (at_ ph tk : Int) : Array Value := #[.int .i64 at_, .int .i64 ph, .int .u64 tk]
@[reducible] def sv (at_ ph tk : Int) : Value := .agg (scs at_ ph tk)
/-- one who wants a lock: word, phase, ticket -/
abbrev Spn := Int × Int × Int
def SpGood (s : Spn) : Prop := 0 ≤ s.1 ∧ 0 ≤ s.2.1 ∧ s.2.1 ≤ 5 ∧ (s.2.1 = 0 → s.2.2 = 0)
instance {s : Spn} : Decidable (SpGood s) := by unfold SpGood; infer_instance
def spHas (ph : Int) : Prop := ph ≠ 3 ∧ ph ≠ 5
instance {p : Int} : Decidable (spHas p) := by unfold spHas; infer_instance
def inc64 (a : Int) : Int := wrap64 (a + 1)
def incU (a : Int) : Int := IntKind.u64.wrap (a + 1)
def spNeed (s : Spn) : Acc :=
  if s.2.1 = 0 then (1, s.1, 0, 0) else if s.2.1 = 1 then (3, s.1, s.2.2, incU s.2.2) else if s.2.1 = 2 then (1, inc64 s.1, 0, 0) else (2, inc64 s.1, 0, incU s.2.2)
def spTake (s : Spn) (g : Int × Bool) : Spn :=
  if s.2.1 = 1 then (if g.2 = true then (s.1, 2, s.2.2) else (s.1, 0, 0))
  else if g.2 = false then s
  else if s.2.1 = 0 then (s.1, 1, g.1)
  else if s.2.1 = 2 then (if g.1 = s.2.2 then (s.1, 3, s.2.2) else s)
  else if s.2.1 = 4 then (s.1, 5, s.2.2) else s
@[reducible] def wayV : Value := .agg #[.func (.func 57) #[] #[], .func (.func 58) #[] #[], .func (.func 59) #[] #[], .func (.func 60) #[] #[], .func (.func 61) #[] #[], .func (.func 62) #[] #[], .nilFunc, .nilFunc, .func (.func 63) #[] #[], .func (.func 64) #[] #[], .nilFunc, .nilFunc]
set_option maxHeartbeats 1000000 in
theorem ways_any (w : World) : Calls Try.prog 43 #[] w fun e w' => e = .returned wayV ∧ Below w.heap.size w w' := by
  go_enter Try.func43, Try.ntmps43
  go_wp2
  refine bodyPost_ret (v := wayV) (by simp [results, Try.results43, go_sem]) rfl ⟨rfl, (by repeat (first | (with_reducible exact Below.refl _ _) | (with_reducible refine Below.setCell ?_ ?_ _; rotate_left; focus (first | omega | (simp; done) | (simp; omega) | (simp only [World.size_alloc, size_setRow, World.size_setCell]; omega))) | (with_reducible refine below_setRow ?_ ?_ _; rotate_left; focus (first | omega | (simp; done) | (simp; omega) | (simp only [World.size_alloc, size_setRow, World.size_setCell]; omega))) | (with_reducible refine Below.alloc ?_ ?_ _; rotate_left; focus (first | omega | (simp; done) | (simp; omega) | (simp only [World.size_alloc, size_setRow, World.size_setCell]; omega))) | (with_reducible refine Below.drew ?_) | (with_reducible refine below_drewN ?_ _) | (with_reducible exact Below.refl _ _)))⟩
set_option maxHeartbeats 1000000 in
theorem need0_any (a p t : Int) (w : World) : Calls Try.prog 57 #[sv a p t] w fun e w' => e = .returned (av 1 a 0 0) ∧ Below w.heap.size w w' := by
  go_enter Try.func57, Try.ntmps57
  go_wp2
  refine bodyPost_ret (v := av 1 a 0 0) (by simp [results, Try.results57, go_sem]) rfl ⟨rfl, (by repeat (first | (with_reducible exact Below.refl _ _) | (with_reducible refine Below.setCell ?_ ?_ _; rotate_left; focus (first | omega | (simp; done) | (simp; omega) | (simp only [World.size_alloc, size_setRow, World.size_setCell]; omega))) | (with_reducible refine below_setRow ?_ ?_ _; rotate_left; focus (first | omega | (simp; done) | (simp; omega) | (simp only [World.size_alloc, size_setRow, World.size_setCell]; omega))) | (with_reducible refine Below.alloc ?_ ?_ _; rotate_left; focus (first | omega | (simp; done) | (simp; omega) | (simp only [World.size_alloc, size_setRow, World.size_setCell]; omega))) | (with_reducible refine Below.drew ?_) | (with_reducible refine below_drewN ?_ _) | (with_reducible exact Below.refl _ _)))⟩
set_option maxHeartbeats 1000000 in
theorem need1_any (a p t : Int) (w : World) : Calls Try.prog 59 #[sv a p t] w fun e w' => e = .returned (av 3 a t (incU t)) ∧ Below w.heap.size w w' := by
  go_enter Try.func59, Try.ntmps59
  go_wp2
  refine bodyPost_ret (v := av 3 a t (incU t)) (by simp [results, Try.results59, go_sem, incU, inc64]) rfl ⟨rfl, (by repeat (first | (with_reducible exact Below.refl _ _) | (with_reducible refine Below.setCell ?_ ?_ _; rotate_left; focus (first | omega | (simp; done) | (simp; omega) | (simp only [World.size_alloc, size_setRow, World.size_setCell]; omega))) | (with_reducible refine below_setRow ?_ ?_ _; rotate_left; focus (first | omega | (simp; done) | (simp; omega) | (simp only [World.size_alloc, size_setRow, World.size_setCell]; omega))) | (with_reducible refine Below.alloc ?_ ?_ _; rotate_left; focus (first | omega | (simp; done) | (simp; omega) | (simp only [World.size_alloc, size_setRow, World.size_setCell]; omega))) | (with_reducible refine Below.drew ?_) | (with_reducible refine below_drewN ?_ _) | (with_reducible exact Below.refl _ _)))⟩
set_option maxHeartbeats 1000000 in
theorem need2_any (a p t : Int) (w : World) : Calls Try.prog 61 #[sv a p t] w fun e w' => e = .returned (av 1 (inc64 a) 0 0) ∧ Below w.heap.size w w' := by
  go_enter Try.func61, Try.ntmps61
  go_wp2
  refine bodyPost_ret (v := av 1 (inc64 a) 0 0) (by simp [results, Try.results61, go_sem, incU, inc64]) rfl ⟨rfl, (by repeat (first | (with_reducible exact Below.refl _ _) | (with_reducible refine Below.setCell ?_ ?_ _; rotate_left; focus (first | omega | (simp; done) | (simp; omega) | (simp only [World.size_alloc, size_setRow, World.size_setCell]; omega))) | (with_reducible refine below_setRow ?_ ?_ _; rotate_left; focus (first | omega | (simp; done) | (simp; omega) | (simp only [World.size_alloc, size_setRow, World.size_setCell]; omega))) | (with_reducible refine Below.alloc ?_ ?_ _; rotate_left; focus (first | omega | (simp; done) | (simp; omega) | (simp only [World.size_alloc, size_setRow, World.size_setCell]; omega))) | (with_reducible refine Below.drew ?_) | (with_reducible refine below_drewN ?_ _) | (with_reducible exact Below.refl _ _)))⟩
set_option maxHeartbeats 1000000 in
theorem need4_any (a p t : Int) (w : World) : Calls Try.prog 63 #[sv a p t] w fun e w' => e = .returned (av 2 (inc64 a) 0 (incU t)) ∧ Below w.heap.size w w' := by
  go_enter Try.func63, Try.ntmps63
  go_wp2
  refine bodyPost_ret (v := av 2 (inc64 a) 0 (incU t)) (by simp [results, Try.results63, go_sem, incU, inc64]) rfl ⟨rfl, (by repeat (first | (with_reducible exact Below.refl _ _) | (with_reducible refine Below.setCell ?_ ?_ _; rotate_left; focus (first | omega | (simp; done) | (simp; omega) | (simp only [World.size_alloc, size_setRow, World.size_setCell]; omega))) | (with_reducible refine below_setRow ?_ ?_ _; rotate_left; focus (first | omega | (simp; done) | (simp; omega) | (simp only [World.size_alloc, size_setRow, World.size_setCell]; omega))) | (with_reducible refine Below.alloc ?_ ?_ _; rotate_left; focus (first | omega | (simp; done) | (simp; omega) | (simp only [World.size_alloc, size_setRow, World.size_setCell]; omega))) | (with_reducible refine Below.drew ?_) | (with_reducible refine below_drewN ?_ _) | (with_reducible exact Below.refl _ _)))⟩
set_option maxHeartbeats 1000000 in
theorem ask_any (a : Int) (w : World) : Calls Try.prog 27 #[.int .i64 a] w fun e w' => e = .returned (sv a 0 0) ∧ Below w.heap.size w w' := by
  go_enter Try.func27, Try.ntmps27
  go_wp2
  refine bodyPost_ret (v := sv a 0 0) (by simp [results, Try.results27, go_sem]) rfl ⟨rfl, (by repeat (first | (with_reducible exact Below.refl _ _) | (with_reducible refine Below.setCell ?_ ?_ _; rotate_left; focus (first | omega | (simp; done) | (simp; omega) | (simp only [World.size_alloc, size_setRow, World.size_setCell]; omega))) | (with_reducible refine below_setRow ?_ ?_ _; rotate_left; focus (first | omega | (simp; done) | (simp; omega) | (simp only [World.size_alloc, size_setRow, World.size_setCell]; omega))) | (with_reducible refine Below.alloc ?_ ?_ _; rotate_left; focus (first | omega | (simp; done) | (simp; omega) | (simp only [World.size_alloc, size_setRow, World.size_setCell]; omega))) | (with_reducible refine Below.drew ?_) | (with_reducible refine below_drewN ?_ _) | (with_reducible exact Below.refl _ _)))⟩
set_option maxHeartbeats 1000000 in
theorem then0_any (a p t : Int) (x : Int) (y : Bool) (w : World) : Calls Try.prog 58 #[sv a p t, gv x y] w fun e w' => e = .returned (sv a 1 x) ∧ Below w.heap.size w w' := by
  go_enter Try.func58, Try.ntmps58
  go_wp2
  refine bodyPost_ret (v := sv a 1 x) (by simp [results, Try.results58, go_sem]) rfl ⟨rfl, (by repeat (first | (with_reducible exact Below.refl _ _) | (with_reducible refine Below.setCell ?_ ?_ _; rotate_left; focus (first | omega | (simp; done) | (simp; omega) | (simp only [World.size_alloc, size_setRow, World.size_setCell]; omega))) | (with_reducible refine below_setRow ?_ ?_ _; rotate_left; focus (first | omega | (simp; done) | (simp; omega) | (simp only [World.size_alloc, size_setRow, World.size_setCell]; omega))) | (with_reducible refine Below.alloc ?_ ?_ _; rotate_left; focus (first | omega | (simp; done) | (simp; omega) | (simp only [World.size_alloc, size_setRow, World.size_setCell]; omega))) | (with_reducible refine Below.drew ?_) | (with_reducible refine below_drewN ?_ _) | (with_reducible exact Below.refl _ _)))⟩
set_option maxHeartbeats 1000000 in
theorem then4_any (a p t : Int) (x : Int) (y : Bool) (w : World) : Calls Try.prog 64 #[sv a p t, gv x y] w fun e w' => e = .returned (sv a 5 t) ∧ Below w.heap.size w w' := by
  go_enter Try.func64, Try.ntmps64
  go_wp2
  refine bodyPost_ret (v := sv a 5 t) (by simp [results, Try.results64, go_sem]) rfl ⟨rfl, (by repeat (first | (with_reducible exact Below.refl _ _) | (with_reducible refine Below.setCell ?_ ?_ _; rotate_left; focus (first | omega | (simp; done) | (simp; omega) | (simp only [World.size_alloc, size_setRow, World.size_setCell]; omega))) | (with_reducible refine below_setRow ?_ ?_ _; rotate_left; focus (first | omega | (simp; done) | (simp; omega) | (simp only [World.size_alloc, size_setRow, World.size_setCell]; omega))) | (with_reducible refine Below.alloc ?_ ?_ _; rotate_left; focus (first | omega | (simp; done) | (simp; omega) | (simp only [World.size_alloc, size_setRow, World.size_setCell]; omega))) | (with_reducible refine Below.drew ?_) | (with_reducible refine below_drewN ?_ _) | (with_reducible exact Below.refl _ _)))⟩
set_option maxHeartbeats 1000000 in
theorem then2y_any (a p t : Int) (y : Bool) (w : World) : Calls Try.prog 62 #[sv a p t, gv t y] w fun e w' => e = .returned (sv a 3 t) ∧ Below w.heap.size w w' := by
  have h1 : (t == t) = true := by simp
  go_enter Try.func62, Try.ntmps62
  go_wp2
  refine bodyPost_ret (v := sv a 3 t) (by simp [results, Try.results62, go_sem]) rfl ⟨rfl, (by repeat (first | (with_reducible exact Below.refl _ _) | (with_reducible refine Below.setCell ?_ ?_ _; rotate_left; focus (first | omega | (simp; done) | (simp; omega) | (simp only [World.size_alloc, size_setRow, World.size_setCell]; omega))) | (with_reducible refine below_setRow ?_ ?_ _; rotate_left; focus (first | omega | (simp; done) | (simp; omega) | (simp only [World.size_alloc, size_setRow, World.size_setCell]; omega))) | (with_reducible refine Below.alloc ?_ ?_ _; rotate_left; focus (first | omega | (simp; done) | (simp; omega) | (simp only [World.size_alloc, size_setRow, World.size_setCell]; omega))) | (with_reducible refine Below.drew ?_) | (with_reducible refine below_drewN ?_ _) | (with_reducible exact Below.refl _ _)))⟩
end Go.Proofs.Ytaeanmkbongfcaa
