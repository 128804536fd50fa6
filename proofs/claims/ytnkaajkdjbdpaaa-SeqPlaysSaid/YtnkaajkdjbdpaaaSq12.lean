/- package seq: StepRead, StepWrite. No condition but sizes. -/
import Derived.Test.YtnkaajkdjbdpaaaSq11
namespace Go.Proofs.Ytnkaajkdjbdpaaa
open Go.RowKit
def zRd : Srd := ⟨0, 0, 0, 0, 0, [], 0⟩
def zWr : Swr := ⟨0, 0, [], 0, 0, 0⟩
def RdOkS (s : Srd) : Prop := RdOk s.a s.f s.m s.ph s.bg s.vs.length s.tr
def WrOkS (s : Swr) : Prop := WrOk s.a s.f s.vs.length s.ph s.bg s.wr
instance {s : Srd} : Decidable (RdOkS s) := by unfold RdOkS; infer_instance
instance {s : Swr} : Decidable (WrOkS s) := by unfold WrOkS; infer_instance
def sreadC (m : MSt) (s : Srd) : Int × MSt × Srd := if ¬ MGood m.1 m.2.1 then (120, ([], [], false), zRd) else if ¬ RdOkS s then (160, ([], [], false), zRd) else (0, sreadF m s)
def swriteC (m : MSt) (s : Swr) : Int × MSt × Swr := if ¬ MGood m.1 m.2.1 then (120, ([], [], false), zWr) else if ¬ WrOkS s then (160, ([], [], false), zWr) else (0, swriteF m s)
def SRPost (w : World) (r : Int × MSt × Srd) (e : Ending) (w' : World) : Prop :=
  ∃ A n c B k d V vn vc, e = .returned (.tuple #[mv A n c B k d r.2.1.2.2, rdV r.2.2 V vn vc, .int .i64 r.1]) ∧ Mown w' w.heap.size A n c B k d r.2.1.1 r.2.1.2.1 ∧ Ow u64v w' w.heap.size 27 V vn vc r.2.2.vs ∧ VFar A V ∧ Below w.heap.size w w'
def SWPost (w : World) (r : Int × MSt × Swr) (e : Ending) (w' : World) : Prop :=
  ∃ A n c B k d V vn vc, e = .returned (.tuple #[mv A n c B k d r.2.1.2.2, wrV r.2.2 V vn vc, .int .i64 r.1]) ∧ Mown w' w.heap.size A n c B k d r.2.1.1 r.2.1.2.1 ∧ Ow u64v w' w.heap.size 27 V vn vc r.2.2.vs ∧ VFar A V ∧ Below w.heap.size w w'
structure SRMid (w0 W : World) (g7 g8 : Nat) (A : Option Addr) (n c : Nat) (B : Option Addr) (k d : Nat) (V : Option Addr) (vn vc : Nat) (m : MSt) (s : Srd) : Prop where
  b7 : Blk W g7 44 (mcs A n c B k d m.2.2)
  b8 : Blk W g8 29 (rdc s.a s.f s.m s.ph s.bg V vn vc s.tr)
  om : Mown W w0.heap.size A n c B k d m.1 m.2.1
  ov : Ow u64v W w0.heap.size 27 V vn vc s.vs
  far : VFar A V
  be : Below w0.heap.size w0 W
  l7 : w0.heap.size ≤ g7
  l8 : w0.heap.size ≤ g8
structure SWMid (w0 W : World) (g7 g8 : Nat) (A : Option Addr) (n c : Nat) (B : Option Addr) (k d : Nat) (V : Option Addr) (vn vc : Nat) (m : MSt) (s : Swr) : Prop where
  b7 : Blk W g7 44 (mcs A n c B k d m.2.2)
  b8 : Blk W g8 34 (wrc s.a s.f V vn vc s.ph s.bg s.wr)
  om : Mown W w0.heap.size A n c B k d m.1 m.2.1
  ov : Ow u64v W w0.heap.size 27 V vn vc s.vs
  far : VFar A V
  be : Below w0.heap.size w0 W
  l7 : w0.heap.size ≤ g7
  l8 : w0.heap.size ≤ g8
end Go.Proofs.Ytnkaajkdjbdpaaa
