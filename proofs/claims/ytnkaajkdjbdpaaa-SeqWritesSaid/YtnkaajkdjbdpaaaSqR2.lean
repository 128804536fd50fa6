/- afterglowref06: StepRead. No condition but sizes. -/
import Derived.Test.YtnkaajkdjbdpaaaSqR
import Derived.Test.YtnkaajkdjbdpaaaKitA
import Derived.Test.YtnkaajkdjbdpaaaSqP
import Derived.Deep.CutBlock
namespace Go.Proofs.Ytnkaajkdjbdpaaa
open Go.RowKit
/-- values that lie below B, or behind it, past the boxes -/
def VIn (W : World) (lo B k : Nat) (V : Option Addr) (n : Nat) (vs : List Int) : Prop := B ≤ W.heap.size ∧ (Sl u64v 0 W lo B V n vs ∨ Sl u64v 0 W (B + k) W.heap.size V n vs)
section
variable {W W' : World} {lo B k n : Nat} {V : Option Addr} {vs : List Int}
theorem VIn.sl (h : VIn W lo B k V n vs) (h1 : lo ≤ B) : Sl u64v 0 W lo W.heap.size V n vs := by
  obtain ⟨h2, h | h⟩ := h
  · exact h.mono (Nat.le_refl _) h2
  · exact h.mono (by omega) (Nat.le_refl _)
theorem VIn.step (h : VIn W lo B k V n vs) (hb : Below W.heap.size W W') : VIn W' lo B k V n vs := by
  obtain ⟨h2, h | h⟩ := h
  · exact ⟨Nat.le_trans h2 hb.size, .inl (h.below hb h2)⟩
  · exact ⟨Nat.le_trans h2 hb.size, .inr ((h.below hb (Nat.le_refl _)).mono (Nat.le_refl _) hb.size)⟩
theorem VIn.kept {g : Nat} (h : VIn W lo B k V n vs) (h1 : B ≤ g) (h2 : g < B + k) (hg : W.grownBy W' (some g)) : VIn W' lo B k V n vs := by
  obtain ⟨hB, h | h⟩ := h
  · refine ⟨Nat.le_trans hB hg.size, .inl (h.keep fun b o _ hb => World.cell?_of_block (a := ⟨b, o, none⟩) (hg.block b (by omega) (fun e => ?_)))⟩
    have : b = g := by simpa using e
    omega
  · refine ⟨Nat.le_trans hB hg.size, .inr ((h.keep fun b o hb hb2 => World.cell?_of_block (a := ⟨b, o, none⟩) (hg.block b hb2 (fun e => ?_))).mono (Nat.le_refl _) hg.size)⟩
    have : b = g := by simpa using e
    omega
end
def RSRPost (W : World) (A : Option Addr) (n : Nat) (B : Option Addr) (lo : Nat) (r : MSt × Srd) (e : Ending) (W' : World) : Prop :=
  ∃ A' c' B' d' V vn vc, e = .returned (.tuple #[mv A' n c' B' n d' r.1.2.2, rdV r.2 V vn vc]) ∧ Mem W' A' n c' B' n d' r.1.1 r.1.2.1 ∧ Sl u64v 0 W' lo W'.heap.size V vn r.2.vs ∧ vn ≤ vc ∧ Below W.heap.size W W' ∧ ∀ g, g < W.heap.size → FarM n A B g → FarM n A' B' g
theorem tmod2 (x : Int) : (x.tmod 2 == 0) = decide (x % 2 = 0) := by
  rw [Bool.eq_iff_iff]
  simp only [beq_iff_eq, decide_eq_true_eq]
  rcases Int.le_total 0 x with h | h
  · rw [Int.tmod_eq_emod_of_nonneg h]
  · obtain ⟨y, rfl⟩ : ∃ y, x = -y := ⟨-x, by omega⟩
    rw [Int.neg_tmod, Int.tmod_eq_emod_of_nonneg (by omega)]
    omega
/-- a read behind what was loaded -/
def rdAt (s : Srd) : Int := if s.ph = 2 then s.f + s.vs.length else s.a
def rdNext (s : Srd) (x : Int) (ok : Bool) : Srd :=
  if ok = false then ⟨s.a, s.f, s.m, 5, s.bg, s.vs, s.tr⟩
  else if s.ph = 0 then (if x % 2 = 0 then ⟨s.a, s.f, s.m, if s.m = 0 then 3 else 2, x, [], s.tr⟩ else s)
  else if s.ph = 2 then ⟨s.a, s.f, s.m, if (s.vs.length : Int) + 1 = s.m then 3 else 2, s.bg, s.vs ++ [x], s.tr⟩
  else if x = s.bg then ⟨s.a, s.f, s.m, 4, s.bg, s.vs, s.tr⟩ else ⟨s.a, s.f, s.m, 0, s.bg, s.vs, min (s.tr + 1) 1073741824⟩
/-- behind the switch -/
structure RRMid (w W : World) (A : Option Addr) (n c : Nat) (B : Option Addr) (d : Nat) (m : MSt) (lo : Nat) (s : Srd) : Prop where
  pm : Blk W w.heap.size 44 (mcs A n c B n d m.2.2)
  mn : Mem W A n c B n d m.1 m.2.1
  ps : ∃ V vn vc, Blk W (w.heap.size + 1) 29 (rdc s.a s.f s.m s.ph s.bg V vn vc s.tr) ∧ VIn W lo w.heap.size 4 V vn s.vs ∧ vn ≤ vc
  qm : Blk W (w.heap.size + 2) 44 (mcs none 0 0 none 0 0 false)
  qs : Blk W (w.heap.size + 3) 29 (rdc 0 0 0 0 0 none 0 0 0)
  be : Below w.heap.size w W
end Go.Proofs.Ytnkaajkdjbdpaaa
