/- What a law is told of rows of three words that came in. No condition. -/
import Derived.Test.YtnkaajkdjbdpaaaOpenMe
import Derived.OpenShut
namespace Go.Proofs.Ytnkaajkdjbdpaaa
open Go.ChangeShapes Go.WideShapes Go.ChangeAt Go.RowKit Go.Joins
abbrev Trp := Int × Int × Int
def encT (x : Trp) : Nat → Value
  | 0 => .int .u64 x.1
  | 1 => .int .u64 x.2.1
  | _ => .int .u64 x.2.2
def TrpOk (x : Trp) : Prop := (0 ≤ x.1 ∧ x.1 ≤ 18446744073709551615) ∧ (0 ≤ x.2.1 ∧ x.2.1 ≤ 18446744073709551615) ∧ (0 ≤ x.2.2 ∧ x.2.2 ≤ 18446744073709551615)
section
variable {H : Type} {enc : TypeId × Value → H} {w : World} {base : Nat} {spare : Nat → Bool} {held : Bool}
set_option maxRecDepth 100000 in
theorem open_trip_el {n : Nat} {cs : List Value} {y : DataW H × List MemPlace} (h : DataW.trod enc Try.prog w base spare held n 66 cs = some y) : ∃ x : Trp, TrpOk x ∧ ∀ j, j < 3 → cs[j]? = some (encT x j) := by
  obtain ⟨xs, k, _, _, hlen, hl, hf⟩ := DataW.trod_array Try.underlying66 h
  rw [show Try.prog.cellsOf 66 = 3 by kernel_rfl] at hlen
  match xs, hl, cs, hlen with
  | [y0, y1, y2], _, [v0, v1, v2], _ =>
    have c1 : Try.prog.cellsOf 27 = 1 := by kernel_rfl
    have g0 := hf 0 (by omega)
    have g1 := hf 1 (by omega)
    have g2 := hf 2 (by omega)
    simp [c1] at g0 g1 g2
    obtain ⟨a0, e0, _, k0⟩ := DataW.trod_int Try.underlying27 g0
    obtain ⟨a1, e1, _, k1⟩ := DataW.trod_int Try.underlying27 g1
    obtain ⟨a2, e2, _, k2⟩ := DataW.trod_int Try.underlying27 g2
    simp only [List.cons.injEq, and_true] at e0 e1 e2
    subst e0 e1 e2
    refine ⟨(a0, a1, a2), ⟨u64_wf k0, u64_wf k1, u64_wf k2⟩, fun j hj => ?_⟩
    match j, hj with
    | 0, _ => rfl
    | 1, _ => rfl
    | 2, _ => rfl
set_option maxRecDepth 100000 in
theorem open_trips {r : Reach} {b0 : Nat} {v : Value} {d : DataW H} {p : List MemPlace} (hv : Value.okWide Try.prog w r b0 61 v) (h : DataW.Trod enc Try.prog w base spare held 61 v d p) :
    ∃ A n c xs, v = .slice A n c ∧ n ≤ c ∧ c ≤ maxLen ∧ Sm 3 encT (0, 0, 0) w 0 w.heap.size A n xs ∧ ∀ y ∈ xs, TrpOk y :=
  open_sm_v Try.underlying61 (sz := 3) (by kernel_rfl) (by omega) encT (0, 0, 0) TrpOk (fun n cs' y => open_trip_el) hv h
end
end Go.Proofs.Ytnkaajkdjbdpaaa
