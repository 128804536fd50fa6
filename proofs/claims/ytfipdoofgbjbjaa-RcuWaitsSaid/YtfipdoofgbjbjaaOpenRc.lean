/- What a law is told of all of chapter 14, and of a row of what CPUs do, that came in. No condition. -/
import Derived.Test.YtfipdoofgbjbjaaKitA
import Derived.Test.YtfipdoofgbjbjaaRc17
import Derived.Laws.IdiomArrays
namespace Go.Proofs.Ytfipdoofgbjbjaa
open Go.ChangeShapes Go.WideShapes Go.ChangeAt Go.RowKit Go.Joins Go.Deep
theorem i64_wf {a : Int} (hw : Lit.wf (.int .i64 a) = true) : -9223372036854775808 ≤ a ∧ a ≤ 9223372036854775807 := by
  simp only [Lit.wf, IntKind.min, IntKind.max, IntKind.signed, IntKind.bits, Bool.and_eq_true, decide_eq_true_eq, if_true] at hw
  omega
theorem u64_wf {a : Int} (hw : Lit.wf (.int .u64 a) = true) : 0 ≤ a ∧ a ≤ 18446744073709551615 := by
  simp only [Lit.wf, IntKind.min, IntKind.max, IntKind.signed, IntKind.bits, Bool.and_eq_true, decide_eq_true_eq] at hw
  simp at hw
  omega
section
variable {H : Type} {enc : TypeId × Value → H} {w : World} {base : Nat} {spare : Nat → Bool} {held : Bool}
/-- a queue of a row that came in -/
def QeIn (w : World) (x : Qe) : Prop := Sm 2 encC (0, 0) w 0 w.heap.size x.A x.n x.l ∧ x.n ≤ x.c ∧ 0 ≤ x.o ∧ x.o ≤ 18446744073709551615
def OpOk (x : Int × Int × Int) : Prop := (-9223372036854775808 ≤ x.1 ∧ x.1 ≤ 9223372036854775807) ∧ (-9223372036854775808 ≤ x.2.1 ∧ x.2.1 ≤ 9223372036854775807) ∧ (0 ≤ x.2.2 ∧ x.2.2 ≤ 18446744073709551615)
set_option maxRecDepth 100000 in
theorem open_rcop_el {n : Nat} {cs : List Value} {y : DataW H × List MemPlace} (h : DataW.trod enc Try.prog w base spare held n 44 cs = some y) : ∃ x : (Int × Int × Int), OpOk x ∧ ∀ j, j < 3 → cs[j]? = some (encO x j) := by
  obtain ⟨xs, k, _, _, hlen, hl, hf⟩ := DataW.trod_struct Try.underlying44 h
  rw [show Try.prog.cellsOf 44 = 3 by kernel_rfl] at hlen
  match xs, hl, cs, hlen with
  | [y0, y1, y2], _, [v0, v1, v2], _ =>
    have c0 : Try.prog.cellsOf 3 = 1 := by kernel_rfl
    have c1 : Try.prog.cellsOf 38 = 1 := by kernel_rfl
    have g0 := hf 0 _ rfl
    have g1 := hf 1 _ rfl
    have g2 := hf 2 _ rfl
    simp [c0, c1] at g0 g1 g2
    obtain ⟨a0, e0, _, k0⟩ := DataW.trod_int Try.underlying3 g0
    obtain ⟨a1, e1, _, k1⟩ := DataW.trod_int Try.underlying3 g1
    obtain ⟨a2, e2, _, k2⟩ := DataW.trod_int Try.underlying38 g2
    simp only [List.cons.injEq, and_true] at e0 e1 e2
    subst e0 e1 e2
    refine ⟨(a0, a1, a2), ⟨i64_wf k0, i64_wf k1, u64_wf k2⟩, fun j hj => ?_⟩
    match j, hj with
    | 0, _ => rfl
    | 1, _ => rfl
    | 2, _ => rfl
set_option maxRecDepth 100000 in
theorem open_rcops {r : Reach} {b0 : Nat} {v : Value} {d : DataW H} {p : List MemPlace} (hv : Value.okWide Try.prog w r b0 47 v) (h : DataW.Trod enc Try.prog w base spare held 47 v d p) :
    ∃ A n c xs, v = .slice A n c ∧ n ≤ c ∧ c ≤ maxLen ∧ Sm 3 encO (0, 0, 0) w 0 w.heap.size A n xs ∧ ∀ y ∈ xs, OpOk y :=
  open_sm_v Try.underlying47 (sz := 3) (by kernel_rfl) (by omega) encO (0, 0, 0) OpOk (fun n cs' y => open_rcop_el) hv h

end
end Go.Proofs.Ytfipdoofgbjbjaa
