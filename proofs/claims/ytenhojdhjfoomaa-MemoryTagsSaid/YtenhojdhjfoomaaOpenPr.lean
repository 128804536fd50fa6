/- What a law is told of pairs of numbers that came in. No condition. -/
import Derived.Test.YtenhojdhjfoomaaOpenMe
import Derived.Test.YtenhojdhjfoomaaMEq
import Derived.OpenShut
namespace Go.Proofs.Ytenhojdhjfoomaa
open Go.ChangeShapes Go.WideShapes Go.ChangeAt Go.RowKit Go.Joins
section
variable {H : Type} {enc : TypeId × Value → H} {w : World} {base : Nat} {spare : Nat → Bool} {held : Bool}
def PairOk (x : Int × Int) : Prop := (-9223372036854775808 ≤ x.1 ∧ x.1 ≤ 9223372036854775807) ∧ (-9223372036854775808 ≤ x.2 ∧ x.2 ≤ 9223372036854775807)
theorem open_pair_el {n : Nat} {cs : List Value} {y : DataW H × List MemPlace} (h : DataW.trod enc Try.prog w base spare held n 29 cs = some y) : ∃ x : Int × Int, PairOk x ∧ ∀ j, j < 2 → cs[j]? = some (encP x j) := by
  obtain ⟨xs, k, _, _, hlen, hl, hf⟩ := DataW.trod_array Try.underlying29 h
  rw [show Try.prog.cellsOf 29 = 2 by kernel_rfl] at hlen
  match xs, hl, cs, hlen with
  | [y0, y1], _, [v0, v1], _ =>
    have c1 : Try.prog.cellsOf 3 = 1 := by kernel_rfl
    have g0 := hf 0 (by omega)
    have g1 := hf 1 (by omega)
    simp [c1] at g0 g1
    obtain ⟨a0, e0, _, k0⟩ := DataW.trod_int Try.underlying3 g0
    obtain ⟨a1, e1, _, k1⟩ := DataW.trod_int Try.underlying3 g1
    simp only [List.cons.injEq, and_true] at e0 e1
    subst e0 e1
    refine ⟨(a0, a1), ⟨i64_wf k0, i64_wf k1⟩, fun j hj => ?_⟩
    match j, hj with
    | 0, _ => rfl
    | 1, _ => rfl
theorem open_pairs {r : Reach} {b0 : Nat} {v : Value} {d : DataW H} {p : List MemPlace} (hv : Value.okWide Try.prog w r b0 26 v) (h : DataW.Trod enc Try.prog w base spare held 26 v d p) :
    ∃ A n c xs, v = .slice A n c ∧ n ≤ c ∧ c ≤ maxLen ∧ Sm 2 encP (0, 0) w 0 w.heap.size A n xs ∧ ∀ y ∈ xs, PairOk y :=
  open_sm_v Try.underlying26 (sz := 2) (by kernel_rfl) (by omega) encP (0, 0) PairOk (fun n cs' y => open_pair_el) hv h
end
end Go.Proofs.Ytenhojdhjfoomaa
