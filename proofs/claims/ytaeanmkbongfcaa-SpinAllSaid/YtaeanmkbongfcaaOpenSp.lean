/- What a law is told of those who want locks, and of what accesses come to, that came in. No condition. -/
import Derived.Test.YtaeanmkbongfcaaOpenMe
import Derived.Test.YtaeanmkbongfcaaSp6
import Derived.OpenShut
namespace Go.Proofs.Ytaeanmkbongfcaa
open Go.ChangeShapes Go.WideShapes Go.ChangeAt Go.RowKit Go.Joins
section
variable {H : Type} {enc : TypeId × Value → H} {w : World} {base : Nat} {spare : Nat → Bool} {held : Bool}
def SpnOk (x : Spn) : Prop := (-9223372036854775808 ≤ x.1 ∧ x.1 ≤ 9223372036854775807) ∧ (-9223372036854775808 ≤ x.2.1 ∧ x.2.1 ≤ 9223372036854775807) ∧ (0 ≤ x.2.2 ∧ x.2.2 ≤ 18446744073709551615)
set_option maxRecDepth 100000 in
theorem open_spn {r : Reach} {b0 : Nat} {v : Value} {d : DataW H} {p : List MemPlace}
    (hv : Value.okWide Try.prog w r b0 38 v) (h : DataW.Trod enc Try.prog w base spare held 38 v d p) :
    ∃ (a0 : Int) (a1 : Int) (a2 : Int), v = .agg #[.int .i64 a0, .int .i64 a1, .int .u64 a2] ∧ SpnOk (a0, a1, a2) := by
  obtain ⟨v0, v1, v2, y0, y1, y2, k, rfl, _, _, h0, h1, h2⟩ := open_agg3 Try.underlying38 (by kernel_rfl) (by kernel_rfl) hv h
  obtain ⟨a0, e0, _, g0⟩ := DataW.trod_int Try.underlying3 h0
  obtain ⟨a1, e1, _, g1⟩ := DataW.trod_int Try.underlying3 h1
  obtain ⟨a2, e2, _, g2⟩ := DataW.trod_int Try.underlying36 h2
  simp only [List.cons.injEq, and_true] at e0 e1 e2
  subst e0 e1 e2
  exact ⟨a0, a1, a2, rfl, ⟨i64_wf g0, i64_wf g1, u64_wf g2⟩⟩

set_option maxRecDepth 100000 in
theorem open_spn_el {n : Nat} {cs : List Value} {y : DataW H × List MemPlace} (h : DataW.trod enc Try.prog w base spare held n 38 cs = some y) : ∃ x : Spn, SpnOk x ∧ ∀ j, j < 3 → cs[j]? = some (encS x j) := by
  obtain ⟨xs, k, _, _, hlen, hl, hf⟩ := DataW.trod_struct Try.underlying38 h
  rw [show Try.prog.cellsOf 38 = 3 by kernel_rfl] at hlen
  match xs, hl, cs, hlen with
  | [y0, y1, y2], _, [v0, v1, v2], _ =>
    have c0 : Try.prog.cellsOf 3 = 1 := by kernel_rfl
    have c1 : Try.prog.cellsOf 36 = 1 := by kernel_rfl
    have g0 := hf 0 _ rfl
    have g1 := hf 1 _ rfl
    have g2 := hf 2 _ rfl
    simp [c0, c1] at g0 g1 g2
    obtain ⟨a0, e0, _, k0⟩ := DataW.trod_int Try.underlying3 g0
    obtain ⟨a1, e1, _, k1⟩ := DataW.trod_int Try.underlying3 g1
    obtain ⟨a2, e2, _, k2⟩ := DataW.trod_int Try.underlying36 g2
    simp only [List.cons.injEq, and_true] at e0 e1 e2
    subst e0 e1 e2
    refine ⟨(a0, a1, a2), ⟨i64_wf k0, i64_wf k1, u64_wf k2⟩, fun j hj => ?_⟩
    match j, hj with
    | 0, _ => rfl
    | 1, _ => rfl
    | 2, _ => rfl
set_option maxRecDepth 100000 in
theorem open_spns {r : Reach} {b0 : Nat} {v : Value} {d : DataW H} {p : List MemPlace} (hv : Value.okWide Try.prog w r b0 26 v) (h : DataW.Trod enc Try.prog w base spare held 26 v d p) :
    ∃ A n c xs, v = .slice A n c ∧ n ≤ c ∧ c ≤ maxLen ∧ Sm 3 encS (0, 0, 0) w 0 w.heap.size A n xs ∧ ∀ y ∈ xs, SpnOk y :=
  open_sm_v Try.underlying26 (sz := 3) (by kernel_rfl) (by omega) encS (0, 0, 0) SpnOk (fun n cs' y => open_spn_el) hv h

def GotOk (x : Int × Bool) : Prop := 0 ≤ x.1 ∧ x.1 ≤ 18446744073709551615
set_option maxRecDepth 100000 in
theorem open_got_el {n : Nat} {cs : List Value} {y : DataW H × List MemPlace} (h : DataW.trod enc Try.prog w base spare held n 54 cs = some y) : ∃ x : (Int × Bool), GotOk x ∧ ∀ j, j < 2 → cs[j]? = some (encG x j) := by
  obtain ⟨xs, k, _, _, hlen, hl, hf⟩ := DataW.trod_struct Try.underlying54 h
  rw [show Try.prog.cellsOf 54 = 2 by kernel_rfl] at hlen
  match xs, hl, cs, hlen with
  | [y0, y1], _, [v0, v1], _ =>
    have c0 : Try.prog.cellsOf 4 = 1 := by kernel_rfl
    have c1 : Try.prog.cellsOf 36 = 1 := by kernel_rfl
    have g0 := hf 0 _ rfl
    have g1 := hf 1 _ rfl
    simp [c0, c1] at g0 g1
    obtain ⟨a0, e0, _, k0⟩ := DataW.trod_int Try.underlying36 g0
    obtain ⟨a1, e1, _⟩ := DataW.trod_bool Try.underlying4 g1
    simp only [List.cons.injEq, and_true] at e0 e1
    subst e0 e1
    refine ⟨(a0, a1), u64_wf k0, fun j hj => ?_⟩
    match j, hj with
    | 0, _ => rfl
    | 1, _ => rfl
set_option maxRecDepth 100000 in
theorem open_gots {r : Reach} {b0 : Nat} {v : Value} {d : DataW H} {p : List MemPlace} (hv : Value.okWide Try.prog w r b0 46 v) (h : DataW.Trod enc Try.prog w base spare held 46 v d p) :
    ∃ A n c xs, v = .slice A n c ∧ n ≤ c ∧ c ≤ maxLen ∧ Sm 2 encG (0, false) w 0 w.heap.size A n xs ∧ ∀ y ∈ xs, GotOk y :=
  open_sm_v Try.underlying46 (sz := 2) (by kernel_rfl) (by omega) encG (0, false) GotOk (fun n cs' y => open_got_el) hv h

end
end Go.Proofs.Ytaeanmkbongfcaa
