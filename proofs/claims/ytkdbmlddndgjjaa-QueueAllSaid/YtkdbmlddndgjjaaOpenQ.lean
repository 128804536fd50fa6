/- What a law is told of queues that came in. No condition. -/
import Derived.Test.YtkdbmlddndgjjaaOpenSm
import Derived.Test.YtkdbmlddndgjjaaQw
import Derived.Laws.IdiomArrays
namespace Go.Proofs.Ytkdbmlddndgjjaa
open Go.ChangeShapes Go.WideShapes Go.ChangeAt Go.RowKit Go.Joins

section
variable {H : Type} {enc : TypeId × Value → H} {w : World} {base : Nat} {spare : Nat → Bool} {held : Bool}
theorem u64_wf {a : Int} (hw : Lit.wf (.int .u64 a) = true) : 0 ≤ a ∧ a ≤ 18446744073709551615 := by
  simp only [Lit.wf, IntKind.min, IntKind.max, IntKind.signed, IntKind.bits, Bool.and_eq_true, decide_eq_true_eq] at hw
  simp at hw
  omega
theorem open_cb_el {n : Nat} {cs : List Value} {y : DataW H × List MemPlace} (h : DataW.trod enc Try.prog w base spare held n 53 cs = some y) : ∃ x : Cb, ((0 ≤ x.1 ∧ x.1 ≤ 18446744073709551615) ∧ 0 ≤ x.2 ∧ x.2 ≤ 18446744073709551615) ∧ ∀ j, j < 2 → cs[j]? = some (encC x j) := by
  obtain ⟨xs, k, _, _, hlen, hl, hf⟩ := DataW.trod_struct Try.underlying53 h
  rw [show Try.prog.cellsOf 53 = 2 by kernel_rfl] at hlen
  match xs, hl, cs, hlen with
  | [y0, y1], _, [v0, v1], _ =>
    have c2 : Try.prog.cellsOf 23 = 1 := by kernel_rfl
    have g0 := hf 0 _ rfl
    have g1 := hf 1 _ rfl
    simp [c2] at g0 g1
    obtain ⟨a0, e0, _, k0⟩ := DataW.trod_int Try.underlying23 g0
    obtain ⟨a1, e1, _, k1⟩ := DataW.trod_int Try.underlying23 g1
    simp only [List.cons.injEq, and_true] at e0 e1
    subst e0 e1
    refine ⟨(a0, a1), ⟨u64_wf k0, u64_wf k1⟩, fun j hj => ?_⟩
    match j, hj with
    | 0, _ => rfl
    | 1, _ => rfl
theorem open_queue {r : Reach} {b0 : Nat} {v : Value} {d : DataW H} {p : List MemPlace}
    (hv : Value.okWide Try.prog w r b0 25 v) (h : DataW.Trod enc Try.prog w base spare held 25 v d p) :
    ∃ (A : Option Addr) (n c : Nat) (o : Int) (xs : List Cb), v = qv A n c o ∧ n ≤ c ∧ c ≤ maxLen ∧ Sm 2 encC (0, 0) w 0 w.heap.size A n xs ∧ 0 ≤ o ∧ o ≤ 18446744073709551615 ∧ ∀ y ∈ xs, (0 ≤ y.1 ∧ y.1 ≤ 18446744073709551615) ∧ 0 ≤ y.2 ∧ y.2 ≤ 18446744073709551615 := by
  obtain ⟨v0, v1, y0, y1, k, rfl, _, _, h0, h1⟩ := open_agg2 Try.underlying25 (by kernel_rfl) (by kernel_rfl) hv h
  obtain ⟨A, n, c, xs, rfl, h3, h4, h5, h6⟩ := open_sm Try.underlying22 (sz := 2) (by kernel_rfl) (by omega) encC (0, 0) _ (fun n cs' y => open_cb_el) h0
  obtain ⟨o, e1, _, g1⟩ := DataW.trod_int Try.underlying23 h1
  simp only [List.cons.injEq, and_true] at e1
  subst e1
  exact ⟨A, n, c, o, xs, rfl, h3, h4, h5, (u64_wf g1).1, (u64_wf g1).2, h6⟩
theorem open_u64s_v {r : Reach} {b0 : Nat} {v : Value} {d : DataW H} {p : List MemPlace} (hv : Value.okWide Try.prog w r b0 26 v) (h : DataW.Trod enc Try.prog w base spare held 26 v d p) :
    ∃ A n c xs, v = .slice A n c ∧ n ≤ c ∧ c ≤ maxLen ∧ Sl u64v 0 w 0 w.heap.size A n xs ∧ ∀ y ∈ xs, 0 ≤ y ∧ y ≤ 18446744073709551615 := by
  obtain ⟨A, n, c, xs, h1, h2, h3, h4, h5⟩ := open_sm_v Try.underlying26 (sz := 1) (by kernel_rfl) (by omega) (fun (x : Int) _ => u64v x) 0 (fun x => 0 ≤ x ∧ x ≤ 18446744073709551615) (fun n cs y hy => by
    obtain ⟨a, e0, _, hw⟩ := DataW.trod_int Try.underlying23 hy
    subst e0
    exact ⟨a, u64_wf hw, fun j hj => by obtain rfl : j = 0 := by omega
                                        rfl⟩) hv h
  exact ⟨A, n, c, xs, h1, h2, h3, h4.toSl1, h5⟩
theorem open_two {r : Reach} {b0 : Nat} {v : Value} {d : DataW H} {p : List MemPlace}
    (hv : Value.okWide Try.prog w r b0 27 v) (h : DataW.Trod enc Try.prog w base spare held 27 v d p) :
    ∃ (a b : Int), v = .agg #[.int .u64 a, .int .u64 b] := by
  simp only [Value.okWide, Try.underlying27] at hv
  obtain ⟨cs, rfl, h2, _⟩ := hv
  rw [show Try.prog.cellsOf 27 = 2 by kernel_rfl] at h2
  obtain ⟨l⟩ := cs
  match l, h2 with
  | [c0, c1], _ =>
    obtain ⟨fuel, hf⟩ := h
    obtain ⟨xs, k, _, _, hlen, hl, hf'⟩ := DataW.trod_array Try.underlying27 (by simpa [Value.cells] using hf)
    match xs, hl with
    | [y0, y1], _ =>
      have c1 : Try.prog.cellsOf 23 = 1 := by kernel_rfl
      have g0 := hf' 0 (by omega)
      have g1 := hf' 1 (by omega)
      simp [c1] at g0 g1
      obtain ⟨a0, e0, _, _⟩ := DataW.trod_int Try.underlying23 g0
      obtain ⟨a1, e1, _, _⟩ := DataW.trod_int Try.underlying23 g1
      simp only [List.cons.injEq, and_true] at e0 e1
      subst e0 e1
      exact ⟨a0, a1, rfl⟩
end
end Go.Proofs.Ytkdbmlddndgjjaa
