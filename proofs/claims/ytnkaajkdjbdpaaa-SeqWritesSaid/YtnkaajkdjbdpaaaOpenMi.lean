/- What a law is told of memories that came in, with the words' bounds. No condition. -/
import Derived.Test.YtnkaajkdjbdpaaaOpenMe
import Derived.Laws.IdiomArrays
namespace Go.Proofs.Ytnkaajkdjbdpaaa
open Go.ChangeShapes Go.WideShapes Go.ChangeAt Go.RowKit Go.Joins
section
variable {H : Type} {enc : TypeId × Value → H} {w : World} {base : Nat} {spare : Nat → Bool} {held : Bool}
set_option maxRecDepth 100000 in
theorem open_memory_in {r : Reach} {b0 : Nat} {v : Value} {d : DataW H} {p : List MemPlace}
    (hv : Value.okWide Try.prog w r b0 44 v) (h : DataW.Trod enc Try.prog w base spare held 44 v d p) :
    ∃ (A : Option Addr) (n c : Nat) (B : Option Addr) (m d' : Nat) (f : Bool) (xs : List Int) (ys : List Bool), v = mv A n c B m d' f ∧ n ≤ c ∧ m ≤ d' ∧ Sl u64v 0 w 0 w.heap.size A n xs ∧ Sl blv false w 0 w.heap.size B m ys ∧ ∀ y ∈ xs, 0 ≤ y := by
  obtain ⟨v0, v1, v2, y0, y1, y2, k, rfl, _, _, h0, h1, h2⟩ := open_agg3 Try.underlying44 (by kernel_rfl) (by kernel_rfl) hv h
  obtain ⟨A, n, c, xs, rfl, h3, h4, h5, h9⟩ := open_u64s h0
  obtain ⟨B, m, d', ys, rfl, h6, h7, h8⟩ := open_bools h1
  obtain ⟨b, e1, _⟩ := DataW.trod_bool Try.underlying4 h2
  simp only [List.cons.injEq, and_true] at e1
  subst e1
  exact ⟨A, n, c, B, m, d', b, xs, ys, rfl, h3, h6, h5, h8, fun y hy => (h9 y hy).1⟩
end
end Go.Proofs.Ytnkaajkdjbdpaaa
