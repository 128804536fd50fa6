/- What a law is told of a pool that came in. No condition. -/
import Derived.Test.YtlidbiaadoigeaaOpen
import Derived.Test.YtlidbiaadoigeaaPool2
namespace Go.Proofs.Ytlidbiaadoigeaa
open Go.ChangeShapes Go.WideShapes Go.ChangeAt Go.RowKit Go.Joins

theorem open_pool {H : Type} {enc : TypeId × Value → H} {w : World} {base : Nat} {spare : Nat → Bool} {held : Bool} {r : Reach} {b0 : Nat} {v : Value} {d : DataW H} {p : List MemPlace}
    (hv : Value.okWide Try.prog w r b0 24 v) (h : DataW.Trod enc Try.prog w base spare held 24 v d p) :
    ∃ (ba pa : Int) (A : Option Addr) (n c : Nat) (xs : List Int), v = pv ba pa A n c ∧ n ≤ c ∧ c ≤ maxLen ∧ Sl i64 0 w 0 w.heap.size A n xs := by
  obtain ⟨v0, v1, v2, y0, y1, y2, m, rfl, _, _, h0, h1, h2⟩ := open_agg3 Try.underlying24 (by kernel_rfl) (by kernel_rfl) hv h
  obtain ⟨a, e0, _, _⟩ := DataW.trod_int Try.underlying3 h0
  obtain ⟨b, e1, _, _⟩ := DataW.trod_int Try.underlying3 h1
  simp only [List.cons.injEq, and_true] at e0 e1
  subst e0 e1
  obtain ⟨A, n, c, xs, rfl, h3, h4, h5, _⟩ := open_islice h2
  exact ⟨a, b, A, n, c, xs, rfl, h3, h4, h5⟩
end Go.Proofs.Ytlidbiaadoigeaa
