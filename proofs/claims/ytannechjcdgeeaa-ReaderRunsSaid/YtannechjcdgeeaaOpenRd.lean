/- What a law is told of readers, and of a row of readings, that came in. No condition. -/
import Derived.Test.YtannechjcdgeeaaOpenSm
import Derived.Test.YtannechjcdgeeaaRd11
namespace Go.Proofs.Ytannechjcdgeeaa
open Go.ChangeShapes Go.WideShapes Go.ChangeAt Go.RowKit Go.Joins

section
variable {H : Type} {enc : TypeId × Value → H} {w : World} {base : Nat} {spare : Nat → Bool} {held : Bool}
theorem open_readers {r : Reach} {b0 : Nat} {v : Value} {d : DataW H} {p : List MemPlace}
    (hv : Value.okWide Try.prog w r b0 24 v) (h : DataW.Trod enc Try.prog w base spare held 24 v d p) :
    ∃ (now : Int) (A : Option Addr) (n c : Nat) (B : Option Addr) (m d' : Nat) (xs ys : List Int), v = rv now A n c B m d' ∧ n ≤ c ∧ m ≤ d' ∧ Sl i64 0 w 0 w.heap.size A n xs ∧ Sl i64 0 w 0 w.heap.size B m ys := by
  obtain ⟨v0, v1, v2, y0, y1, y2, k, rfl, _, _, h0, h1, h2⟩ := open_agg3 Try.underlying24 (by kernel_rfl) (by kernel_rfl) hv h
  obtain ⟨a, e0, _, _⟩ := DataW.trod_int Try.underlying3 h0
  simp only [List.cons.injEq, and_true] at e0
  subst e0
  obtain ⟨A, n, c, xs, rfl, h3, h4, h5, _⟩ := open_islice h1
  obtain ⟨B, m, d', ys, rfl, h6, h7, h8, _⟩ := open_islice h2
  exact ⟨a, A, n, c, B, m, d', xs, ys, rfl, h3, h6, h5, h8⟩
theorem open_reading {n : Nat} {cs : List Value} {y : DataW H × List MemPlace} (h : DataW.trod enc Try.prog w base spare held n 32 cs = some y) : ∃ x : Int × Bool, True ∧ ∀ j, j < 2 → cs[j]? = some (encR x j) := by
  obtain ⟨xs, k, _, _, hlen, hl, hf⟩ := DataW.trod_struct Try.underlying32 h
  rw [show Try.prog.cellsOf 32 = 2 by kernel_rfl] at hlen
  match xs, hl, cs, hlen with
  | [y0, y1], _, [v0, v1], _ =>
    have c1 : Try.prog.cellsOf 3 = 1 := by kernel_rfl
    have c2 : Try.prog.cellsOf 4 = 1 := by kernel_rfl
    have g0 := hf 0 _ rfl
    have g1 := hf 1 _ rfl
    simp [c1, c2] at g0 g1
    obtain ⟨a, e0, _, _⟩ := DataW.trod_int Try.underlying3 g0
    obtain ⟨b, e1, _⟩ := DataW.trod_bool Try.underlying4 g1
    simp only [List.cons.injEq, and_true] at e0 e1
    subst e0 e1
    refine ⟨(a, b), trivial, fun j hj => ?_⟩
    match j, hj with
    | 0, _ => rfl
    | 1, _ => rfl
theorem open_readings {r : Reach} {b0 : Nat} {v : Value} {d : DataW H} {p : List MemPlace} (hv : Value.okWide Try.prog w r b0 25 v) (h : DataW.Trod enc Try.prog w base spare held 25 v d p) :
    ∃ A n c xs, v = .slice A n c ∧ n ≤ c ∧ c ≤ maxLen ∧ Sm 2 encR (0, false) w 0 w.heap.size A n xs := by
  obtain ⟨A, n, c, xs, h1, h2, h3, h4, _⟩ := open_sm_v Try.underlying25 (sz := 2) (by kernel_rfl) (by omega) encR (0, false) (fun _ => True) (fun n cs' y => open_reading) hv h
  exact ⟨A, n, c, xs, h1, h2, h3, h4⟩
end
end Go.Proofs.Ytannechjcdgeeaa
