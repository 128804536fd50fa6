/- What a law is told of rows of rows of numbers that came in. No condition. -/
import Derived.Test.YtaeanmkbongfcaaOpenSm
import Derived.Test.YtaeanmkbongfcaaKitA
namespace Go.Proofs.Ytaeanmkbongfcaa
open Go.ChangeShapes Go.WideShapes Go.ChangeAt Go.RowKit Go.Joins Go.Deep
/-- numbers, and where they lie -/
abbrev NmE := List Int × Option Addr × Nat × Nat
def encN (x : NmE) : Value := .slice x.2.1 x.2.2.1 x.2.2.2
section
variable {H : Type} {enc : TypeId × Value → H} {w : World} {base : Nat} {spare : Nat → Bool} {held : Bool}
set_option maxRecDepth 100000 in
theorem open_rows {r : Reach} {b0 : Nat} {v : Value} {d : DataW H} {p : List MemPlace} (hv : Value.okWide Try.prog w r b0 74 v) (h : DataW.Trod enc Try.prog w base spare held 74 v d p) :
    ∃ A n c xs, v = .slice A n c ∧ n ≤ c ∧ c ≤ maxLen ∧ Sm 1 (fun (x : NmE) _ => encN x) ([], none, 0, 0) w 0 w.heap.size A n xs ∧ ∀ y ∈ xs, Sl i64 0 w 0 w.heap.size y.2.1 y.2.2.1 y.1 ∧ y.2.2.1 ≤ y.2.2.2 ∧ y.2.2.2 ≤ maxLen :=
  open_sm_v Try.underlying74 (sz := 1) (by kernel_rfl) (by omega) (fun (x : NmE) _ => encN x) ([], none, 0, 0) (fun y => Sl i64 0 w 0 w.heap.size y.2.1 y.2.2.1 y.1 ∧ y.2.2.1 ≤ y.2.2.2 ∧ y.2.2.2 ≤ maxLen) (fun n cs' y hy => by
    obtain ⟨u, rfl⟩ : ∃ u, cs' = [u] := by
      rcases open_slice Try.underlying27 hy with ⟨hcs, _⟩ | ⟨a, l, c, m, n, D, Pl, hcs, _⟩
      · exact ⟨_, hcs⟩
      · exact ⟨_, hcs⟩
    obtain ⟨A, n, c, xs, h1, h2, h3, h4, h5⟩ := open_islice hy
    refine ⟨(xs, A, n, c), ⟨h4, h2, h3⟩, fun j hj => ?_⟩
    obtain rfl : j = 0 := by omega
    rw [h1]; rfl) hv h
end
end Go.Proofs.Ytaeanmkbongfcaa
