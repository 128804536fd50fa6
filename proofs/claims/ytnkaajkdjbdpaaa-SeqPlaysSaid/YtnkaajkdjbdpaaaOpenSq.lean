/- What a law is told of reads and writes of a counter, that came in. No condition. -/
import Derived.Test.YtnkaajkdjbdpaaaOpenMe
import Derived.Test.YtnkaajkdjbdpaaaSq16
import Derived.OpenShut
namespace Go.Proofs.Ytnkaajkdjbdpaaa
open Go.ChangeShapes Go.WideShapes Go.ChangeAt Go.RowKit Go.Joins Go.Deep
section
variable {H : Type} {enc : TypeId × Value → H} {P : Program} {w : World} {base : Nat} {spare : Nat → Bool} {held : Bool}
end
section
variable {H : Type} {enc : TypeId × Value → H} {w : World} {base : Nat} {spare : Nat → Bool} {held : Bool}
def RdIn (s : Srd) : Prop := 0 ≤ s.bg ∧ s.bg ≤ 18446744073709551615
def WrIn (s : Swr) : Prop := 0 ≤ s.bg ∧ s.bg ≤ 18446744073709551615
set_option maxRecDepth 100000 in
theorem open_bools_v {r : Reach} {b0 : Nat} {v : Value} {d : DataW H} {p : List MemPlace} (hv : Value.okWide Try.prog w r b0 42 v) (h : DataW.Trod enc Try.prog w base spare held 42 v d p) :
    ∃ A n c xs, v = .slice A n c ∧ n ≤ c ∧ c ≤ maxLen ∧ Sl blv false w 0 w.heap.size A n xs := by
  obtain ⟨A, n, c, xs, h1, h2, h3, h4, _⟩ := open_sm_v Try.underlying42 (sz := 1) (by kernel_rfl) (by omega) (fun (x : Bool) _ => blv x) false (fun _ => True) (fun n cs y hy => by
    obtain ⟨a, e0, _⟩ := DataW.trod_bool Try.underlying4 hy
    subst e0
    exact ⟨a, trivial, fun j hj => by obtain rfl : j = 0 := by omega
                                      rfl⟩) hv h
  exact ⟨A, n, c, xs, h1, h2, h3, h4.toSl⟩
end
end Go.Proofs.Ytnkaajkdjbdpaaa
