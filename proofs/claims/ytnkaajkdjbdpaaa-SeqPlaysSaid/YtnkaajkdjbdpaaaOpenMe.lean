/- What a law is told of memories, and of accesses, that came in. No condition. -/
import Derived.Test.YtnkaajkdjbdpaaaOpenSm
import Derived.Test.YtnkaajkdjbdpaaaMe10
import Derived.Laws.IdiomArrays
namespace Go.Proofs.Ytnkaajkdjbdpaaa
open Go.ChangeShapes Go.WideShapes Go.ChangeAt Go.RowKit Go.Joins

section
variable {H : Type} {enc : TypeId × Value → H} {w : World} {base : Nat} {spare : Nat → Bool} {held : Bool}
theorem Sm.toSl {α : Type} {enc : α → Value} {d : α} {w : World} {lo hi : Nat} {A : Option Addr} {n : Nat} {xs : List α} (h : Sm 1 (fun x _ => enc x) d w lo hi A n xs) : Sl enc d w lo hi A n xs :=
  ⟨h.len, fun hn => by
    obtain ⟨b, off, e, h1, h2, h3⟩ := h.row hn
    exact ⟨b, off, e, h1, h2, fun k hk => by have := h3 k hk 0 (by omega); simpa using this⟩⟩
theorem open_u64s {fuel : Nat} {v : Value} {x : DataW H × List MemPlace} (h : DataW.trod enc Try.prog w base spare held fuel 24 [v] = some x) :
    ∃ A n c xs, v = .slice A n c ∧ n ≤ c ∧ c ≤ maxLen ∧ Sl u64v 0 w 0 w.heap.size A n xs ∧ ∀ y ∈ xs, 0 ≤ y ∧ y ≤ 18446744073709551615 := by
  obtain ⟨A, n, c, xs, h1, h2, h3, h4, h5⟩ := open_sm Try.underlying24 (sz := 1) (by kernel_rfl) (by omega) (fun (x : Int) _ => u64v x) 0 (fun x => 0 ≤ x ∧ x ≤ 18446744073709551615) (fun n cs y hy => by
    obtain ⟨a, e0, _, hw⟩ := DataW.trod_int Try.underlying27 hy
    subst e0
    refine ⟨a, ?_, fun j hj => by obtain rfl : j = 0 := by omega
                                  rfl⟩
    simp only [Lit.wf, IntKind.min, IntKind.max, IntKind.signed, IntKind.bits, Bool.and_eq_true, decide_eq_true_eq] at hw
    simp at hw
    omega) h
  exact ⟨A, n, c, xs, h1, h2, h3, h4.toSl, h5⟩
theorem open_bools {fuel : Nat} {v : Value} {x : DataW H × List MemPlace} (h : DataW.trod enc Try.prog w base spare held fuel 42 [v] = some x) :
    ∃ A n c xs, v = .slice A n c ∧ n ≤ c ∧ c ≤ maxLen ∧ Sl blv false w 0 w.heap.size A n xs := by
  obtain ⟨A, n, c, xs, h1, h2, h3, h4, _⟩ := open_sm Try.underlying42 (sz := 1) (by kernel_rfl) (by omega) (fun (x : Bool) _ => blv x) false (fun _ => True) (fun n cs y hy => by
    obtain ⟨a, e0, _⟩ := DataW.trod_bool Try.underlying4 hy
    subst e0
    exact ⟨a, trivial, fun j hj => by obtain rfl : j = 0 := by omega
                                      rfl⟩) h
  exact ⟨A, n, c, xs, h1, h2, h3, h4.toSl⟩
theorem u64_wf {a : Int} (hw : Lit.wf (.int .u64 a) = true) : 0 ≤ a ∧ a ≤ 18446744073709551615 := by
  simp only [Lit.wf, IntKind.min, IntKind.max, IntKind.signed, IntKind.bits, Bool.and_eq_true, decide_eq_true_eq] at hw
  simp at hw
  omega
def AccOk (a : Acc) : Prop := (-9223372036854775808 ≤ a.1 ∧ a.1 ≤ 9223372036854775807) ∧ (-9223372036854775808 ≤ a.2.1 ∧ a.2.1 ≤ 9223372036854775807) ∧ (0 ≤ a.2.2.1 ∧ a.2.2.1 ≤ 18446744073709551615) ∧ (0 ≤ a.2.2.2 ∧ a.2.2.2 ≤ 18446744073709551615)
end
end Go.Proofs.Ytnkaajkdjbdpaaa
