/- What a law is told of memories, and of accesses, that came in. No condition. -/
import Derived.Test.YtnkaajkdjbdpaaaOpenSm
import Derived.Test.YtnkaajkdjbdpaaaMe10
import Derived.Laws.IdiomArrays
namespace Go.Proofs.Ytnkaajkdjbdpaaa
open Go.ChangeShapes Go.WideShapes Go.ChangeAt Go.RowKit Go.Joins

section
variable {H : Type} {enc : TypeId × Value → H} {w : World} {base : Nat} {spare : Nat → Bool} {held : Bool}
theorem Sm.toSl {α : Type} {enc : α → Value} {d : α} {w : World} {lo hi : Nat} {A : Option Addr} {n : Nat} {xs : List α} (h : Sm 1 (fun x _ => enc x) d w lo hi A n xs) : Sl enc d w lo hi A n xs :=
  ⟨h.len, fun hn => by
    obtain ⟨b, off, e, h1, h2, h3⟩ := h.row hn
    exact ⟨b, off, e, h1, h2, fun k hk => by have := h3 k hk 0 (by omega); simpa using this⟩⟩
theorem open_u64s {fuel : Nat} {v : Value} {x : DataW H × List MemPlace} (h : DataW.trod enc Try.prog w base spare held fuel 24 [v] = some x) :
    ∃ A n c xs, v = .slice A n c ∧ n ≤ c ∧ c ≤ maxLen ∧ Sl u64v 0 w 0 w.heap.size A n xs ∧ ∀ y ∈ xs, 0 ≤ y ∧ y ≤ 18446744073709551615 := by
  obtain ⟨A, n, c, xs, h1, h2, h3, h4, h5⟩ := open_sm Try.underlying24 (sz := 1) (by kernel_rfl) (by omega) (fun (x : Int) _ => u64v x) 0 (fun x => 0 ≤ x ∧ x ≤ 18446744073709551615) (fun n cs y hy => by
    obtain ⟨a, e0, _, hw⟩ := DataW.trod_int Try.underlying27 hy
    subst e0
    refine ⟨a, ?_, fun j hj => by obtain rfl : j = 0 := by omega
                                  rfl⟩
    simp only [Lit.wf, IntKind.min, IntKind.max, IntKind.signed, IntKind.bits, Bool.and_eq_true, decide_eq_true_eq] at hw
    simp at hw
    omega) h
  exact ⟨A, n, c, xs, h1, h2, h3, h4.toSl, h5⟩
theorem open_bools {fuel : Nat} {v : Value} {x : DataW H × List MemPlace} (h : DataW.trod enc Try.prog w base spare held fuel 42 [v] = some x) :
    ∃ A n c xs, v = .slice A n c ∧ n ≤ c ∧ c ≤ maxLen ∧ Sl blv false w 0 w.heap.size A n xs := by
  obtain ⟨A, n, c, xs, h1, h2, h3, h4, _⟩ := open_sm Try.underlying42 (sz := 1) (by kernel_rfl) (by omega) (fun (x : Bool) _ => blv x) false (fun _ => True) (fun n cs y hy => by
    obtain ⟨a, e0, _⟩ := DataW.trod_bool Try.underlying4 hy
    subst e0
    exact ⟨a, trivial, fun j hj => by obtain rfl : j = 0 := by omega
                                      rfl⟩) h
  exact ⟨A, n, c, xs, h1, h2, h3, h4.toSl⟩
set_option maxRecDepth 100000 in
theorem open_memory {r : Reach} {b0 : Nat} {v : Value} {d : DataW H} {p : List MemPlace}
    (hv : Value.okWide Try.prog w r b0 44 v) (h : DataW.Trod enc Try.prog w base spare held 44 v d p) :
    ∃ (A : Option Addr) (n c : Nat) (B : Option Addr) (m d' : Nat) (f : Bool) (xs : List Int) (ys : List Bool), v = mv A n c B m d' f ∧ n ≤ c ∧ m ≤ d' ∧ Sl u64v 0 w 0 w.heap.size A n xs ∧ Sl blv false w 0 w.heap.size B m ys := by
  obtain ⟨v0, v1, v2, y0, y1, y2, k, rfl, _, _, h0, h1, h2⟩ := open_agg3 Try.underlying44 (by kernel_rfl) (by kernel_rfl) hv h
  obtain ⟨A, n, c, xs, rfl, h3, h4, h5, _⟩ := open_u64s h0
  obtain ⟨B, m, d', ys, rfl, h6, h7, h8⟩ := open_bools h1
  obtain ⟨b, e1, _⟩ := DataW.trod_bool Try.underlying4 h2
  simp only [List.cons.injEq, and_true] at e1
  subst e1
  exact ⟨A, n, c, B, m, d', b, xs, ys, rfl, h3, h6, h5, h8⟩
theorem u64_wf {a : Int} (hw : Lit.wf (.int .u64 a) = true) : 0 ≤ a ∧ a ≤ 18446744073709551615 := by
  simp only [Lit.wf, IntKind.min, IntKind.max, IntKind.signed, IntKind.bits, Bool.and_eq_true, decide_eq_true_eq] at hw
  simp at hw
  omega
theorem i64_wf {a : Int} (hw : Lit.wf (.int .i64 a) = true) : -9223372036854775808 ≤ a ∧ a ≤ 9223372036854775807 := by
  simp only [Lit.wf, IntKind.min, IntKind.max, IntKind.signed, IntKind.bits, Bool.and_eq_true, decide_eq_true_eq, if_true] at hw
  omega
def AccOk (a : Acc) : Prop := (-9223372036854775808 ≤ a.1 ∧ a.1 ≤ 9223372036854775807) ∧ (-9223372036854775808 ≤ a.2.1 ∧ a.2.1 ≤ 9223372036854775807) ∧ (0 ≤ a.2.2.1 ∧ a.2.2.1 ≤ 18446744073709551615) ∧ (0 ≤ a.2.2.2 ∧ a.2.2.2 ≤ 18446744073709551615)
set_option maxRecDepth 100000 in
theorem open_access {r : Reach} {b0 : Nat} {v : Value} {d : DataW H} {p : List MemPlace}
    (hv : Value.okWide Try.prog w r b0 116 v) (h : DataW.Trod enc Try.prog w base spare held 116 v d p) :
    ∃ (k a o n : Int), v = av k a o n ∧ AccOk (k, a, o, n) := by
  obtain ⟨v0, v1, v2, v3, y0, y1, y2, y3, k, rfl, _, _, h0, h1, h2, h3⟩ := open_agg4 Try.underlying116 (by kernel_rfl) (by kernel_rfl) hv h
  obtain ⟨a0, e0, _, g0⟩ := DataW.trod_int Try.underlying3 h0
  obtain ⟨a1, e1, _, g1⟩ := DataW.trod_int Try.underlying3 h1
  obtain ⟨a2, e2, _, g2⟩ := DataW.trod_int Try.underlying27 h2
  obtain ⟨a3, e3, _, g3⟩ := DataW.trod_int Try.underlying27 h3
  simp only [List.cons.injEq, and_true] at e0 e1 e2 e3
  subst e0 e1 e2 e3
  exact ⟨a0, a1, a2, a3, rfl, i64_wf g0, i64_wf g1, u64_wf g2, u64_wf g3⟩
set_option maxRecDepth 100000 in
theorem open_trip {r : Reach} {b0 : Nat} {v : Value} {d : DataW H} {p : List MemPlace}
    (hv : Value.okWide Try.prog w r b0 66 v) (h : DataW.Trod enc Try.prog w base spare held 66 v d p) :
    ∃ (a b c : Int), v = .agg #[.int .u64 a, .int .u64 b, .int .u64 c] := by
  simp only [Value.okWide, Try.underlying66] at hv
  obtain ⟨cs, rfl, h2, _⟩ := hv
  rw [show Try.prog.cellsOf 66 = 3 by kernel_rfl] at h2
  obtain ⟨l⟩ := cs
  match l, h2 with
  | [c0, c1, c2], _ =>
    obtain ⟨fuel, hf⟩ := h
    obtain ⟨y0, y1, y2, k, _, h0, h1, h2⟩ := trod_array3 Try.underlying66 (by kernel_rfl) (by simpa [Value.cells] using hf)
    obtain ⟨a0, e0, _, _⟩ := DataW.trod_int Try.underlying27 h0
    obtain ⟨a1, e1, _, _⟩ := DataW.trod_int Try.underlying27 h1
    obtain ⟨a2, e2, _, _⟩ := DataW.trod_int Try.underlying27 h2
    simp only [List.cons.injEq, and_true] at e0 e1 e2
    subst e0 e1 e2
    exact ⟨a0, a1, a2, rfl⟩
end
end Go.Proofs.Ytnkaajkdjbdpaaa
