/- afterglowlaw14: own, op. No condition but sizes, and that numbers are of their kinds. -/
import Derived.Test.YtfipdoofgbjbjaaRc16
import Derived.Deep.DeepCutAuto
import Derived.Deep.CutBlock
namespace Go.Proofs.Ytfipdoofgbjbjaa
open Go.RowKit
attribute [local go_sem] Oper.semAt_some
/-- all of it, as it came in -/
structure RcIn (w : World) (s : St) (g : Gr) (es : List Qe) (a : Ra) : Prop where
  ra : Sl i64 0 w 0 w.heap.size a.A a.n s.2.1
  ka : a.n ≤ a.k
  rb : Sl i64 0 w 0 w.heap.size a.B a.m s.2.2
  kb : a.m ≤ a.d
  gd : Sl blv false w 0 w.heap.size a.D g.nd.length g.nd
  kd : g.nd.length ≤ a.kd
  gi : g.dn ≤ 9223372036854775807 ∧ g.ak ≤ 9223372036854775807
  qs : Sm 2 encQ zQe w 0 w.heap.size a.Q a.nq es
  kq : a.nq ≤ a.kq
  qe : ∀ x ∈ es, Sm 2 encC (0, 0) w 0 w.heap.size x.A x.n x.l ∧ x.n ≤ x.c ∧ 0 ≤ x.o ∧ x.o ≤ 18446744073709551615
theorem RcIn.step {w w' : World} {s : St} {g : Gr} {es : List Qe} {a : Ra} (h : RcIn w s g es a) (hb : Below w.heap.size w w') : RcIn w' s g es a :=
  ⟨h.ra.step hb, h.ka, h.rb.step hb, h.kb, h.gd.step hb, h.kd, h.gi, h.qs.step hb, h.kq, fun x hx => ⟨(h.qe x hx).1.step hb, (h.qe x hx).2⟩⟩
def cutS (s : St) : St := (s.1, s.2.1.take 9, s.2.2.take 9)
def cutG (g : Gr) : Gr := ⟨g.nd.take 9, g.dn, g.ak, g.on⟩
def cutQ (es : List Qe) : Qs := (es.take 9).map fun x => (x.l.take 18, x.o)
def LoPost (s : St) (g : Gr) (es : List Qe) (w : World) (e : Ending) (w' : World) : Prop :=
  ∃ a' es', e = .returned (rcv (cutS s) (cutG g) a') ∧ ql es' = cutQ es ∧ RcT w' w.heap.size (cutS s) (cutG g) es' a' ∧ Below w.heap.size w w'
theorem Sl.cut {α : Type} {enc : α → Value} {d : α} {w : World} {lo hi n k : Nat} {A : Option Addr} {xs : List α} (h : Sl enc d w lo hi A n xs) : Sl enc d w lo hi A (min n k) (xs.take k) := by
  by_cases hk : n ≤ k
  · rw [show min n k = n by omega, List.take_of_length_le (by rw [h.len]; exact hk)]; exact h
  · rw [show min n k = k by omega]; exact h.take (by omega)
theorem Sm.cut {α : Type} {sz : Nat} {enc : α → Nat → Value} {d : α} {w : World} {lo hi n k : Nat} {A : Option Addr} {xs : List α} (h : Sm sz enc d w lo hi A n xs) : Sm sz enc d w lo hi A (min n k) (xs.take k) := by
  by_cases hk : n ≤ k
  · rw [show min n k = n by omega, List.take_of_length_le (by rw [h.len]; exact hk)]; exact h
  · rw [show min n k = k by omega]; exact h.take (by omega)
/-- behind own's first step -/
def OwnI (W0 W : World) (g3 : Nat) (s : St) (A : Option Addr) (n k : Nat) (B : Option Addr) (m d : Nat) : Prop :=
  W0.heap.size ≤ g3 ∧ Blk W g3 30 #[.int .i64 s.1, .slice A n k, .slice B m d, .int .i64 0, .int .i64 0, .bool false, .slice none 0 0, .slice none 0 0] ∧ Rown W W0.heap.size A n k B m d s.2.1 s.2.2 ∧ Below W0.heap.size W0 W
theorem op_any (k c x : Int) (w : World) : Calls Try.prog 10 #[.int .i64 k, .int .i64 c, .int .u64 x] w fun e w' => e = .returned (.agg (ocs (k, c, x))) ∧ Below w.heap.size w w' := by
  have HB := hid (Below.refl w.heap.size w)
  have bx := below_box w (.cells #[.int .i64 0, .int .i64 0, .int .u64 0] 44)
  replace HB := hid (below_then HB.out bx)
  clear bx
  have PO := hid (Blk.new w 44 #[.int .i64 0, .int .i64 0, .int .u64 0])
  go_enter Try.func10, Try.ntmps10
  obtain ⟨y00, y01, y02, yf0⟩ := PO.out.cells3
  go_wp2
  clear y00 y01 y02 yf0 HB PO
  obtain ⟨y00, y01, y02, yf0⟩ := (Blk.new w 44 #[.int .i64 k, .int .i64 c, .int .u64 x]).cells3
  exact bodyPost_ret (v := .agg (ocs (k, c, x))) (by simp [results, Try.results10, go_sem, y00, y01, y02]) rfl ⟨rfl, below_box w _⟩
end Go.Proofs.Ytfipdoofgbjbjaa
