/- What a law is told of all of chapter 14, and of a row of what CPUs do, that came in. No condition. -/
import Derived.Test.YtfipdoofgbjbjaaKitA
import Derived.Test.YtfipdoofgbjbjaaRc17
import Derived.Laws.IdiomArrays
namespace Go.Proofs.Ytfipdoofgbjbjaa
open Go.ChangeShapes Go.WideShapes Go.ChangeAt Go.RowKit Go.Joins Go.Deep
theorem i64_wf {a : Int} (hw : Lit.wf (.int .i64 a) = true) : -9223372036854775808 ≤ a ∧ a ≤ 9223372036854775807 := by
  simp only [Lit.wf, IntKind.min, IntKind.max, IntKind.signed, IntKind.bits, Bool.and_eq_true, decide_eq_true_eq, if_true] at hw
  omega
theorem u64_wf {a : Int} (hw : Lit.wf (.int .u64 a) = true) : 0 ≤ a ∧ a ≤ 18446744073709551615 := by
  simp only [Lit.wf, IntKind.min, IntKind.max, IntKind.signed, IntKind.bits, Bool.and_eq_true, decide_eq_true_eq] at hw
  simp at hw
  omega
theorem Sm.toSl {α : Type} {enc : α → Value} {d : α} {w : World} {lo hi : Nat} {A : Option Addr} {n : Nat} {xs : List α} (h : Sm 1 (fun x _ => enc x) d w lo hi A n xs) : Sl enc d w lo hi A n xs :=
  ⟨h.len, fun hn => by
    obtain ⟨b, off, e, h1, h2, h3⟩ := h.row hn
    exact ⟨b, off, e, h1, h2, fun k hk => by have := h3 k hk 0 (by omega); simpa using this⟩⟩
section
variable {H : Type} {enc : TypeId × Value → H} {w : World} {base : Nat} {spare : Nat → Bool} {held : Bool}
theorem open_bools {fuel : Nat} {v : Value} {x : DataW H × List MemPlace} (h : DataW.trod enc Try.prog w base spare held fuel 25 [v] = some x) :
    ∃ A n c xs, v = .slice A n c ∧ n ≤ c ∧ c ≤ maxLen ∧ Sl blv false w 0 w.heap.size A n xs := by
  obtain ⟨A, n, c, xs, h1, h2, h3, h4, _⟩ := open_sm Try.underlying25 (sz := 1) (by kernel_rfl) (by omega) (fun (x : Bool) _ => blv x) false (fun _ => True) (fun n cs y hy => by
    obtain ⟨a, e0, _⟩ := DataW.trod_bool Try.underlying4 hy
    subst e0
    exact ⟨a, trivial, fun j hj => by obtain rfl : j = 0 := by omega
                                      rfl⟩) h
  exact ⟨A, n, c, xs, h1, h2, h3, h4.toSl⟩
set_option maxRecDepth 100000 in
theorem open_readers_el {n : Nat} {cs : List Value} {y : DataW H × List MemPlace} (h : DataW.trod enc Try.prog w base spare held n 24 cs = some y) :
    ∃ (now : Int) (A : Option Addr) (n c : Nat) (B : Option Addr) (m d : Nat) (xs ys : List Int), cs = [.int .i64 now, .slice A n c, .slice B m d] ∧ n ≤ c ∧ m ≤ d ∧ Sl i64 0 w 0 w.heap.size A n xs ∧ Sl i64 0 w 0 w.heap.size B m ys := by
  obtain ⟨xs, k, _, _, hlen, hl, hf⟩ := DataW.trod_struct Try.underlying24 h
  rw [show Try.prog.cellsOf 24 = 3 by kernel_rfl] at hlen
  match xs, hl, cs, hlen with
  | [y0, y1, y2], _, [v0, v1, v2], _ =>
    have c1 : Try.prog.cellsOf 3 = 1 := by kernel_rfl
    have c2 : Try.prog.cellsOf 22 = 1 := by kernel_rfl
    have h0 := hf 0 _ rfl
    have h1 := hf 1 _ rfl
    have h2 := hf 2 _ rfl
    simp [c1, c2] at h0 h1 h2
    obtain ⟨a0, e0, _⟩ := DataW.trod_int Try.underlying3 h0
    simp only [List.cons.injEq, and_true] at e0
    subst e0
    obtain ⟨A, n, c, xs, rfl, g3, g4, g5, _⟩ := open_islice h1
    obtain ⟨B, m, d, ys, rfl, g6, g7, g8, _⟩ := open_islice h2
    exact ⟨a0, A, n, c, B, m, d, xs, ys, rfl, g3, g6, g5, g8⟩
set_option maxRecDepth 100000 in
theorem open_grace_el {n : Nat} {cs : List Value} {y : DataW H × List MemPlace} (h : DataW.trod enc Try.prog w base spare held n 27 cs = some y) :
    ∃ (g : Gr) (D : Option Addr) (kd : Nat), cs = [.int .i64 g.dn, .int .i64 g.ak, .bool g.on, .slice D g.nd.length kd] ∧ g.nd.length ≤ kd ∧ Sl blv false w 0 w.heap.size D g.nd.length g.nd ∧ g.dn ≤ 9223372036854775807 ∧ g.ak ≤ 9223372036854775807 := by
  obtain ⟨xs, k, _, _, hlen, hl, hf⟩ := DataW.trod_struct Try.underlying27 h
  rw [show Try.prog.cellsOf 27 = 4 by kernel_rfl] at hlen
  match xs, hl, cs, hlen with
  | [y0, y1, y2, y3], _, [v0, v1, v2, v3], _ =>
    have c1 : Try.prog.cellsOf 3 = 1 := by kernel_rfl
    have c2 : Try.prog.cellsOf 4 = 1 := by kernel_rfl
    have c3 : Try.prog.cellsOf 25 = 1 := by kernel_rfl
    have h0 := hf 0 _ rfl
    have h1 := hf 1 _ rfl
    have h2 := hf 2 _ rfl
    have h3 := hf 3 _ rfl
    simp [c1, c2, c3] at h0 h1 h2 h3
    obtain ⟨a0, e0, _, k0⟩ := DataW.trod_int Try.underlying3 h0
    obtain ⟨a1, e1, _, k1⟩ := DataW.trod_int Try.underlying3 h1
    obtain ⟨b, e2, _⟩ := DataW.trod_bool Try.underlying4 h2
    simp only [List.cons.injEq, and_true] at e0 e1 e2
    subst e0 e1 e2
    obtain ⟨A, n, c, ys, rfl, g3, g4, g5⟩ := open_bools h3
    obtain rfl : ys.length = n := g5.len
    exact ⟨⟨ys, a0, a1, b⟩, A, c, rfl, g3, g5, (i64_wf k0).2, (i64_wf k1).2⟩
set_option maxRecDepth 100000 in
theorem open_cb_el {n : Nat} {cs : List Value} {y : DataW H × List MemPlace} (h : DataW.trod enc Try.prog w base spare held n 65 cs = some y) : ∃ x : Cb, True ∧ ∀ j, j < 2 → cs[j]? = some (encC x j) := by
  obtain ⟨xs, k, _, _, hlen, hl, hf⟩ := DataW.trod_struct Try.underlying65 h
  rw [show Try.prog.cellsOf 65 = 2 by kernel_rfl] at hlen
  match xs, hl, cs, hlen with
  | [y0, y1], _, [v0, v1], _ =>
    have c2 : Try.prog.cellsOf 38 = 1 := by kernel_rfl
    have g0 := hf 0 _ rfl
    have g1 := hf 1 _ rfl
    simp [c2] at g0 g1
    obtain ⟨a0, e0, _⟩ := DataW.trod_int Try.underlying38 g0
    obtain ⟨a1, e1, _⟩ := DataW.trod_int Try.underlying38 g1
    simp only [List.cons.injEq, and_true] at e0 e1
    subst e0 e1
    refine ⟨(a0, a1), trivial, fun j hj => ?_⟩
    match j, hj with
    | 0, _ => rfl
    | 1, _ => rfl
/-- a queue of a row that came in -/
def QeIn (w : World) (x : Qe) : Prop := Sm 2 encC (0, 0) w 0 w.heap.size x.A x.n x.l ∧ x.n ≤ x.c ∧ 0 ≤ x.o ∧ x.o ≤ 18446744073709551615
set_option maxRecDepth 100000 in
theorem open_qe_el {n : Nat} {cs : List Value} {y : DataW H × List MemPlace} (h : DataW.trod enc Try.prog w base spare held n 40 cs = some y) : ∃ x : Qe, QeIn w x ∧ ∀ j, j < 2 → cs[j]? = some (encQ x j) := by
  obtain ⟨xs, k, _, _, hlen, hl, hf⟩ := DataW.trod_struct Try.underlying40 h
  rw [show Try.prog.cellsOf 40 = 2 by kernel_rfl] at hlen
  match xs, hl, cs, hlen with
  | [y0, y1], _, [v0, v1], _ =>
    have c1 : Try.prog.cellsOf 37 = 1 := by kernel_rfl
    have c2 : Try.prog.cellsOf 38 = 1 := by kernel_rfl
    have h0 := hf 0 _ rfl
    have h1 := hf 1 _ rfl
    simp [c1, c2] at h0 h1
    obtain ⟨A, n, c, xs, rfl, h3, h4, h5, _⟩ := open_sm Try.underlying37 (sz := 2) (by kernel_rfl) (by omega) encC (0, 0) _ (fun n cs' y => open_cb_el) h0
    obtain ⟨o, e1, _, k1⟩ := DataW.trod_int Try.underlying38 h1
    simp only [List.cons.injEq, and_true] at e1
    subst e1
    refine ⟨⟨xs, o, A, n, c⟩, ⟨h5, h3, (u64_wf k1).1, (u64_wf k1).2⟩, fun j hj => ?_⟩
    match j, hj with
    | 0, _ => rfl
    | 1, _ => rfl
theorem array8_ {α : Type} {cs : Array α} (h : cs.size = 8) : ∃ c0 c1 c2 c3 c4 c5 c6 c7, cs = #[c0, c1, c2, c3, c4, c5, c6, c7] := by
  obtain ⟨l⟩ := cs
  match l, h with
  | [c0, c1, c2, c3, c4, c5, c6, c7], _ => exact ⟨c0, c1, c2, c3, c4, c5, c6, c7, rfl⟩
set_option maxRecDepth 100000 in
theorem open_rcu {r : Reach} {b0 : Nat} {v : Value} {d : DataW H} {p : List MemPlace}
    (hv : Value.okWide Try.prog w r b0 30 v) (h : DataW.Trod enc Try.prog w base spare held 30 v d p) :
    ∃ (s : St) (g : Gr) (es : List Qe) (a : Ra), v = rcv s g a ∧ RcIn w s g es a := by
  obtain ⟨cs, rfl, hsz⟩ := okWide_struct Try.underlying30 hv
  obtain ⟨c0, c1, c2, c3, c4, c5, c6, c7, rfl⟩ := array8_ (hsz.trans (by kernel_rfl))
  obtain ⟨fuel, hf⟩ := h
  obtain ⟨zs, n, _, _, _, hlen, hff⟩ := DataW.trod_struct Try.underlying30 hf
  match zs, hlen with
  | [y0, y1, y2], _ =>
    have k1 : Try.prog.cellsOf 24 = 3 := by kernel_rfl
    have k2 : Try.prog.cellsOf 27 = 4 := by kernel_rfl
    have k3 : Try.prog.cellsOf 28 = 1 := by kernel_rfl
    have h0 := hff 0 _ rfl
    have h1 := hff 1 _ rfl
    have h2 := hff 2 _ rfl
    simp [k1, k2, k3, Value.cells] at h0 h1 h2
    obtain ⟨now, A, n, c, B, m, d, xs, ys, e1, g1, g2, g3, g4⟩ := open_readers_el h0
    obtain ⟨g, D, kd, e2, g5, g6, g7⟩ := open_grace_el h1
    obtain ⟨Q, nq, kq, es, rfl, g8, _, g9, g10⟩ := open_sm Try.underlying28 (sz := 2) (by kernel_rfl) (by omega) encQ zQe (QeIn w) (fun n cs' y => open_qe_el) h2
    simp only [List.cons.injEq, and_true] at e1 e2
    obtain ⟨rfl, rfl, rfl⟩ := e1
    obtain ⟨rfl, rfl, rfl, rfl⟩ := e2
    exact ⟨(now, xs, ys), g, es, ⟨A, n, c, B, m, d, D, kd, Q, nq, kq⟩, rfl, ⟨g3, g1, g4, g2, g6, g5, g7, g9, g8, g10⟩⟩
def OpOk (x : Int × Int × Int) : Prop := (-9223372036854775808 ≤ x.1 ∧ x.1 ≤ 9223372036854775807) ∧ (-9223372036854775808 ≤ x.2.1 ∧ x.2.1 ≤ 9223372036854775807) ∧ (0 ≤ x.2.2 ∧ x.2.2 ≤ 18446744073709551615)
end
end Go.Proofs.Ytfipdoofgbjbjaa
