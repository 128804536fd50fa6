/- What SeqPlays is told of its case. No condition. -/
import Derived.Test.YtnkaajkdjbdpaaaOpenSq
import Derived.Test.YtnkaajkdjbdpaaaSqU
namespace Go.Proofs.Ytnkaajkdjbdpaaa
open Go.ChangeShapes Go.WideShapes Go.ChangeAt Go.RowKit Go.Joins Go.Deep
section
variable {H : Type} {enc : TypeId × Value → H} {w : World} {base : Nat} {spare : Nat → Bool} {held : Bool}
set_option maxRecDepth 100000 in
theorem open_memory_el {n : Nat} {cs : List Value} {y : DataW H × List MemPlace} (h : DataW.trod enc Try.prog w base spare held n 44 cs = some y) :
    ∃ A n c B m d f xs ys, cs = [.slice A n c, .slice B m d, .bool f] ∧ n ≤ c ∧ m ≤ d ∧ Sl u64v 0 w 0 w.heap.size A n xs ∧ Sl blv false w 0 w.heap.size B m ys := by
  obtain ⟨xs, k, _, _, hlen, hl, hf⟩ := DataW.trod_struct Try.underlying44 h
  rw [show Try.prog.cellsOf 44 = 3 by kernel_rfl] at hlen
  match xs, hl, cs, hlen with
  | [y0, y1, y2], _, [v0, v1, v2], _ =>
    have c1 : Try.prog.cellsOf 24 = 1 := by kernel_rfl
    have c2 : Try.prog.cellsOf 42 = 1 := by kernel_rfl
    have c3 : Try.prog.cellsOf 4 = 1 := by kernel_rfl
    have g0 := hf 0 _ rfl
    have g1 := hf 1 _ rfl
    have g2 := hf 2 _ rfl
    simp [c1, c2, c3] at g0 g1 g2
    obtain ⟨A, n, c, xs, rfl, h3, h4, h5, _⟩ := open_u64s g0
    obtain ⟨B, m, d, ys, rfl, h6, h7, h8⟩ := open_bools g1
    obtain ⟨b, e1, _⟩ := DataW.trod_bool Try.underlying4 g2
    simp only [List.cons.injEq, and_true] at e1
    subst e1
    exact ⟨A, n, c, B, m, d, b, xs, ys, rfl, h3, h6, h5, h8⟩
set_option maxRecDepth 100000 in
theorem open_rd_el {n : Nat} {cs : List Value} {y : DataW H × List MemPlace} (h : DataW.trod enc Try.prog w base spare held n 29 cs = some y) :
    ∃ (s : Srd) (V : Option Addr) (n c : Nat), cs = [.int .i64 s.a, .int .i64 s.f, .int .i64 s.m, .int .i64 s.ph, .int .u64 s.bg, .slice V n c, .int .i64 s.tr] ∧ n ≤ c ∧ Sl u64v 0 w 0 w.heap.size V n s.vs ∧ RdIn s := by
  obtain ⟨xs, k, _, _, hlen, hl, hf⟩ := DataW.trod_struct Try.underlying29 h
  rw [show Try.prog.cellsOf 29 = 7 by kernel_rfl] at hlen
  match xs, hl, cs, hlen with
  | [y0, y1, y2, y3, y4, y5, y6], _, [v0, v1, v2, v3, v4, v5, v6], _ =>
    have c1 : Try.prog.cellsOf 3 = 1 := by kernel_rfl
    have c2 : Try.prog.cellsOf 27 = 1 := by kernel_rfl
    have c3 : Try.prog.cellsOf 24 = 1 := by kernel_rfl
    have h0 := hf 0 _ rfl
    have h1 := hf 1 _ rfl
    have h2 := hf 2 _ rfl
    have h3 := hf 3 _ rfl
    have h4 := hf 4 _ rfl
    have h5 := hf 5 _ rfl
    have h6 := hf 6 _ rfl
    simp [c1, c2, c3] at h0 h1 h2 h3 h4 h5 h6
    obtain ⟨a0, e0, _⟩ := DataW.trod_int Try.underlying3 h0
    obtain ⟨a1, e1, _⟩ := DataW.trod_int Try.underlying3 h1
    obtain ⟨a2, e2, _⟩ := DataW.trod_int Try.underlying3 h2
    obtain ⟨a3, e3, _⟩ := DataW.trod_int Try.underlying3 h3
    obtain ⟨a4, e4, _, g4⟩ := DataW.trod_int Try.underlying27 h4
    obtain ⟨V, n, c, vs, rfl, h7, h8, h9, h10⟩ := open_u64s h5
    obtain ⟨a6, e6, _⟩ := DataW.trod_int Try.underlying3 h6
    simp only [List.cons.injEq, and_true] at e0 e1 e2 e3 e4 e6
    subst e0 e1 e2 e3 e4 e6
    exact ⟨⟨a0, a1, a2, a3, a4, vs, a6⟩, V, n, c, rfl, h7, h9, u64_wf g4⟩
/-- a write of a row that came in -/
def WrEl (w : World) (x : WrE) : Prop := Sl u64v 0 w 0 w.heap.size x.2.1 x.2.2.1 x.1.vs ∧ x.2.2.1 ≤ x.2.2.2 ∧ 0 ≤ x.1.bg
set_option maxRecDepth 100000 in
theorem open_wr_el {n : Nat} {cs : List Value} {y : DataW H × List MemPlace} (h : DataW.trod enc Try.prog w base spare held n 34 cs = some y) :
    ∃ x : WrE, WrEl w x ∧ ∀ j, j < 6 → cs[j]? = some (encW x j) := by
  obtain ⟨xs, k, _, _, hlen, hl, hf⟩ := DataW.trod_struct Try.underlying34 h
  rw [show Try.prog.cellsOf 34 = 6 by kernel_rfl] at hlen
  match xs, hl, cs, hlen with
  | [y0, y1, y2, y3, y4, y5], _, [v0, v1, v2, v3, v4, v5], _ =>
    have c1 : Try.prog.cellsOf 3 = 1 := by kernel_rfl
    have c2 : Try.prog.cellsOf 27 = 1 := by kernel_rfl
    have c3 : Try.prog.cellsOf 24 = 1 := by kernel_rfl
    have h0 := hf 0 _ rfl
    have h1 := hf 1 _ rfl
    have h2 := hf 2 _ rfl
    have h3 := hf 3 _ rfl
    have h4 := hf 4 _ rfl
    have h5 := hf 5 _ rfl
    simp [c1, c2, c3] at h0 h1 h2 h3 h4 h5
    obtain ⟨a0, e0, _⟩ := DataW.trod_int Try.underlying3 h0
    obtain ⟨a1, e1, _⟩ := DataW.trod_int Try.underlying3 h1
    obtain ⟨V, n, c, vs, rfl, h7, h8, h9, h10⟩ := open_u64s h2
    obtain ⟨a3, e3, _⟩ := DataW.trod_int Try.underlying3 h3
    obtain ⟨a4, e4, _, g4⟩ := DataW.trod_int Try.underlying27 h4
    obtain ⟨a5, e5, _⟩ := DataW.trod_int Try.underlying3 h5
    simp only [List.cons.injEq, and_true] at e0 e1 e3 e4 e5
    subst e0 e1 e3 e4 e5
    refine ⟨(⟨a0, a1, vs, a3, a4, a5⟩, V, n, c), ⟨h9, h7, (u64_wf g4).1⟩, fun j hj => ?_⟩
    match j, hj with | 0, _ => rfl | 1, _ => rfl | 2, _ => rfl | 3, _ => rfl | 4, _ => rfl | 5, _ => rfl
theorem open_wrs {fuel : Nat} {v : Value} {x : DataW H × List MemPlace} (h : DataW.trod enc Try.prog w base spare held fuel 45 [v] = some x) :
    ∃ A n c xs, v = .slice A n c ∧ n ≤ c ∧ c ≤ maxLen ∧ Sm 6 encW zWe w 0 w.heap.size A n xs ∧ ∀ y ∈ xs, WrEl w y :=
  open_sm Try.underlying45 (sz := 6) (by kernel_rfl) (by omega) encW zWe (WrEl w) (fun n cs y hy => open_wr_el hy) h
@[reducible] def casec (A : Option Addr) (n c : Nat) (B : Option Addr) (m d : Nat) (f : Bool) (s : Srd) (V : Option Addr) (vn vc : Nat) (L : Option Addr) (nl cl : Nat) : Array Value := #[.slice A n c, .slice B m d, .bool f, .int .i64 s.a, .int .i64 s.f, .int .i64 s.m, .int .i64 s.ph, .int .u64 s.bg, .slice V vn vc, .int .i64 s.tr, .slice L nl cl]
theorem array11_ {α : Type} {cs : Array α} (h : cs.size = 11) : ∃ c0 c1 c2 c3 c4 c5 c6 c7 c8 c9 c10, cs = #[c0, c1, c2, c3, c4, c5, c6, c7, c8, c9, c10] := by
  obtain ⟨l⟩ := cs
  match l, h with
  | [c0, c1, c2, c3, c4, c5, c6, c7, c8, c9, c10], _ => exact ⟨c0, c1, c2, c3, c4, c5, c6, c7, c8, c9, c10, rfl⟩
set_option maxRecDepth 100000 in
theorem open_case {r : Reach} {b0 : Nat} {v : Value} {d : DataW H} {p : List MemPlace}
    (hv : Value.okWide Try.prog w r b0 47 v) (h : DataW.Trod enc Try.prog w base spare held 47 v d p) :
    ∃ (A : Option Addr) (n c : Nat) (B : Option Addr) (m d' : Nat) (f : Bool) (xs : List Int) (ys : List Bool) (s : Srd) (V : Option Addr) (vn vc : Nat) (L : Option Addr) (nl cl : Nat) (es : List WrE), v = .agg (casec A n c B m d' f s V vn vc L nl cl) ∧ n ≤ c ∧ m ≤ d' ∧ Sl u64v 0 w 0 w.heap.size A n xs ∧ Sl blv false w 0 w.heap.size B m ys ∧ vn ≤ vc ∧ Sl u64v 0 w 0 w.heap.size V vn s.vs ∧ RdIn s ∧ nl ≤ cl ∧ Sm 6 encW zWe w 0 w.heap.size L nl es ∧ ∀ y ∈ es, WrEl w y := by
  obtain ⟨cs, rfl, hsz⟩ := okWide_struct Try.underlying47 hv
  obtain ⟨c0, c1, c2, c3, c4, c5, c6, c7, c8, c9, c10, rfl⟩ := array11_ (hsz.trans (by kernel_rfl))
  obtain ⟨fuel, hf⟩ := h
  obtain ⟨zs, n, _, _, _, hlen, hff⟩ := DataW.trod_struct Try.underlying47 hf
  match zs, hlen with
  | [y0, y1, y2], _ =>
    have k1 : Try.prog.cellsOf 44 = 3 := by kernel_rfl
    have k2 : Try.prog.cellsOf 29 = 7 := by kernel_rfl
    have k3 : Try.prog.cellsOf 45 = 1 := by kernel_rfl
    have h0 := hff 0 _ rfl
    have h1 := hff 1 _ rfl
    have h2 := hff 2 _ rfl
    simp [k1, k2, k3, Value.cells] at h0 h1 h2
    obtain ⟨A, n, c, B, m, d, f, xs, ys, e1, g1, g2, g3, g4⟩ := open_memory_el h0
    obtain ⟨s, V, vn, vc, e2, g5, g6, g7⟩ := open_rd_el h1
    obtain ⟨L, nl, cl, es, rfl, g8, _, g9, g10⟩ := open_wrs h2
    simp only [List.cons.injEq, and_true] at e1 e2
    obtain ⟨rfl, rfl, rfl⟩ := e1
    obtain ⟨rfl, rfl, rfl, rfl, rfl, rfl, rfl⟩ := e2
    exact ⟨A, n, c, B, m, d, f, xs, ys, s, V, vn, vc, L, nl, cl, es, rfl, g1, g2, g3, g4, g5, g6, g7, g8, g9, g10⟩
end
end Go.Proofs.Ytnkaajkdjbdpaaa
