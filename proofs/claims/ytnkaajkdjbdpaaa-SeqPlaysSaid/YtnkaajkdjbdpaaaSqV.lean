/- What the walk of SeqPlays keeps. No condition. -/
import Derived.Test.YtnkaajkdjbdpaaaSqU
import Derived.Test.YtnkaajkdjbdpaaaSqW
import Derived.Test.YtnkaajkdjbdpaaaOpenCa
import Derived.Test.YtnkaajkdjbdpaaaKitA
namespace Go.Proofs.Ytnkaajkdjbdpaaa
open Go.RowKit
/-- a memory, and a read, of the statement's own, boxed -/
structure QPm (w W : World) (g7 g8 : Nat) (m : MSt) (s : Srd) : Prop where
  out : ∃ A n c B k d V vn vc, Blk W g7 44 (mcs A n c B k d m.2.2) ∧ Mown W w.heap.size A n c B k d m.1 m.2.1 ∧ Blk W g8 29 (rdc s.a s.f s.m s.ph s.bg V vn vc s.tr) ∧ Ow u64v W w.heap.size 27 V vn vc s.vs ∧ vn ≤ 18 ∧ n ≤ 48 ∧ k ≤ 48
  be : Below w.heap.size w W
  l7 : w.heap.size ≤ g7
  l8 : w.heap.size ≤ g8
/-- behind j writes -/
structure QPl (w w1 W : World) (g7 g8 : Nat) (m : MSt) (s : Srd) (cs : Array Value) (L : Option Addr) (cl : Nat) (es : List WrE) (j : Nat) (ok : Bool) : Prop where
  out : ∃ A n c B k d V vn vc el, Blk W g7 44 (mcs A n c B k d m.2.2) ∧ Mown W w1.heap.size A n c B k d m.1 m.2.1 ∧ Blk W g8 29 (rdc s.a s.f s.m s.ph s.bg V vn vc s.tr) ∧ Ow u64v W w1.heap.size 27 V vn vc s.vs ∧ vn ≤ 18 ∧ n ≤ 48 ∧ k ≤ 48 ∧
    Om 6 encW W w1.heap.size 34 L j cl el ∧ OwAll W w1.heap.size (el.map fun x => (x.1.vs, x.2)) ∧ (∀ x ∈ el, x.2.2.1 ≤ 18) ∧ el.map Prod.fst = (es.take j).map (fun x => cutW x.1)
  pc : Blk W w.heap.size 47 cs
  ok : ok = true ↔ (RdOkS s ∧ ∀ x ∈ es.take j, WrOkS (cutW x.1))
  be : Below w.heap.size w W
section
variable {W W' : World} {lo lo2 : Nat} {A : Option Addr} {n c : Nat} {B : Option Addr} {m d : Nat} {ws : List Int} {ls : List Bool} {e : TypeId} {L : Option Addr} {k cl : Nat}
theorem mown_keptM {α : Type} {sz : Nat} {enc : α → Nat → Value} {xs : List α} (h : Mown W lo A n c B m d ws ls) (ho : Om sz enc W lo2 e L k cl xs) (h1 : 27 ≠ e) (h2 : 4 ≠ e) (hg : W.grownBy W' (Value.slice L k cl).ownBlock) : Mown W' lo A n c B m d ws ls :=
  ⟨h.oa.keptM ho h1 hg, h.ob.keptM ho h2 hg, h.apart, h.hn, h.hm⟩
end
/-- one element in a block -/
theorem Blk.sm1 {α : Type} {sz : Nat} {enc : α → Nat → Value} {d : α} {w : World} {g : Nat} {e : TypeId} {cs : Array Value} (h : Blk w g e cs) (x : α) (hc : ∀ j, j < sz → cs[j]? = some (enc x j)) : Sm sz enc d w 0 w.heap.size (some ⟨g, 0, none⟩) 1 [x] := by
  refine ⟨rfl, fun _ => ⟨g, 0, rfl, Nat.zero_le _, h.lt, fun k hk j hj => ?_⟩⟩
  obtain rfl : k = 0 := by omega
  rw [show 0 + 0 * sz + j = j by omega, h.cell, hc j hj]
  rfl
theorem cell_old {w W : World} {b o i : Nat} {x : WrE} (hb : Below w.heap.size w W) (hbh : b < w.heap.size) (hc : ∀ i, i < 6 → w.cell? ⟨b, o + i, none⟩ = some (encW x i)) (hi : i < 6) : W.cell? ⟨b, o + i, none⟩ = some (encW x i) :=
  (hb.cell (p := ⟨b, o + i, none⟩) hbh).trans (hc i hi)
theorem cell_old0 {w W : World} {b o : Nat} {x : WrE} (hb : Below w.heap.size w W) (hbh : b < w.heap.size) (hc : ∀ i, i < 6 → w.cell? ⟨b, o + i, none⟩ = some (encW x i)) : W.cell? ⟨b, o, none⟩ = some (encW x 0) :=
  cell_old hb hbh hc (i := 0) (by omega)
/-- behind the reference's play -/
structure QPw (w W : World) (g7 g8 : Nat) (m : MSt) (s : Srd) : Prop where
  out : ∃ A n c B d V vn vc, Blk W g7 44 (mcs A n c B n d m.2.2) ∧ Mem W A n c B n d m.1 m.2.1 ∧ Blk W g8 29 (rdc s.a s.f s.m s.ph s.bg V vn vc s.tr) ∧ Sl u64v 0 W 0 W.heap.size V vn s.vs
  be : Below w.heap.size w W
theorem take_succW {v : List WrE} {k : Nat} (h : k < v.length) : v.take (k + 1) = v.take k ++ [v[k]?.getD zWe] := by
  rw [List.take_succ_eq_append_getElem h, List.getElem?_eq_getElem h]; rfl
theorem okb_step {s : Srd} {es : List WrE} {j : Nat} {ok q : Bool} (h : ok = true ↔ (RdOkS s ∧ ∀ x ∈ es.take j, WrOkS (cutW x.1))) (hj : j < es.length) (hq : q = true ↔ WrOkS (cutW (es[j]?.getD zWe).1)) :
    (ok && q) = true ↔ (RdOkS s ∧ ∀ x ∈ es.take (j + 1), WrOkS (cutW x.1)) := by
  rw [Bool.and_eq_true, h, hq, take_succW hj]
  simp only [List.mem_append, List.mem_singleton]
  constructor
  · rintro ⟨⟨h1, h2⟩, h3⟩
    exact ⟨h1, fun x hx => hx.elim (h2 x) (fun e => e ▸ h3)⟩
  · rintro ⟨h1, h2⟩
    exact ⟨⟨h1, fun x hx => h2 x (.inl hx)⟩, h2 _ (.inr rfl)⟩
end Go.Proofs.Ytnkaajkdjbdpaaa
