/- package memory: Run. No condition but sizes. -/
import Derived.Test.YtnkaajkdjbdpaaaMe9
import Derived.Test.YtnkaajkdjbdpaaaKitA
namespace Go.Proofs.Ytnkaajkdjbdpaaa
open Go.RowKit
def encA (a : Acc) : Nat → Value
  | 0 => .int .i64 a.1
  | 1 => .int .i64 a.2.1
  | 2 => .int .u64 a.2.2.1
  | _ => .int .u64 a.2.2.2
def encG (g : Int × Bool) : Nat → Value
  | 0 => .int .u64 g.1
  | _ => .bool g.2
/-- accesses, one behind the other -/
def runG (s : MSt) (gs : List (Int × Bool)) : List Acc → Int × MSt × List (Int × Bool)
  | [] => (0, s, gs)
  | a :: l => if (accF s a).1 = 0 then runG (accF s a).2.1 (gs ++ [(accF s a).2.2]) l else ((accF s a).1, ([], [], false), [])
def runMF (s : MSt) (l : List Acc) : Int × MSt × List (Int × Bool) := if MGood s.1 s.2.1 then runG s [] l else (120, ([], [], false), [])
def MRPost (W : World) (r : Int × MSt × List (Int × Bool)) (e : Ending) (W' : World) : Prop :=
  ∃ A n c B m d G ng cg, e = .returned (.tuple #[mv A n c B m d r.2.1.2.2, .slice G ng cg, .int .i64 r.1]) ∧ Mown W' W.heap.size A n c B m d r.2.1.1 r.2.1.2.1 ∧ Om 2 encG W' W.heap.size 112 G ng cg r.2.2 ∧ Below W.heap.size W W'
section
variable {W W' : World} {A : Option Addr} {n c lo lo' : Nat} {B : Option Addr} {m d : Nat} {ws : List Int} {ls : List Bool}
theorem Mown.alloc (h : Mown W lo A n c B m d ws ls) (o : Obj) : Mown (W.alloc o) lo A n c B m d ws ls := ⟨h.oa.alloc o, h.ob.alloc o, h.apart, h.hn, h.hm⟩
theorem Mown.drew (h : Mown W lo A n c B m d ws ls) : Mown W.drew lo A n c B m d ws ls := ⟨h.oa.drewN 1, h.ob.drewN 1, h.apart, h.hn, h.hm⟩
theorem Sm.drew {α : Type} {sz : Nat} {enc : α → Nat → Value} {d : α} {hi : Nat} {xs : List α} (h : Sm sz enc d W lo hi A n xs) : Sm sz enc d W.drew lo hi A n xs := ⟨h.len, h.row⟩
theorem Sm.setCell {α : Type} {sz : Nat} {enc : α → Nat → Value} {d : α} {hi : Nat} {xs : List α} (h : Sm sz enc d W lo hi A n xs) {p : Addr} (hp : p.block < lo ∨ hi ≤ p.block) (u : Value) : Sm sz enc d (W.setCell p u) lo hi A n xs :=
  h.keep fun b i h1 h2 => World.cell?_setCell_other W p ⟨b, i, none⟩ u (fun e => by subst e; simp at hp; omega)
theorem Sm.one' {α : Type} {sz : Nat} {enc : α → Nat → Value} {d : α} {e : TypeId} {cs : Array Value} {g : Nat} (x : α) (hg : g = W.heap.size) (hc : ∀ j, j < sz → cs[j]? = some (enc x j)) : Sm sz enc d (W.alloc (.cells cs e)) g (g + 1) (some ⟨g, 0, none⟩) 1 [x] := by
  have h := Sm.one (sz := sz) (enc := enc) (d := d) (e := e) (w := W) x hg hc
  refine ⟨h.len, fun hn => ?_⟩
  obtain ⟨b, off, e1, h1, h2, h3⟩ := h.row hn
  obtain ⟨rfl, rfl⟩ : g = b ∧ 0 = off := by simpa using e1
  exact ⟨g, 0, rfl, Nat.le_refl _, by omega, h3⟩
theorem Om.lt {α : Type} {sz : Nat} {enc : α → Nat → Value} {e : TypeId} {xs : List α} (h : Om sz enc W lo e A n c xs) : ∀ k, (Value.slice A n c).ownBlock = some k → k < W.heap.size := fun k hk => (h.own.lt k hk).2
end
/-- in the loop of Run -/
structure RunRel (w wr : World) (A : Option Addr) (n c : Nat) (B : Option Addr) (m d : Nat) (s : MSt) (G : Option Addr) (ng cg : Nat) (gs : List (Int × Bool)) : Prop where
  om : Mown wr (w.heap.size + 2) A n c B m d s.1 s.2.1
  pm : Blk wr w.heap.size 44 (mcs A n c B m d s.2.2)
  pz : Blk wr (w.heap.size + 1) 44 (mcs none 0 0 none 0 0 false)
  og : Om 2 encG wr (w.heap.size + 2) 112 G ng cg gs
  be : Below w.heap.size w wr

end Go.Proofs.Ytnkaajkdjbdpaaa
