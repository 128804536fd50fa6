/- Chapter 06, SeqWhole: rows of values; the closure that compares; what the words hold behind so many writes. No condition but sizes. -/
import Derived.Test.YtnkaajkdjbdpaaaSq15
import Derived.Test.YtnkaajkdjbdpaaaSqPl
import Derived.Test.YtnkaajkdjbdpaaaOpenTr
import Derived.Test.YtnkaajkdjbdpaaaKitA
namespace Go.Proofs.Ytnkaajkdjbdpaaa
open Go.RowKit
/-- values, and where they lie -/
abbrev VlE := List Int × Option Addr × Nat × Nat
def zVl : VlE := ([], none, 0, 0)
def encV (x : VlE) : Value := .slice x.2.1 x.2.2.1 x.2.2.2
def OwAll (W : World) (lo : Nat) (es : List VlE) : Prop := ∀ x ∈ es, Ow u64v W lo 27 x.2.1 x.2.2.1 x.2.2.2 x.1
section
variable {W W' : World} {lo : Nat} {es : List VlE}
theorem OwAll.step (h : OwAll W lo es) (hb : Below W.heap.size W W') : OwAll W' lo es := fun x hx => (h x hx).step hb
theorem OwAll.snoc {x : VlE} (h : OwAll W lo es) (hx : Ow u64v W lo 27 x.2.1 x.2.2.1 x.2.2.2 x.1) : OwAll W lo (es ++ [x]) := fun y hy => by
  rcases List.mem_append.1 hy with h1 | h1
  · exact h y h1
  · rw [List.mem_singleton] at h1; subst h1; exact hx
theorem OwAll.keptM {α : Type} {sz : Nat} {enc : α → Nat → Value} {lo2 : Nat} {e : TypeId} {A : Option Addr} {n c : Nat} {xs : List α} (h : OwAll W lo es) (ho : Om sz enc W lo2 e A n c xs) (hne : 27 ≠ e) (hg : W.grownBy W' (Value.slice A n c).ownBlock) : OwAll W' lo es :=
  fun x hx => (h x hx).keptM ho hne hg
theorem OwAll.kept {g : Nat} {t : TypeId} {cs : Array Value} (h : OwAll W lo es) (hb : Blk W g t cs) (h1 : t ≠ 27) (hg : W.grownBy W' (some g)) : OwAll W' lo es :=
  fun x hx => (h x hx).keptG hg fun v hv e => (h x hx).ne_blk hb h1 v hv (by simpa using e)
theorem OwAll.at_ (h : OwAll W lo es) {k : Nat} (hk : k < es.length) : Ow u64v W lo 27 (es[k]?.getD zVl).2.1 (es[k]?.getD zVl).2.2.1 (es[k]?.getD zVl).2.2.2 (es[k]?.getD zVl).1 := by
  rw [List.getElem?_eq_getElem hk]; exact h _ (List.getElem_mem hk)
end
def trL (x : Trp) : List Int := [x.1, x.2.1, x.2.2]
/-- what the words hold behind so many writes -/
def sqV (N : Nat) (rs : List Trp) : Nat → List Int
  | 0 => List.replicate N 0
  | i + 1 => (trL (rs[i]?.getD (0, 0, 0))).take N
/-- the first that holds these values, or -1 -/
def fVl (us : List Int) : List VlE → Int
  | [] => -1
  | x :: l => if x.1 = us then 0 else if fVl us l < 0 then -1 else fVl us l + 1
end Go.Proofs.Ytnkaajkdjbdpaaa
