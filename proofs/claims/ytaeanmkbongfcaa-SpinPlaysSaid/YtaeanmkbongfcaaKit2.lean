/- General words, second part: facts carried over a step that turns nothing old. No condition. -/
import Derived.Test.YtaeanmkbongfcaaKit
namespace Go.Proofs.Ytaeanmkbongfcaa
open Go.RowKit
theorem below_box (w : World) (o : Obj) : Below w.heap.size w (w.alloc o) := (Below.refl _ w).alloc (Nat.le_refl _) o
theorem Blk.step {w w' : World} {g : Nat} {t : TypeId} {cs : Array Value} (h : Blk w g t cs) (hb : Below w.heap.size w w') : Blk w' g t cs := h.below hb h.lt
theorem Sl.step {α : Type} {enc : α → Value} {d : α} {w w' : World} {lo : Nat} {A : Option Addr} {n : Nat} {xs : List α} (h : Sl enc d w lo w.heap.size A n xs) (hb : Below w.heap.size w w') : Sl enc d w' lo w'.heap.size A n xs :=
  (h.below hb (Nat.le_refl _)).mono (Nat.le_refl _) hb.size
theorem below_then {w a b : World} (h : Below w.heap.size w a) (h' : Below a.heap.size a b) : Below w.heap.size w b := h.trans (h'.mono h.size)
theorem Ow.step {α : Type} {enc : α → Value} {w w' : World} {lo : Nat} {e : TypeId} {A : Option Addr} {n c : Nat} {xs : List α} (h : Ow enc w lo e A n c xs) (hb : Below w.heap.size w w') : Ow enc w' lo e A n c xs := h.below hb
/-- a literal row, as it was laid -/
theorem Sl.lit {α : Type} {enc : α → Value} {d : α} {w : World} {e : TypeId} {g : Nat} (xs : List α) (cs : Array Value) (hg : g = w.heap.size) (hc : cs = (xs.map enc).toArray) :
    Sl enc d (w.alloc (.cells cs e)) 0 (w.alloc (.cells cs e)).heap.size (some ⟨g, 0, none⟩) xs.length xs := by
  subst hg hc
  refine ⟨rfl, fun _ => ⟨w.heap.size, 0, rfl, Nat.zero_le _, by simp, fun k hk => ?_⟩⟩
  rw [Nat.zero_add, (Blk.new w e _).cell]
  simp [hk]
end Go.Proofs.Ytaeanmkbongfcaa
