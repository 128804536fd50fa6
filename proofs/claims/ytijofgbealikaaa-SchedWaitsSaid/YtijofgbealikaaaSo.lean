/- slices.Sort of []int, on a row in a block known whole. No condition but sizes. -/
import Derived.Test.YtijofgbealikaaaSoL04
import Derived.Test.YtijofgbealikaaaKitA
import Derived.Test.YtijofgbealikaaaSli
import Derived.Shelf.Sort.Plain
namespace Go.Proofs.Ytijofgbealikaaa
open Go.RowKit Go.Sort
def srt (xs : List Int) : List Int := xs.mergeSort fun x y => decide (x ≤ y)
theorem srt_len (xs : List Int) : (srt xs).length = xs.length := List.length_mergeSort xs
theorem srt_perm (xs : List Int) : (srt xs).Perm xs := List.mergeSort_perm xs _
/-- the cells behind the sorting of the first n -/
def srtCells (xs : List Int) (cs : Array Value) : Array Value := ((srt xs).map i64 ++ cs.toList.drop xs.length).toArray
theorem putRow_blk {w : World} {g : Nat} {t : TypeId} {cs : Array Value} (hb : Blk w g t cs) (k : Nat) (d : List Int) (hd : d.length ≤ cs.size) (os : Array Obj) :
    Blk (grow (putRow (Value.int .i64) (Go.Sort.ahead w k) g 0 d.toArray) os) g t ((d.map i64 ++ cs.toList.drop d.length).toArray) ∧ w.grownBy (grow (putRow (Value.int .i64) (Go.Sort.ahead w k) g 0 d.toArray) os) (some g) := by
  have hlt := hb.lt
  refine ⟨?_, rfl, rfl, rfl, by simp, fun i hi hne => ?_⟩
  · unfold Blk grow putRow mapBlock
    dsimp only
    rw [Array.getElem?_append_left (by simpa using hlt), Array.getElem?_modify, if_pos rfl, heap_ahead]
    unfold Blk at hb
    rw [hb]
    show some (onCells _ (Obj.cells cs t (0, 0))) = _
    simp only [onCells, Option.some.injEq, Obj.cells.injEq, and_true]
    apply Array.ext_getElem?
    intro j
    simp only [putCells, Array.getElem?_mapIdx, List.getElem?_toArray, List.getElem?_append, List.length_map, List.getElem?_map, List.getElem?_drop, Array.getElem?_toList, List.size_toArray, Nat.zero_le, true_and, Nat.zero_add, Nat.sub_zero]
    by_cases hj : j < d.length
    · rw [if_pos hj, List.getElem?_eq_getElem hj, Array.getElem?_eq_getElem (by omega)]
      simp [hj]
    · rw [if_neg hj, show d.length + (j - d.length) = j by omega]
      cases hc : cs[j]? with
      | none => rfl
      | some v => simp [hj]
  · unfold grow putRow mapBlock
    dsimp only
    rw [Array.getElem?_append_left (by simpa using hi), Array.getElem?_modify, if_neg (fun e => hne (by rw [e])), heap_ahead]
theorem sort_blk (g : Nat) (t : TypeId) (cs : Array Value) (n c : Nat) (xs : List Int) (w : World) (hb : Blk w g t cs) (hx : xs.length = n) (hcs : ∀ j, j < n → cs[j]? = some (i64 (xs[j]?.getD 0))) (hn : n ≤ 1000000) :
    Calls Try.prog 25 #[.slice (some ⟨g, 0, none⟩) n c] w fun e w' => e = .returned (.tuple #[]) ∧ Blk w' g t (srtCells xs cs) ∧ w.grownBy w' (some g) := by
  subst hx
  have hsz : xs.length ≤ cs.size := by
    rcases Nat.eq_zero_or_pos xs.length with h | h
    · omega
    · have := hcs (xs.length - 1) (by omega)
      have := (Array.getElem?_eq_some_iff.1 this).1
      omega
  have hH : Holds (Value.int .i64) w g 0 xs.toArray := fun j hj => by
    have hj' : j < xs.length := by simpa using hj
    refine ⟨?_, by rw [Nat.zero_add]; exact hb.frozen j⟩
    rw [Nat.zero_add, hb.cell, hcs j hj', List.getElem?_eq_getElem hj']
    simp [hj']
  refine (Any.slices_Sort_int laysSort g 0 c xs w hH hb.lt (by omega)).mono ?_
  rintro e w' ⟨rfl, k, os, rfl⟩
  have h := putRow_blk hb k (srt xs) (by rw [srt_len]; exact hsz) os
  rw [srt_len] at h
  exact ⟨rfl, h⟩
end Go.Proofs.Ytijofgbealikaaa
