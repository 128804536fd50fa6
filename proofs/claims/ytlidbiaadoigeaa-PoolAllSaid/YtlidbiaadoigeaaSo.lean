/- slices.Sort of []int, on a row in a block known whole. No condition but sizes. -/
import Derived.Test.YtlidbiaadoigeaaSoL07
import Derived.Test.YtlidbiaadoigeaaKitA
import Derived.Test.YtlidbiaadoigeaaSli
import Derived.Shelf.Sort.Plain
namespace Go.Proofs.Ytlidbiaadoigeaa
open Go.RowKit Go.Sort
def srt (xs : List Int) : List Int := xs.mergeSort fun x y => decide (x ≤ y)
theorem srt_len (xs : List Int) : (srt xs).length = xs.length := List.length_mergeSort xs
theorem srt_perm (xs : List Int) : (srt xs).Perm xs := List.mergeSort_perm xs _
/-- numbers that are all different, and below N, N of them: sorted they are 0, 1, .. -/
theorem srt_iota {od : List Int} {N : Nat} (hl : od.length = N) (h : ∀ k, k < N → 0 ≤ od[k]?.getD 0 ∧ od[k]?.getD 0 < N ∧ od[k]?.getD 0 ∉ od.take k) : ∀ i, i < N → (srt od)[i]? = some (i : Int) := by
  have hnd : od.Nodup := by
    rw [List.Nodup, List.pairwise_iff_getElem]
    intro i j hi hj hij e
    have hj2 := (h j (by omega)).2.2
    rw [List.getElem?_eq_getElem hj, Option.getD_some, ← e] at hj2
    exact hj2 (List.mem_take_iff_getElem.2 ⟨i, by omega, rfl⟩)
  have hs : (srt od).Nodup := (srt_perm od).nodup_iff.2 hnd
  have hsl : (srt od).length = N := by rw [srt_len, hl]
  have hp : (srt od).Pairwise fun x y => decide (x ≤ y) = true := List.pairwise_mergeSort (fun a b c h1 h2 => by simp at *; omega) (fun a b => by simp; omega) od
  have hb : ∀ x ∈ srt od, 0 ≤ x ∧ x < N := fun x hx => by
    obtain ⟨k, hk, rfl⟩ := List.mem_iff_getElem.1 ((srt_perm od).mem_iff.1 hx)
    have := h k (by omega)
    rw [List.getElem?_eq_getElem hk] at this
    exact ⟨this.1, this.2.1⟩
  rw [List.Nodup, List.pairwise_iff_getElem] at hs
  rw [List.pairwise_iff_getElem] at hp
  have lt : ∀ d i, (hd : i + d < (srt od).length) → (srt od)[i]'(by omega) + d ≤ (srt od)[i + d] := by
    intro d
    induction d with
    | zero => intro i hd; simp
    | succ d ih =>
      intro i hd
      have h1 := ih i (by omega)
      have h2 := hp (i + d) (i + (d + 1)) (by omega) hd (by omega)
      have h3 := hs (i + d) (i + (d + 1)) (by omega) hd (by omega)
      simp only [decide_eq_true_eq] at h2
      omega
  intro i hi
  have h0 := lt i 0 (by omega)
  have h1 := lt (N - 1 - i) i (by omega)
  have b0 := hb _ (List.getElem_mem (l := srt od) (n := 0) (by omega))
  have b1 := hb _ (List.getElem_mem (l := srt od) (n := i + (N - 1 - i)) (by omega))
  simp only [Nat.zero_add] at h0
  rw [List.getElem?_eq_getElem (by omega)]
  congr 1
  omega
/-- the cells behind the sorting of the first n -/
def srtCells (xs : List Int) (cs : Array Value) : Array Value := ((srt xs).map i64 ++ cs.toList.drop xs.length).toArray
theorem putRow_blk {w : World} {g : Nat} {t : TypeId} {cs : Array Value} (hb : Blk w g t cs) (k : Nat) (d : List Int) (hd : d.length ≤ cs.size) (os : Array Obj) :
    Blk (grow (putRow (Value.int .i64) (Go.Sort.ahead w k) g 0 d.toArray) os) g t ((d.map i64 ++ cs.toList.drop d.length).toArray) ∧ w.grownBy (grow (putRow (Value.int .i64) (Go.Sort.ahead w k) g 0 d.toArray) os) (some g) := by
  have hlt := hb.lt
  refine ⟨?_, rfl, rfl, rfl, by simp, fun i hi hne => ?_⟩
  · unfold Blk grow putRow mapBlock
    dsimp only
    rw [Array.getElem?_append_left (by simpa using hlt), Array.getElem?_modify, if_pos rfl, heap_ahead]
    unfold Blk at hb
    rw [hb]
    show some (onCells _ (Obj.cells cs t (0, 0))) = _
    simp only [onCells, Option.some.injEq, Obj.cells.injEq, and_true]
    apply Array.ext_getElem?
    intro j
    simp only [putCells, Array.getElem?_mapIdx, List.getElem?_toArray, List.getElem?_append, List.length_map, List.getElem?_map, List.getElem?_drop, Array.getElem?_toList, List.size_toArray, Nat.zero_le, true_and, Nat.zero_add, Nat.sub_zero]
    by_cases hj : j < d.length
    · rw [if_pos hj, List.getElem?_eq_getElem hj, Array.getElem?_eq_getElem (by omega)]
      simp [hj]
    · rw [if_neg hj, show d.length + (j - d.length) = j by omega]
      cases hc : cs[j]? with
      | none => rfl
      | some v => simp [hj]
  · unfold grow putRow mapBlock
    dsimp only
    rw [Array.getElem?_append_left (by simpa using hi), Array.getElem?_modify, if_neg (fun e => hne (by rw [e])), heap_ahead]
theorem sort_blk (g : Nat) (t : TypeId) (cs : Array Value) (n c : Nat) (xs : List Int) (w : World) (hb : Blk w g t cs) (hx : xs.length = n) (hcs : ∀ j, j < n → cs[j]? = some (i64 (xs[j]?.getD 0))) (hn : n ≤ 1000000) :
    Calls Try.prog 22 #[.slice (some ⟨g, 0, none⟩) n c] w fun e w' => e = .returned (.tuple #[]) ∧ Blk w' g t (srtCells xs cs) ∧ w.grownBy w' (some g) := by
  subst hx
  have hsz : xs.length ≤ cs.size := by
    rcases Nat.eq_zero_or_pos xs.length with h | h
    · omega
    · have := hcs (xs.length - 1) (by omega)
      have := (Array.getElem?_eq_some_iff.1 this).1
      omega
  have hH : Holds (Value.int .i64) w g 0 xs.toArray := fun j hj => by
    have hj' : j < xs.length := by simpa using hj
    refine ⟨?_, by rw [Nat.zero_add]; exact hb.frozen j⟩
    rw [Nat.zero_add, hb.cell, hcs j hj', List.getElem?_eq_getElem hj']
    simp [hj']
  refine (Any.slices_Sort_int laysSort g 0 c xs w hH hb.lt (by omega)).mono ?_
  rintro e w' ⟨rfl, k, os, rfl⟩
  have h := putRow_blk hb k (srt xs) (by rw [srt_len]; exact hsz) os
  rw [srt_len] at h
  exact ⟨rfl, h⟩
/-- slices.Sort of an owned row -/
theorem sort_ow (A : Option Addr) (n c lo : Nat) (xs : List Int) (w : World) (h : Ow i64 w lo 3 A n c xs) (h0 : 0 < n) (hn : n ≤ 1000000) :
    Calls Try.prog 22 #[.slice A n c] w fun e w' => e = .returned (.tuple #[]) ∧ Ow i64 w' lo 3 A n c (srt xs) ∧ w.grownBy w' (Value.slice A n c).ownBlock := by
  obtain ⟨hl, hsz, hown⟩ := h
  rcases hown with ⟨hv, h1⟩ | ⟨g, cap, cur, hv, hb1, hg, h1, h2, h3, h4⟩
  · omega
  · simp only [Value.slice.injEq] at hv
    obtain ⟨rfl, _, rfl⟩ := hv
    rw [Nat.mul_one] at h3 h4
    have hcs : ∀ j, j < n → cur[j]? = some (i64 (xs[j]?.getD 0)) := fun j hj => by
      have e : (cur.toList.take n)[j]? = (xs.map i64)[j]? := by rw [h4]
      rw [List.getElem?_take, if_pos hj, Array.getElem?_toList, List.getElem?_map, List.getElem?_eq_getElem (by omega)] at e
      rw [e, List.getElem?_eq_getElem (by omega)]
      rfl
    refine (sort_blk g 3 cur n c xs w hg hl hcs hn).mono ?_
    rintro e w' ⟨rfl, k1, k2⟩
    refine ⟨rfl, ⟨by rw [srt_len, hl], by rw [List.length_map, srt_len, hl, Nat.mul_one], .inr ⟨g, c, _, rfl, hb1, k1, h1, h2, ?_, ?_⟩⟩, k2⟩
    · unfold srtCells
      simp only [List.size_toArray, List.length_append, List.length_map, List.length_drop, Array.length_toList, srt_len, hl, h3]
      omega
    · unfold srtCells
      rw [Nat.mul_one, List.take_left' (by rw [List.length_map, srt_len, hl])]
end Go.Proofs.Ytlidbiaadoigeaa
