/- General words, fifth part: rows of structures, whose elements lie in so many cells each. No condition. -/
import Derived.Test.YtaeanmkbongfcaaKit4
namespace Go.Proofs.Ytaeanmkbongfcaa
open Go.RowKit
/-- a row of elements of sz cells each reads as xs; enc x j: the j-th cell of x -/
structure Sm {α : Type} (sz : Nat) (enc : α → Nat → Value) (d : α) (w : World) (lo hi : Nat) (A : Option Addr) (n : Nat) (xs : List α) : Prop where
  len : xs.length = n
  row : 0 < n → ∃ b off, A = some ⟨b, off, none⟩ ∧ lo ≤ b ∧ b < hi ∧ ∀ k, k < n → ∀ j, j < sz → w.cell? ⟨b, off + k * sz + j, none⟩ = some (enc (xs[k]?.getD d) j)
section
variable {α : Type} {sz : Nat} {enc : α → Nat → Value} {d : α} {w w' : World} {lo hi lo' hi' B : Nat} {A : Option Addr} {n : Nat} {xs : List α}
theorem Sm.nil (w : World) (lo hi : Nat) (A : Option Addr) : Sm sz enc d w lo hi A 0 [] := ⟨rfl, fun h => absurd h (by omega)⟩
theorem Sm.keep (h : Sm sz enc d w lo hi A n xs) (hk : ∀ b o, lo ≤ b → b < hi → w'.cell? ⟨b, o, none⟩ = w.cell? ⟨b, o, none⟩) : Sm sz enc d w' lo hi A n xs :=
  ⟨h.len, fun hn => by
    obtain ⟨b, off, e, h1, h2, h3⟩ := h.row hn
    exact ⟨b, off, e, h1, h2, fun k hkn j hj => (hk b _ h1 h2).trans (h3 k hkn j hj)⟩⟩
theorem Sm.below (h : Sm sz enc d w lo hi A n xs) (hb : Below B w w') (hB : hi ≤ B) : Sm sz enc d w' lo hi A n xs := h.keep fun b o _ h2 => hb.cell (p := ⟨b, o, none⟩) (Nat.lt_of_lt_of_le h2 hB)
theorem Sm.mono (h : Sm sz enc d w lo hi A n xs) (h1 : lo' ≤ lo) (h2 : hi ≤ hi') : Sm sz enc d w lo' hi' A n xs :=
  ⟨h.len, fun hn => by
    obtain ⟨b, off, e, g1, g2, g3⟩ := h.row hn
    exact ⟨b, off, e, by omega, by omega, g3⟩⟩
theorem Sm.step (h : Sm sz enc d w lo w.heap.size A n xs) (hb : Below w.heap.size w w') : Sm sz enc d w' lo w'.heap.size A n xs := (h.below hb (Nat.le_refl _)).mono (Nat.le_refl _) hb.size
theorem Sm.take (h : Sm sz enc d w lo hi A n xs) {k : Nat} (hk : k ≤ n) : Sm sz enc d w lo hi A k (xs.take k) :=
  ⟨by rw [List.length_take, h.len]; omega, fun hn => by
    obtain ⟨b, off, e, h1, h2, h3⟩ := h.row (by omega)
    refine ⟨b, off, e, h1, h2, fun j hj i hi => ?_⟩
    rw [h3 j (by omega) i hi, List.getElem?_take, if_pos hj]⟩
/-- one element, as it was laid -/
theorem Sm.one {e : TypeId} {cs : Array Value} {g : Nat} (x : α) (hg : g = w.heap.size) (hc : ∀ j, j < sz → cs[j]? = some (enc x j)) : Sm sz enc d (w.alloc (.cells cs e)) 0 (w.alloc (.cells cs e)).heap.size (some ⟨g, 0, none⟩) 1 [x] := by
  subst hg
  refine ⟨rfl, fun _ => ⟨w.heap.size, 0, rfl, Nat.zero_le _, by simp, fun k hk j hj => ?_⟩⟩
  obtain rfl : k = 0 := by omega
  have h0 : 0 + 0 * sz + j = j := by omega
  rw [h0, (Blk.new w e cs).cell, hc j hj]
  rfl
end
end Go.Proofs.Ytaeanmkbongfcaa
