/- General words, third part: stores into an owned row. No condition. -/
import Derived.Test.YtaeanmkbongfcaaKit2
namespace Go.Proofs.Ytaeanmkbongfcaa
open Go.RowKit
section
variable {α : Type} {enc : α → Value} {d : α} {w : World} {lo : Nat} {e : TypeId} {A : Option Addr} {n c : Nat} {xs : List α}
theorem Ow.at_ (h : Ow enc w lo e A n c xs) (d : α) {k : Nat} (hk : k < n) : ∃ g, A = some ⟨g, 0, none⟩ ∧ lo ≤ g ∧ g < w.heap.size ∧ w.cell? ⟨g, k, none⟩ = some (enc (xs[k]?.getD d)) ∧ w.frozen? ⟨g, k, none⟩ = false := by
  obtain ⟨g, cap, hv, hlo, hhi⟩ := h.own.form (by omega)
  simp only [Value.slice.injEq] at hv
  obtain ⟨rfl, _, rfl⟩ := hv
  refine ⟨g, rfl, hlo, hhi, ?_, h.own.frozenAt k⟩
  rw [h.own.cellAt k (by omega), List.getElem?_map, List.getElem?_eq_getElem (by rw [h.len]; exact hk)]
  rfl
theorem Ow.stored {g : Nat} (h : Ow enc w lo e (some ⟨g, 0, none⟩) n c xs) (k : Nat) (v : α) : Ow enc (w.setCell ⟨g, k, none⟩ (enc v)) lo e (some ⟨g, 0, none⟩) n c (xs.set k v) := by
  refine ⟨by rw [List.length_set, h.len], ?_⟩
  rw [List.map_set]
  exact (h.own.stored k (enc v)).1
theorem Ow.setFar (h : Ow enc w lo e A n c xs) {p : Addr} (hp : p.block < lo ∨ w.heap.size ≤ p.block) (u : Value) : Ow enc (w.setCell p u) lo e A n c xs := by
  refine ⟨h.len, h.own.1, ?_⟩
  rcases h.own.2 with hh | ⟨g, cap, cur, hv, hb1, hg, r⟩
  · exact .inl hh
  · refine .inr ⟨g, cap, cur, hv, hb1, ?_, r⟩
    have := (Array.getElem?_eq_some_iff.1 hg).1
    exact (Below.heap_setCell w p u g (by omega)).trans hg
end
end Go.Proofs.Ytaeanmkbongfcaa
