/- Chapter 06: words, and what is loaded of them, are not below 0. No condition. -/
import Derived.Test.YtnkaajkdjbdpaaaSqR2
namespace Go.Proofs.Ytnkaajkdjbdpaaa
def MIn (m : MSt) : Prop := ∀ y ∈ m.1, 0 ≤ y
theorem get_in {l : List Int} (h : ∀ y ∈ l, 0 ≤ y) (k : Nat) : 0 ≤ l[k]?.getD 0 := by
  rcases Nat.lt_or_ge k l.length with hk | hk
  · rw [List.getElem?_eq_getElem hk]; exact h _ (List.getElem_mem hk)
  · rw [List.getElem?_eq_none hk]; decide
theorem set_in {l : List Int} (h : ∀ y ∈ l, 0 ≤ y) (k : Nat) {v : Int} (hv : 0 ≤ v) : ∀ y ∈ l.set k v, 0 ≤ y := fun y hy => by
  rcases List.mem_or_eq_of_mem_set hy with h1 | h1
  · exact h y h1
  · rw [h1]; exact hv
theorem stepM_in {m : MSt} (h : MIn m) (k a o v : Int) (hv : 0 ≤ v) : MIn (stepM m (k, a, o, v)).1 ∧ 0 ≤ (stepM m (k, a, o, v)).2.1 := by
  unfold stepM
  dsimp only
  repeat' split
  all_goals first | exact ⟨h, get_in h _⟩ | exact ⟨h, Int.le_refl 0⟩ | exact ⟨set_in h _ hv, get_in h _⟩ | exact ⟨set_in h _ hv, Int.le_refl 0⟩
end Go.Proofs.Ytnkaajkdjbdpaaa
