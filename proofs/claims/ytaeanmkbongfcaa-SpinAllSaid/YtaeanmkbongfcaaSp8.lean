/- package spin: plain laws of plays. No condition. -/
import Derived.Test.YtaeanmkbongfcaaSp7
namespace Go.Proofs.Ytaeanmkbongfcaa
open Go.RowKit
theorem stepM_good {s : MSt} {a : Acc} (h : MGood s.1 s.2.1) : MGood (stepM s a).1.1 (stepM s a).1.2.1 := by
  unfold stepM
  by_cases hg : goodAt s a.2.1 = false
  · rw [if_pos hg]; exact h
  · rw [if_neg hg]
    by_cases h1 : a.1 = 1
    · rw [if_pos h1]; exact h
    · rw [if_neg h1]
      by_cases h3 : a.1 = 3 ∧ s.1[a.2.1.toNat]?.getD 0 ≠ a.2.2.1
      · rw [if_pos h3]; exact h
      · rw [if_neg h3]
        obtain ⟨k, hk, hl, hv⟩ := goodAt_iff.1 (by simpa using hg)
        dsimp only
        rw [hk]
        exact mgood_set h hl hv
theorem spTake_good {s : Spn} {g : Int × Bool} (h : SpGood s) : SpGood (spTake s g) := by
  obtain ⟨a, p, t⟩ := s
  obtain ⟨x, y⟩ := g
  obtain ⟨h1, h2, h3, h4⟩ := h
  dsimp only at h1 h2 h3 h4
  unfold spTake
  dsimp only
  repeat' split
  all_goals (refine ⟨?_, ?_, ?_, ?_⟩ <;> dsimp only <;> first | omega | (intro hh; omega) | (intro _; rfl) | exact h4)
theorem spUp_good {s : Spn} (h : SpGood s) : SpGood (spUp s) := by
  obtain ⟨a, p, t⟩ := s
  obtain ⟨h1, h2, h3, h4⟩ := h
  dsimp only at h1 h2 h3 h4
  unfold spUp
  dsimp only
  split
  · refine ⟨h1, ?_, ?_, ?_⟩ <;> dsimp only <;> first | omega | (intro hh; omega)
  · exact ⟨h1, h2, h3, h4⟩
theorem AllSp.set {l : List Spn} (h : AllSp l) (i : Nat) {s : Spn} (hs : SpGood s) : AllSp (l.set i s) := fun x hx => by
  rcases List.mem_or_eq_of_mem_set hx with h1 | h1
  · exact h x h1
  · rw [h1]; exact hs
theorem pstepF_len (m : MSt) (l : List Spn) (i : Nat) : (pstepF m l i).2.length = l.length := by
  unfold pstepF; split <;> simp
theorem pstepF_good {m : MSt} {l : List Spn} {i : Nat} (hm : MGood m.1 m.2.1) (hl : AllSp l) (hi : i < l.length) : MGood (pstepF m l i).1.1 (pstepF m l i).1.2.1 ∧ AllSp (pstepF m l i).2 := by
  unfold pstepF
  split
  · exact ⟨stepM_good hm, hl.set i (spTake_good (spUp_good (hl.at hi)))⟩
  · exact ⟨hm, hl⟩
/-- a play behind picks that are there -/
def playS (m : MSt) (l : List Spn) : List Int → MSt × List Spn
  | [] => (m, l)
  | i :: r => playS (pstepF m l i.toNat).1 (pstepF m l i.toNat).2 r
theorem playS_snoc : ∀ (m : MSt) (l : List Spn) (r : List Int) (i : Int), playS m l (r ++ [i]) = pstepF (playS m l r).1 (playS m l r).2 i.toNat
  | m, l, [], i => rfl
  | m, l, j :: r, i => playS_snoc _ _ r i
def PkIn (n : Nat) (r : List Int) : Prop := ∀ i ∈ r, 0 ≤ i ∧ i < n
theorem playS_good : ∀ (m : MSt) (l : List Spn) (r : List Int), MGood m.1 m.2.1 → AllSp l → PkIn l.length r → MGood (playS m l r).1.1 (playS m l r).1.2.1 ∧ AllSp (playS m l r).2 ∧ (playS m l r).2.length = l.length
  | m, l, [], hm, hl, _ => ⟨hm, hl, rfl⟩
  | m, l, i :: r, hm, hl, hr => by
    have h0 := hr i (by simp)
    have h1 := pstepF_good (i := i.toNat) hm hl (by omega)
    have hlen := pstepF_len m l i.toNat
    have := playS_good _ _ r h1.1 h1.2 (fun j hj => by rw [hlen]; exact hr j (List.mem_cons_of_mem _ hj))
    exact ⟨this.1, this.2.1, this.2.2.trans hlen⟩
/-- the picks that are there -/
def vpk (n : Nat) (r : List Int) : List Int := r.filter fun i => decide (0 ≤ i ∧ i < n)
theorem vpk_in (n : Nat) (r : List Int) : PkIn n (vpk n r) := fun i hi => by simpa [vpk] using (List.mem_filter.1 hi).2
theorem PkIn.take {n : Nat} {r : List Int} (h : PkIn n r) (k : Nat) : PkIn n (r.take k) := fun i hi => h i (List.mem_of_mem_take hi)
/-- who came to hold a lock, of a step of one who is there; -1: nobody -/
def whoS (m : MSt) (l : List Spn) (i : Int) : Int := if (l[i.toNat]?.getD (0, 0, 0)).2.1 ≠ 3 ∧ ((pstepF m l i.toNat).2[i.toNat]?.getD (0, 0, 0)).2.1 = 3 then i else -1
def whoK (m : MSt) (l : List Spn) (v : List Int) (k : Nat) : Int := whoS (playS m l (v.take k)).1 (playS m l (v.take k)).2 (v[k]?.getD 0)
theorem take_succ_getD {v : List Int} {k : Nat} (h : k < v.length) : v.take (k + 1) = v.take k ++ [v[k]?.getD 0] := by
  rw [List.take_succ_eq_append_getElem h, List.getElem?_eq_getElem h]; rfl
/-- picks, taken one by one -/
theorem vpk_take_succ {n : Nat} {r : List Int} {j : Nat} (h : j < r.length) : vpk n (r.take (j + 1)) = if 0 ≤ r[j]?.getD 0 ∧ r[j]?.getD 0 < n then vpk n (r.take j) ++ [r[j]?.getD 0] else vpk n (r.take j) := by
  rw [take_succ_getD h]
  unfold vpk
  rw [List.filter_append]
  split
  · rename_i hh; rw [List.filter_cons_of_pos (by simpa using hh), List.filter_nil]
  · rename_i hh; rw [List.filter_cons_of_neg (by simpa using hh), List.filter_nil, List.append_nil]
theorem vpk_prefix (n : Nat) (r : List Int) (j : Nat) : vpk n (r.take j) = (vpk n r).take (vpk n (r.take j)).length := by
  have h : vpk n r = vpk n (r.take j) ++ vpk n (r.drop j) := by unfold vpk; rw [← List.filter_append, List.take_append_drop]
  rw [h, List.take_append_of_le_length (Nat.le_refl _), List.take_length]
theorem vpk_at {n : Nat} {r : List Int} {j : Nat} (h : j < r.length) (hi : 0 ≤ r[j]?.getD 0 ∧ r[j]?.getD 0 < n) : (vpk n (r.take j)).length < (vpk n r).length ∧ (vpk n r)[(vpk n (r.take j)).length]?.getD 0 = r[j]?.getD 0 := by
  have h1 : vpk n r = vpk n (r.take (j + 1)) ++ vpk n (r.drop (j + 1)) := by unfold vpk; rw [← List.filter_append, List.take_append_drop]
  rw [vpk_take_succ h, if_pos hi] at h1
  rw [h1]
  simp
/-- the picks' memory, who wants locks, and who came to hold one -/
def heldF (m : MSt) (l : List Spn) : List Int → List Int
  | [] => []
  | i :: r => (if 0 ≤ whoS m l i then [whoS m l i] else []) ++ heldF (pstepF m l i.toNat).1 (pstepF m l i.toNat).2 r
theorem heldF_snoc : ∀ (m : MSt) (l : List Spn) (r : List Int) (i : Int), heldF m l (r ++ [i]) = heldF m l r ++ (if 0 ≤ whoS (playS m l r).1 (playS m l r).2 i then [whoS (playS m l r).1 (playS m l r).2 i] else [])
  | m, l, [], i => by
    show (if 0 ≤ whoS m l i then [whoS m l i] else []) ++ [] = [] ++ _
    rw [List.append_nil, List.nil_append]; rfl
  | m, l, j :: r, i => by
    show (if 0 ≤ whoS m l j then [whoS m l j] else []) ++ heldF _ _ (r ++ [i]) = _
    rw [heldF_snoc _ _ r i, ← List.append_assoc]
    rfl
end Go.Proofs.Ytaeanmkbongfcaa
