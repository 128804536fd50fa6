/- Free and taken pages, plainly. No condition. -/
import Derived.Test.YtlidbiaadoigeaaPool11
namespace Go.Proofs.Ytlidbiaadoigeaa
theorem free_parts {b p : Int} {xs : List Int} : freeB b p xs = true ↔ sizedB b p = true ∧ Good p xs := by unfold freeB; rw [Bool.and_eq_true, decide_eq_true_eq]
theorem iota_nodup (n : Nat) : ((List.range n).map fun i : Nat => (i : Int)).Nodup := by
  rw [List.Nodup, List.pairwise_map]
  exact (List.nodup_range (n := n)).imp (fun h e => h (by omega))
theorem allP_iota {od : List Int} {n : Nat} (h : od.Perm ((List.range n).map fun i : Nat => (i : Int))) : od.length = n ∧ ∀ k, k < n → 0 ≤ od[k]?.getD 0 ∧ od[k]?.getD 0 < n ∧ od[k]?.getD 0 ∉ od.take k := by
  have hl : od.length = n := by rw [h.length_eq]; simp
  have hn : od.Nodup := h.nodup_iff.2 (iota_nodup n)
  refine ⟨hl, fun k hk => ?_⟩
  have hm : od[k]?.getD 0 ∈ od := by rw [List.getElem?_eq_getElem (by omega)]; exact List.getElem_mem _
  obtain ⟨i, hi, e⟩ := List.mem_map.1 (h.mem_iff.1 hm)
  rw [List.mem_range] at hi
  refine ⟨by omega, by omega, fun hk2 => ?_⟩
  obtain ⟨i2, hi2, e2⟩ := List.mem_take_iff_getElem.1 hk2
  rw [List.getElem?_eq_getElem (by omega), Option.getD_some] at e2
  rw [List.Nodup, List.pairwise_iff_getElem] at hn
  exact hn i2 k (by omega) (by omega) (by omega) e2
theorem mem_filtL {xs : List Int} {k : Nat} {x : Int} : x ∈ filtL xs k ↔ (0 ≤ x ∧ x < k) ∧ x ∉ xs := by
  unfold filtL
  rw [List.mem_filter, decide_eq_true_eq, List.mem_map]
  constructor
  · rintro ⟨⟨i, hi, rfl⟩, h⟩
    rw [List.mem_range] at hi
    exact ⟨⟨by omega, by omega⟩, h⟩
  · rintro ⟨h1, h⟩
    exact ⟨⟨x.toNat, List.mem_range.2 (by omega), by omega⟩, h⟩
theorem filtL_nodup (xs : List Int) (k : Nat) : (filtL xs k).Nodup := (iota_nodup k).filter _
/-- free and taken pages are all, each once -/
theorem free_taken {p : Int} {xs : List Int} (hp : 0 ≤ p) (h : Good p xs) : (xs ++ filtL xs p.toNat).Perm ((List.range p.toNat).map fun i : Nat => (i : Int)) := by
  refine (List.perm_ext_iff_of_nodup (List.nodup_append.2 ⟨h.2, filtL_nodup xs _, fun a ha b hb e => (mem_filtL.1 hb).2 (e ▸ ha)⟩) (iota_nodup _)).2 fun a => ?_
  rw [List.mem_append, mem_filtL, List.mem_map]
  constructor
  · rintro (h1 | h1)
    · have := h.1 a h1; exact ⟨a.toNat, List.mem_range.2 (by omega), by omega⟩
    · exact ⟨a.toNat, List.mem_range.2 (by omega), by omega⟩
  · rintro ⟨i, hi, rfl⟩
    rw [List.mem_range] at hi
    by_cases e : (i : Int) ∈ xs
    · exact .inl e
    · exact .inr ⟨⟨by omega, by omega⟩, e⟩
theorem give_one {p x : Int} {xs : List Int} (h0 : 0 ≤ x) (h1 : x < p) (hn : x ∉ xs) : giveE p xs [x] = 0 := by
  unfold giveE
  rw [if_neg (by omega), if_neg hn]
  rfl
theorem good_put {p x : Int} {xs : List Int} (h : Good p xs) (h0 : 0 ≤ x) (h1 : x < p) (hn : x ∉ xs) : Good p (xs ++ [x]) := by
  refine ⟨fun y hy => ?_, List.nodup_append.2 ⟨h.2, by simp, fun a ha b hb e => hn (by rw [← List.mem_singleton.1 hb, ← e]; exact ha)⟩⟩
  rcases List.mem_append.1 hy with hy | hy
  · exact h.1 y hy
  · rw [List.mem_singleton.1 hy]; exact ⟨h0, h1⟩
theorem good_cut {p x : Int} {ys : List Int} (h : Good p (ys ++ [x])) : Good p ys ∧ (0 ≤ x ∧ x < p) ∧ x ∉ ys := by
  have hn := List.nodup_append.1 h.2
  exact ⟨⟨fun y hy => h.1 y (List.mem_append_left _ hy), hn.1⟩, h.1 x (List.mem_append_right _ (List.mem_singleton.2 rfl)), fun hx => hn.2.2 x hx x (List.mem_singleton.2 rfl) rfl⟩
theorem good_len {p : Int} {xs : List Int} (hp : 0 ≤ p) (h : Good p xs) : xs.length + (filtL xs p.toNat).length = p.toNat := by
  have := (free_taken hp h).length_eq
  rw [List.length_append] at this
  simpa using this
end Go.Proofs.Ytlidbiaadoigeaa
