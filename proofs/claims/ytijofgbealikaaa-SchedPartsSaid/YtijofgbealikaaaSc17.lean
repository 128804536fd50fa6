/- package sched, and afterglowref04: whole rounds, plainly. No condition. -/
import Derived.Test.YtijofgbealikaaaSc16
import Derived.Test.YtijofgbealikaaaKitA
namespace Go.Proofs.Ytijofgbealikaaa
/-- whole rounds behind the first j picks: how many, and where the next one begins -/
def Whole (c : Nat) (xs : List Int) (a j : Nat) : Prop := ∀ q, q < c → trail xs (q : Int) j < j - a
instance {c : Nat} {xs : List Int} {a j : Nat} : Decidable (Whole c xs a j) := by unfold Whole; infer_instance
def rdF (c : Nat) (xs : List Int) : Nat → Nat × Nat
  | 0 => (0, 0)
  | j + 1 => if Whole c xs (rdF c xs j).2 (j + 1) then ((rdF c xs j).1 + 1, j + 1) else rdF c xs j
theorem rdF_succ (c : Nat) (xs : List Int) (j : Nat) : rdF c xs (j + 1) = if Whole c xs (rdF c xs j).2 (j + 1) then ((rdF c xs j).1 + 1, j + 1) else rdF c xs j := rfl
theorem rdF_from (c : Nat) (xs : List Int) : ∀ j, (rdF c xs j).2 ≤ j
  | 0 => Nat.le_refl _
  | j + 1 => by have := rdF_from c xs j; rw [rdF_succ]; split <;> simp <;> omega
theorem rdF_le (c : Nat) (xs : List Int) : ∀ j, (rdF c xs j).1 ≤ j
  | 0 => Nat.le_refl _
  | j + 1 => by have := rdF_le c xs j; rw [rdF_succ]; split <;> simp <;> omega
/-- rounds of a part are no more -/
theorem rdF_part (c : Nat) (hc : 1 ≤ c) (xs : List Int) (i K : Nat) (h : i + K ≤ xs.length) : ∀ j, j ≤ K → (rdF c ((xs.drop i).take K) j).1 < (rdF c xs (i + j)).1 ∨ ((rdF c ((xs.drop i).take K) j).1 = (rdF c xs (i + j)).1 ∧ (rdF c xs (i + j)).2 ≤ i + (rdF c ((xs.drop i).take K) j).2)
  | 0, _ => by
    show 0 < (rdF c xs i).1 ∨ (0 = (rdF c xs i).1 ∧ (rdF c xs i).2 ≤ i + 0)
    have := rdF_from c xs i
    omega
  | j + 1, hj => by
    have ih := rdF_part c hc xs i K h j (by omega)
    rw [← Nat.add_assoc, rdF_succ, rdF_succ]
    have hf := rdF_from c xs (i + j)
    have hf' := rdF_from c ((xs.drop i).take K) j
    generalize rdF c ((xs.drop i).take K) j = s at ih hf' ⊢
    generalize rdF c xs (i + j) = t at ih hf ⊢
    have hw : Whole c ((xs.drop i).take K) s.2 (j + 1) → t.2 ≤ i + s.2 → Whole c xs t.2 (i + j + 1) := fun hw hle q hq => by
      have := hw q hq
      rw [trail_sub xs q i K h (j + 1) hj, ← Nat.add_assoc] at this
      omega
    by_cases h1 : Whole c ((xs.drop i).take K) s.2 (j + 1)
    · rw [if_pos h1]
      by_cases h2 : Whole c xs t.2 (i + j + 1)
      · rw [if_pos h2]
        show s.1 + 1 < t.1 + 1 ∨ (s.1 + 1 = t.1 + 1 ∧ i + j + 1 ≤ i + (j + 1))
        omega
      · rw [if_neg h2]
        show s.1 + 1 < t.1 ∨ (s.1 + 1 = t.1 ∧ t.2 ≤ i + (j + 1))
        rcases ih with ih | ⟨_, ih⟩
        · omega
        · exact absurd (hw h1 ih) h2
    · rw [if_neg h1]
      by_cases h2 : Whole c xs t.2 (i + j + 1)
      · rw [if_pos h2]
        show s.1 < t.1 + 1 ∨ (s.1 = t.1 + 1 ∧ i + j + 1 ≤ i + s.2)
        omega
      · rw [if_neg h2]; exact ih
theorem rdF_mono (c : Nat) (xs : List Int) {j k : Nat} (h : j ≤ k) : (rdF c xs j).1 ≤ (rdF c xs k).1 := by
  induction k with
  | zero => obtain rfl : j = 0 := by omega
            exact Nat.le_refl _
  | succ k ih =>
    rcases Nat.lt_or_ge k j with h1 | h1
    · obtain rfl : j = k + 1 := by omega
      exact Nat.le_refl _
    · have := ih h1
      rw [rdF_succ]; split <;> simp <;> omega
theorem rounds_part (c : Nat) (hc : 1 ≤ c) (xs : List Int) (i K : Nat) (h : i + K ≤ xs.length) : (rdF c ((xs.drop i).take K) K).1 ≤ (rdF c xs xs.length).1 := by
  have h1 := rdF_part c hc xs i K h K (Nat.le_refl _)
  have h2 := rdF_mono c xs h
  omega
theorem putL_keys (L : List (Int × Value)) (k : Int) (v : Value) : (putL L k v).map Prod.fst = if k ∈ L.map Prod.fst then L.map Prod.fst else L.map Prod.fst ++ [k] := by
  induction L with
  | nil => simp [putL]
  | cons x L ih =>
    unfold putL
    by_cases e : x.1 = k
    · rw [if_pos e, if_pos (by rw [List.map_cons, e]; exact List.mem_cons_self)]; rw [List.map_cons, List.map_cons, e]
    · rw [if_neg e, List.map_cons, List.map_cons, ih]
      by_cases h : k ∈ L.map Prod.fst
      · rw [if_pos h, if_pos (List.mem_cons_of_mem _ h)]
      · rw [if_neg h, if_neg (fun hm => by rcases List.mem_cons.1 hm with h1 | h1; exact e h1.symm; exact h h1)]; rfl
theorem trail_iff (xs : List Int) (q : Int) (a : Nat) : ∀ j, a ≤ j → (trail xs q j < j - a ↔ ∃ i, a ≤ i ∧ i < j ∧ xs[i]?.getD 0 = q)
  | 0, h => by
    show 0 < 0 - a ↔ _
    constructor
    · intro h; omega
    · rintro ⟨i, h1, h2, _⟩; omega
  | j + 1, h => by
    rw [trail_succ]
    by_cases e : xs[j]?.getD 0 = q
    · rw [if_pos e]
      rcases Nat.lt_or_ge a (j + 1) with h1 | h1
      · exact ⟨fun _ => ⟨j, by omega, by omega, e⟩, fun _ => by omega⟩
      · exact ⟨fun h => by omega, fun ⟨i, h2, h3, _⟩ => by omega⟩
    · rw [if_neg e]
      rcases Nat.lt_or_ge a (j + 1) with h1 | h1
      · have ih := trail_iff xs q a j (by omega)
        rw [show trail xs q j + 1 < j + 1 - a ↔ trail xs q j < j - a by omega, ih]
        constructor
        · rintro ⟨i, h2, h3, h4⟩; exact ⟨i, h2, by omega, h4⟩
        · rintro ⟨i, h2, h3, h4⟩
          rcases Nat.lt_or_ge i j with h5 | h5
          · exact ⟨i, h2, h5, h4⟩
          · obtain rfl : i = j := by omega
            exact absurd h4 e
      · exact ⟨fun h => by omega, fun ⟨i, h2, h3, _⟩ => by omega⟩
theorem nodup_below : ∀ (c : Nat) (l : List Int), l.Nodup → (∀ x ∈ l, 0 ≤ x ∧ x < c) → l.length ≤ c ∧ (l.length = c ↔ ∀ q : Nat, q < c → (q : Int) ∈ l)
  | 0, l, _, h => by
    cases l with
    | nil => exact ⟨Nat.le_refl _, ⟨fun _ q hq => absurd hq (Nat.not_lt_zero _), fun _ => rfl⟩⟩
    | cons x l => have := h x List.mem_cons_self; omega
  | c + 1, l, hn, h => by
    by_cases hc : (c : Int) ∈ l
    · have hp := List.perm_cons_erase hc
      have hl := hp.length_eq
      have hn' : (l.erase (c : Int)).Nodup := hn.erase _
      have hnc : (c : Int) ∉ l.erase (c : Int) := (List.nodup_cons.1 (hp.nodup_iff.1 hn)).1
      obtain ⟨h1, h2⟩ := nodup_below c (l.erase (c : Int)) hn' (fun x hx => by
        have h3 := h x (List.mem_of_mem_erase hx)
        have : x ≠ (c : Int) := fun e => hnc (e ▸ hx)
        omega)
      rw [List.length_cons] at hl
      refine ⟨by omega, ?_⟩
      rw [show l.length = c + 1 ↔ (l.erase (c : Int)).length = c by omega, h2]
      constructor
      · intro h3 q hq
        rcases Nat.lt_or_ge q c with h4 | h4
        · exact List.mem_of_mem_erase (h3 q h4)
        · obtain rfl : q = c := by omega
          exact hc
      · intro h3 q hq
        exact (List.mem_erase_of_ne (by omega)).2 (h3 q (by omega))
    · obtain ⟨h1, _⟩ := nodup_below c l hn (fun x hx => by
        have h3 := h x hx
        have : x ≠ (c : Int) := fun e => hc (e ▸ hx)
        omega)
      exact ⟨by omega, ⟨fun h2 => by omega, fun h2 => absurd (h2 c (by omega)) hc⟩⟩
/-- the numbers that were met from a on -/
def MetOk (xs : List Int) (a j : Nat) (L : List (Int × Value)) : Prop := (L.map Prod.fst).Nodup ∧ ∀ v : Int, v ∈ L.map Prod.fst ↔ ∃ i, a ≤ i ∧ i < j ∧ xs[i]?.getD 0 = v
theorem MetOk.nil (xs : List Int) (a : Nat) : MetOk xs a a [] := ⟨List.nodup_nil, fun v => ⟨fun h => (by cases h), fun ⟨i, h1, h2, _⟩ => absurd h2 (by omega)⟩⟩
theorem MetOk.put {xs : List Int} {a j : Nat} {L : List (Int × Value)} {x : Int} {v : Value} (h : MetOk xs a j L) (ha : a ≤ j) (hx : xs[j]?.getD 0 = x) : MetOk xs a (j + 1) (putL L x v) := by
  unfold MetOk
  rw [putL_keys]
  have key : ∀ u : Int, (∃ i, a ≤ i ∧ i < j + 1 ∧ xs[i]?.getD 0 = u) ↔ u ∈ L.map Prod.fst ∨ u = x := fun u => by
    rw [h.2]
    constructor
    · rintro ⟨i, h1, h2, h3⟩
      rcases Nat.lt_or_ge i j with h4 | h4
      · exact .inl ⟨i, h1, h4, h3⟩
      · obtain rfl : i = j := by omega
        exact .inr (h3.symm.trans hx)
    · rintro (⟨i, h1, h2, h3⟩ | rfl)
      · exact ⟨i, h1, by omega, h3⟩
      · exact ⟨j, ha, by omega, hx⟩
  by_cases e : x ∈ L.map Prod.fst
  · rw [if_pos e]
    exact ⟨h.1, fun u => by rw [key]; exact ⟨fun h => .inl h, fun h => h.elim id (fun e' => by rw [e']; exact e)⟩⟩
  · rw [if_neg e]
    refine ⟨List.nodup_append.2 ⟨h.1, by simp, fun u hu y hy hxy => ?_⟩, fun u => by rw [key, List.mem_append, List.mem_singleton]⟩
    rw [List.mem_singleton] at hy
    exact e (hy ▸ hxy ▸ hu)
theorem MetOk.whole {c : Nat} {xs : List Int} {a j : Nat} {L : List (Int × Value)} (h : MetOk xs a j L) (ha : a ≤ j) (hj : j ≤ xs.length) (hin : ∀ x ∈ xs, 0 ≤ x ∧ x < c) : L.length ≤ c ∧ (L.length < c ↔ ¬ Whole c xs a j) := by
  obtain ⟨h1, h2⟩ := nodup_below c (L.map Prod.fst) h.1 (fun x hx => by
    obtain ⟨i, _, hi, rfl⟩ := (h.2 x).1 hx
    rw [List.getElem?_eq_getElem (by omega)]
    exact hin _ (List.getElem_mem _))
  rw [List.length_map] at h1 h2
  refine ⟨h1, ?_⟩
  have hw : Whole c xs a j ↔ L.length = c := by
    rw [h2]
    unfold Whole
    constructor
    · intro hw q hq; exact (h.2 _).2 ((trail_iff xs q a j ha).1 (hw q hq))
    · intro hw q hq; exact (trail_iff xs q a j ha).2 ((h.2 _).1 (hw q hq))
  rw [hw]
  omega
/-- where whole rounds end -/
def rdP (c : Nat) (xs : List Int) : Nat → List Int
  | 0 => []
  | j + 1 => if Whole c xs (rdF c xs j).2 (j + 1) then rdP c xs j ++ [(j : Int)] else rdP c xs j
theorem rdP_succ (c : Nat) (xs : List Int) (j : Nat) : rdP c xs (j + 1) = if Whole c xs (rdF c xs j).2 (j + 1) then rdP c xs j ++ [(j : Int)] else rdP c xs j := rfl
theorem rdP_len (c : Nat) (xs : List Int) : ∀ j, (rdP c xs j).length = (rdF c xs j).1
  | 0 => rfl
  | j + 1 => by rw [rdP_succ, rdF_succ]; split <;> simp [rdP_len c xs j]
theorem rdP_pre (c : Nat) (xs : List Int) {j : Nat} : ∀ {k : Nat}, j ≤ k → rdP c xs j <+: rdP c xs k
  | 0, h => by obtain rfl : j = 0 := by omega
               exact List.prefix_rfl
  | k + 1, h => by
    rcases Nat.lt_or_ge j (k + 1) with h1 | h1
    · refine (rdP_pre c xs (show j ≤ k by omega)).trans ?_
      rw [rdP_succ]
      split
      · exact List.prefix_append _ _
      · exact List.prefix_rfl
    · obtain rfl : j = k + 1 := by omega
      exact List.prefix_rfl
theorem rdP_at (c : Nat) (xs : List Int) {j n : Nat} (h : j < n) (hw : Whole c xs (rdF c xs j).2 (j + 1)) : (rdP c xs n)[(rdF c xs j).1]?.getD 0 = (j : Int) ∧ (rdF c xs j).1 < (rdF c xs n).1 := by
  obtain ⟨t, ht⟩ := rdP_pre c xs (show j + 1 ≤ n by omega)
  have hl := rdP_len c xs j
  have hs : rdP c xs (j + 1) = rdP c xs j ++ [(j : Int)] := by rw [rdP_succ, if_pos hw]
  rw [hs] at ht
  constructor
  · rw [← ht, ← hl, List.append_assoc, List.getElem?_append_right (Nat.le_refl _), Nat.sub_self]; rfl
  · rw [← rdP_len, ← rdP_len, ← ht]; simp
end Go.Proofs.Ytijofgbealikaaa
