/- Chapter 04, plainly: what sched.Least tells is the least k of which picks are k-fair. No condition. -/
import Derived.Test.YtijofgbealikaaaSc9
namespace Go.Proofs.Ytijofgbealikaaa
theorem mostF_max (l : List Int) : ∀ (m j k : Nat), l.length - j = m → j ≤ l.length → k < l.length → (∀ i, i < j → l[i]?.getD 0 ≤ l[k]?.getD 0) → ∀ i, i < l.length → l[i]?.getD 0 ≤ l[mostF (l.drop j) (l[k]?.getD 0) k j]?.getD 0
  | 0, j, k, hm, hj, hk, h, i, hi => by
    rw [mostF_end l j (by omega)]
    exact h i (by omega)
  | m + 1, j, k, hm, hj, hk, h, i, hi => by
    rw [mostF_step l j (by omega)]
    split
    · rename_i hlt
      refine mostF_max l m (j + 1) j (by omega) (by omega) (by omega) (fun i' hi' => ?_) i hi
      rcases Nat.lt_or_ge i' j with h' | h'
      · have := h i' h'; omega
      · obtain rfl : i' = j := by omega
        exact Int.le_refl _
    · rename_i hlt
      refine mostF_max l m (j + 1) k (by omega) (by omega) hk (fun i' hi' => ?_) i hi
      rcases Nat.lt_or_ge i' j with h' | h'
      · exact h i' h'
      · obtain rfl : i' = j := by omega
        omega
theorem mostL_max {l : List Int} {i : Nat} (hi : i < l.length) : l[i]?.getD 0 ≤ l[mostL l]?.getD 0 := by
  have := mostF_max l l.length 0 0 (by omega) (Nat.zero_le _) (by omega) (fun i' h => absurd h (Nat.not_lt_zero _)) i hi
  rwa [List.drop_zero] at this
/-- the longest wait, plainly -/
theorem topW_le {c : Nat} (hc : 1 ≤ c) (hc8 : c ≤ 8) {xs : List Int} (hx : ∀ x ∈ xs, 0 ≤ x ∧ x < 8) (k : Int) : topW c xs < k ↔ ∀ q, q < c → (waitR xs q : Int) < k := by
  have hl : ((wL xs).take c).length = c := by rw [List.length_take, wL_len]; omega
  have hg : ∀ q, q < c → ((wL xs).take c)[q]?.getD 0 = waitR xs q := fun q hq => by
    rw [List.getElem?_take, if_pos hq]; exact wL_wait hx (by omega)
  unfold topW
  constructor
  · intro h q hq
    have := mostL_max (l := (wL xs).take c) (i := q) (by rw [hl]; exact hq)
    rw [hg q hq] at this
    omega
  · intro h
    have hm := mostL_lt (l := (wL xs).take c) (by omega)
    rw [hl] at hm
    rw [hg _ hm]
    exact h _ hm
theorem trail_take (xs : List Int) (q : Int) (n : Nat) : ∀ j, j ≤ n → trail (xs.take n) q j = trail xs q j
  | 0, _ => rfl
  | j + 1, h => by
    have e : (xs.take n)[j]?.getD 0 = xs[j]?.getD 0 := by rw [List.getElem?_take, if_pos (by omega)]
    rw [trail_succ, trail_succ, trail_take xs q n j (by omega), e]
theorem waitR_take {xs : List Int} {q : Int} {j : Nat} (h : j ≤ xs.length) : waitR (xs.take j) q = trail xs q j := by
  unfold waitR
  rw [List.length_take, Nat.min_eq_left h]
  exact trail_take xs q j j (Nat.le_refl _)
theorem leastF_le {c : Nat} (hc : 1 ≤ c) (hc8 : c ≤ 8) {xs : List Int} (hx : ∀ x ∈ xs, 0 ≤ x ∧ x < 8) (k : Int) : ∀ j, j ≤ xs.length → (leastF c xs j ≤ k ↔ 1 ≤ k ∧ ∀ i, i < j + 1 → ∀ q, q < c → (trail xs q i : Int) < k)
  | 0, _ => by
    show (1 : Int) ≤ k ↔ _
    constructor
    · intro h; exact ⟨h, fun i hi q _ => by obtain rfl : i = 0 := by omega
                                            show ((0 : Nat) : Int) < k
                                            omega⟩
    · intro h; exact h.1
  | j + 1, h => by
    have ih := leastF_le hc hc8 hx k j (by omega)
    have ht := topW_le hc hc8 (xs := xs.take (j + 1)) (fun x hx' => hx x (List.mem_of_mem_take hx')) k
    have e : leastF c xs (j + 1) = max (leastF c xs j) (1 + topW c (xs.take (j + 1))) := rfl
    rw [e]
    have hw : ∀ q : Nat, waitR (xs.take (j + 1)) (q : Int) = trail xs q (j + 1) := fun q => waitR_take h
    constructor
    · intro hm
      have h1 := ih.1 (by omega)
      have h2 := ht.1 (by omega)
      refine ⟨h1.1, fun i hi q hq => ?_⟩
      rcases Nat.lt_or_ge i (j + 1) with h3 | h3
      · exact h1.2 i h3 q hq
      · obtain rfl : i = j + 1 := by omega
        have := h2 q hq
        rwa [hw] at this
    · rintro ⟨h1, h2⟩
      have h3 := ih.2 ⟨h1, fun i hi => h2 i (by omega)⟩
      have h4 := ht.2 (fun q hq => by rw [hw]; exact h2 (j + 1) (by omega) q hq)
      omega
theorem fairP_least {c : Nat} (hc : 1 ≤ c) (hc8 : c ≤ 8) {xs : List Int} (hx : ∀ x ∈ xs, 0 ≤ x ∧ x < 8) (k : Int) : FairP c xs k ↔ leastF c xs xs.length ≤ k :=
  (leastF_le hc hc8 hx k xs.length (Nat.le_refl _)).symm
end Go.Proofs.Ytijofgbealikaaa
