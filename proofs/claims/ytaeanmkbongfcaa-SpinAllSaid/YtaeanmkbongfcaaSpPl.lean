/- Chapter 05: plain laws of the ticket lock: at most one inside, in the order of tickets; all come on if all are picked. No condition. -/
import Derived.Test.YtaeanmkbongfcaaSp17
namespace Go.Proofs.Ytaeanmkbongfcaa
open Go.RowKit
def tkM (N S : Nat) : MSt := ([(N : Int), (S : Int)], [true, true], false)
def gS (l : List Spn) (i : Nat) : Spn := l[i]?.getD (0, 0, 0)
theorem gS_set (l : List Spn) (k j : Nat) (s : Spn) (hk : k < l.length) : gS (l.set k s) j = if j = k then s else gS l j := set_get l k j s (0, 0, 0) hk
theorem cnt_set (P : Spn → Bool) : ∀ (l : List Spn) (i : Nat) (s : Spn), i < l.length → (l.set i s).countP P + (if P (gS l i) = true then 1 else 0) = l.countP P + (if P s = true then 1 else 0)
  | [], i, s, h => absurd h (by simp)
  | x :: l, 0, s, _ => by
    simp only [List.set_cons_zero, List.countP_cons, gS, List.getElem?_cons_zero, Option.getD_some]
    by_cases h1 : P x = true <;> by_cases h2 : P s = true <;> simp [h1, h2]
  | x :: l, i + 1, s, h => by
    have := cnt_set P l i s (by simpa using h)
    simp only [List.set_cons_succ, List.countP_cons, gS, List.getElem?_cons_succ] at this ⊢
    by_cases h1 : P x = true <;> by_cases h2 : P s = true <;> by_cases h3 : P (l[i]?.getD (0, 0, 0)) = true <;> simp [h1, h2, h3] at this ⊢ <;> omega
/-- one step: next ticket, turn, phase, ticket -/
def tk1 (N S : Nat) (p t : Int) : Nat × Nat × Int × Int :=
  if p = 0 then (N, S, 1, N) else if p = 1 then (if (N : Int) = t then (N + 1, S, 2, t) else (N, S, 0, 0))
  else if p = 2 then (if (S : Int) = t then (N, S, 3, t) else (N, S, 2, t)) else if p = 3 then (N, S + 1, 5, t) else (N, S, p, t)
theorem incU_small {t : Int} (h0 : 0 ≤ t) (h1 : t ≤ 1000000) : incU t = t + 1 := by
  unfold incU; rw [IntKind.wrap_u64]; omega
theorem goodAt_tk (N S : Nat) : goodAt (tkM N S) 0 = true ∧ goodAt (tkM N S) 1 = true := ⟨rfl, rfl⟩
theorem inc64_zero : inc64 0 = 1 := by unfold inc64 wrap64; omega
theorem set_self (l : List Spn) (i : Nat) (hi : i < l.length) : l.set i (gS l i) = l := by
  apply List.ext_getElem?
  intro j
  rw [List.getElem?_set]
  split
  · rename_i h; subst h
    simp [gS, hi]
  · rfl
theorem tk_step (N S : Nat) (l : List Spn) (i : Nat) (hi : i < l.length) (h0 : (gS l i).1 = 0) (hp : (gS l i).2.1 = 0 ∨ (gS l i).2.1 = 1 ∨ (gS l i).2.1 = 2 ∨ (gS l i).2.1 = 3 ∨ (gS l i).2.1 = 5)
    (ht : 0 ≤ (gS l i).2.2 ∧ (gS l i).2.2 ≤ 1000000) (h3 : (gS l i).2.1 = 3 → (gS l i).2.2 = S) :
    pstepF (tkM N S) l i = (tkM (tk1 N S (gS l i).2.1 (gS l i).2.2).1 (tk1 N S (gS l i).2.1 (gS l i).2.2).2.1, l.set i (0, (tk1 N S (gS l i).2.1 (gS l i).2.2).2.2)) := by
  rcases hs : gS l i with ⟨a, p, t⟩
  rw [hs] at h0 hp ht h3
  have hs' : l[i]?.getD (0, 0, 0) = (a, p, t) := hs
  dsimp only at h0 hp ht h3 ⊢
  subst h0
  have hset := set_self l i hi
  rw [hs] at hset
  unfold pstepF
  rw [hs']
  have hU := incU_small ht.1 ht.2
  rcases hp with rfl | rfl | rfl | rfl | rfl
  · rw [show spUp (0, 0, t) = (0, 0, t) from rfl, if_pos (show spHas 0 by decide)]
    rfl
  · rw [show spUp (0, 1, t) = (0, 1, t) from rfl, if_pos (show spHas 1 by decide), show spNeed (0, 1, t) = (3, 0, t, incU t) from rfl, hU]
    unfold tk1
    rw [if_neg (show ¬ (1 : Int) = 0 by decide), if_pos rfl]
    by_cases h : (N : Int) = t
    · subst h
      have e1 : stepM (tkM N S) (3, 0, (N : Int), (N : Int) + 1) = (tkM (N + 1) S, ((N : Int), true)) := by
        unfold stepM
        rw [if_neg (by rw [(goodAt_tk N S).1]; decide), if_neg (show ¬ ((3 : Int) = 1) by decide), if_neg (fun hh => hh.2 rfl)]
        rfl
      rw [e1, if_pos rfl]
      rfl
    · have e1 : stepM (tkM N S) (3, 0, t, t + 1) = (tkM N S, ((N : Int), false)) := by
        unfold stepM
        rw [if_neg (by rw [(goodAt_tk N S).1]; decide), if_neg (show ¬ ((3 : Int) = 1) by decide), if_pos ⟨rfl, h⟩]
        rfl
      rw [e1, if_neg h]
      rfl
  · rw [show spUp (0, 2, t) = (0, 2, t) from rfl, if_pos (show spHas 2 by decide), show spNeed (0, 2, t) = (1, 1, 0, 0) by show ((1 : Int), inc64 0, (0 : Int), (0 : Int)) = _; rw [inc64_zero]]
    have e1 : stepM (tkM N S) (1, 1, 0, 0) = (tkM N S, ((S : Int), true)) := rfl
    rw [e1]
    unfold tk1
    rw [if_neg (show ¬ (2 : Int) = 0 by decide), if_neg (show ¬ (2 : Int) = 1 by decide), if_pos rfl]
    by_cases h : (S : Int) = t
    · subst h
      rw [if_pos rfl]
      dsimp only
      rw [show spTake (0, 2, (S : Int)) ((S : Int), true) = (0, 3, (S : Int)) by unfold spTake; simp]
    · rw [if_neg h]
      dsimp only
      rw [show spTake (0, 2, t) ((S : Int), true) = (0, 2, t) by unfold spTake; simp [h]]
  · have := h3 rfl
    subst this
    have e1 : stepM (tkM N S) (2, 1, 0, (S : Int) + 1) = (tkM N (S + 1), ((S : Int), true)) := by
      unfold stepM
      rw [if_neg (by rw [(goodAt_tk N S).2]; decide), if_neg (show ¬ ((2 : Int) = 1) by decide), if_neg (fun hh => absurd (show (2 : Int) = 3 from hh.1) (by decide))]
      rfl
    rw [show spUp (0, 3, (S : Int)) = (0, 4, (S : Int)) from rfl, if_pos (show spHas 4 by decide), show spNeed (0, 4, (S : Int)) = (2, 1, 0, incU S) by show ((2 : Int), inc64 0, (0 : Int), incU (S : Int)) = _; rw [inc64_zero], hU, e1]
    rfl
  · rw [show spUp (0, 5, t) = (0, 5, t) from rfl, if_neg (show ¬ spHas 5 by decide)]
    show (tkM N S, l) = (tkM N S, l.set i (0, 5, t))
    rw [hset]
/-- what plays of one lock keep: N tickets are taken, S have let go; od came to hold it -/
structure TkI (N S : Nat) (l : List Spn) (od : List Int) : Prop where
  at0 : ∀ i, (gS l i).1 = 0
  ph : ∀ i, (gS l i).2.1 = 0 ∨ (gS l i).2.1 = 1 ∨ (gS l i).2.1 = 2 ∨ (gS l i).2.1 = 3 ∨ (gS l i).2.1 = 5
  z0 : ∀ i, (gS l i).2.1 = 0 → (gS l i).2.2 = 0
  t0 : ∀ i, 0 ≤ (gS l i).2.2 ∧ (gS l i).2.2 ≤ N
  lt : ∀ i, 2 ≤ (gS l i).2.1 → (gS l i).2.2 < N
  two : ∀ i j, 2 ≤ (gS l i).2.1 → 2 ≤ (gS l j).2.1 → (gS l i).2.2 = (gS l j).2.2 → i = j
  w2 : ∀ i, (gS l i).2.1 = 2 → (S : Int) ≤ (gS l i).2.2
  w3 : ∀ i, (gS l i).2.1 = 3 → (gS l i).2.2 = S
  w5 : ∀ i, (gS l i).2.1 = 5 → (gS l i).2.2 < S
  ns : S ≤ N
  cN : l.countP (fun s => decide (2 ≤ s.2.1)) = N
  cS : l.countP (fun s => decide (s.2.1 = 5)) = S
  cO : l.countP (fun s => decide (3 ≤ s.2.1)) = od.length
  om : ∀ k, k < od.length → ∃ i : Nat, od[k]? = some (i : Int) ∧ 3 ≤ (gS l i).2.1 ∧ (gS l i).2.2 = k
  full : ∀ t : Nat, t < N → ∃ i : Nat, 2 ≤ (gS l i).2.1 ∧ (gS l i).2.2 = t
theorem TkI.in_ {l : List Spn} {i : Nat} (h : 1 ≤ (gS l i).2.1) : i < l.length := by
  rcases Nat.lt_or_ge i l.length with h1 | h1
  · exact h1
  · rw [gS, List.getElem?_eq_none h1] at h
    exact absurd h (by decide)
theorem TkI.cnt_no {l : List Spn} (hp : ∀ i, (gS l i).2.1 = 0 ∨ (gS l i).2.1 = 1 ∨ (gS l i).2.1 = 2 ∨ (gS l i).2.1 = 3 ∨ (gS l i).2.1 = 5) (h : ∀ i, (gS l i).2.1 ≠ 3) : l.countP (fun s => decide (3 ≤ s.2.1)) = l.countP (fun s => decide (s.2.1 = 5)) := by
  refine List.countP_congr fun x hx => ?_
  obtain ⟨i, hi, rfl⟩ := List.mem_iff_getElem.1 hx
  have e : gS l i = l[i] := by simp [gS, hi]
  have h1 := hp i
  have h2 := h i
  rw [e] at h1 h2
  simp only [decide_eq_true_eq]
  omega
theorem TkI.stepA {N S : Nat} {l : List Spn} {od : List Int} (h : TkI N S l od) {i : Nat} (hi : i < l.length) {t : Int} (hp : (gS l i).2.1 = 0) (ht : (gS l i).2.2 = t) : TkI (N) (S) (l.set i (0, 1, (N : Int))) (od) := by
  have G := fun j => gS_set l i j (0, 1, (N : Int)) hi
  have qp := h.ph i; have qt := h.t0 i; have ql := h.lt i; have q2 := h.w2 i; have q3 := h.w3 i; have qn := h.ns
  rw [hp] at ql q2 q3
  rw [ht] at qt ql q2 q3
  exact {
  at0 := fun j => by
      by_cases hj : j = i
      · rw [G j, if_pos hj]
      · rw [G j, if_neg hj]; exact h.at0 j,
    ph := fun j => by
      have q := h.ph j; have u := h.t0 j
      by_cases hj : j = i
      · rw [G j, if_pos hj]; dsimp only; omega
      · rw [G j, if_neg hj]; omega,
    z0 := fun j => by
      have q := h.z0 j; have u := h.t0 j
      by_cases hj : j = i
      · rw [G j, if_pos hj]; dsimp only; omega
      · rw [G j, if_neg hj]; omega,
    t0 := fun j => by
      have q := h.t0 j; have u := h.t0 j
      by_cases hj : j = i
      · rw [G j, if_pos hj]; dsimp only; omega
      · rw [G j, if_neg hj]; omega,
    lt := fun j => by
      have q := h.lt j; have u := h.t0 j
      by_cases hj : j = i
      · rw [G j, if_pos hj]; dsimp only; omega
      · rw [G j, if_neg hj]; omega,
    two := fun j k hj2 hk2 he => by
      have u := h.lt j; have v := h.lt k
      by_cases hj : j = i
      · by_cases hk : k = i
        · rw [hj, hk]
        · rw [G j, if_pos hj] at hj2 he
          rw [G k, if_neg hk] at hk2 he
          dsimp only at hj2 he
          omega
      · by_cases hk : k = i
        · rw [G j, if_neg hj] at hj2 he
          rw [G k, if_pos hk] at hk2 he
          dsimp only at hk2 he
          omega
        · rw [G j, if_neg hj] at hj2 he
          rw [G k, if_neg hk] at hk2 he
          exact h.two j k hj2 hk2 he,
    w2 := fun j => by
      have q := h.w2 j; have u := h.t0 j
      by_cases hj : j = i
      · rw [G j, if_pos hj]; dsimp only; omega
      · rw [G j, if_neg hj]; omega,
    w3 := fun j => by
      have q := h.w3 j; have u := h.t0 j
      by_cases hj : j = i
      · rw [G j, if_pos hj]; dsimp only; omega
      · rw [G j, if_neg hj]; omega,
    w5 := fun j => by
      have q := h.w5 j; have u := h.t0 j
      by_cases hj : j = i
      · rw [G j, if_pos hj]; dsimp only; omega
      · rw [G j, if_neg hj]; omega,
    ns := by omega,
    cN := by
      have c := cnt_set (fun s => decide (2 ≤ s.2.1)) l i (0, 1, (N : Int)) hi
      rw [h.cN] at c
      simp only [hp] at c
      revert c
      simp
      try omega,
    cS := by
      have c := cnt_set (fun s => decide (s.2.1 = 5)) l i (0, 1, (N : Int)) hi
      rw [h.cS] at c
      simp only [hp] at c
      revert c
      simp
      try omega,
    cO := by
      have c := cnt_set (fun s => decide (3 ≤ s.2.1)) l i (0, 1, (N : Int)) hi
      rw [h.cO] at c
      simp only [hp] at c
      revert c
      simp
      try omega,
    om := fun k hk => by
      obtain ⟨m, h1, h2, h3⟩ := h.om k hk
      have hm : m ≠ i := fun e => by rw [e, hp] at h2; omega
      exact ⟨m, h1, by rw [G m, if_neg hm]; exact h2, by rw [G m, if_neg hm]; exact h3⟩,
    full := fun x hx => by
      obtain ⟨m, h1, h2⟩ := h.full x hx
      have hm : m ≠ i := fun e => by rw [e, hp] at h1; omega
      exact ⟨m, by rw [G m, if_neg hm]; exact h1, by rw [G m, if_neg hm]; exact h2⟩ }
theorem TkI.stepB {N S : Nat} {l : List Spn} {od : List Int} (h : TkI N S l od) {i : Nat} (hi : i < l.length) {t : Int} (hp : (gS l i).2.1 = 1) (ht : (gS l i).2.2 = t) (hN : (N : Int) = t) : TkI (N + 1) (S) (l.set i (0, 2, t)) (od) := by
  have G := fun j => gS_set l i j (0, 2, t) hi
  have qp := h.ph i; have qt := h.t0 i; have ql := h.lt i; have q2 := h.w2 i; have q3 := h.w3 i; have qn := h.ns
  rw [hp] at ql q2 q3
  rw [ht] at qt ql q2 q3
  exact {
  at0 := fun j => by
      by_cases hj : j = i
      · rw [G j, if_pos hj]
      · rw [G j, if_neg hj]; exact h.at0 j,
    ph := fun j => by
      have q := h.ph j; have u := h.t0 j
      by_cases hj : j = i
      · rw [G j, if_pos hj]; dsimp only; omega
      · rw [G j, if_neg hj]; omega,
    z0 := fun j => by
      have q := h.z0 j; have u := h.t0 j
      by_cases hj : j = i
      · rw [G j, if_pos hj]; dsimp only; omega
      · rw [G j, if_neg hj]; omega,
    t0 := fun j => by
      have q := h.t0 j; have u := h.t0 j
      by_cases hj : j = i
      · rw [G j, if_pos hj]; dsimp only; omega
      · rw [G j, if_neg hj]; omega,
    lt := fun j => by
      have q := h.lt j; have u := h.t0 j
      by_cases hj : j = i
      · rw [G j, if_pos hj]; dsimp only; omega
      · rw [G j, if_neg hj]; omega,
    two := fun j k hj2 hk2 he => by
      have u := h.lt j; have v := h.lt k
      by_cases hj : j = i
      · by_cases hk : k = i
        · rw [hj, hk]
        · rw [G j, if_pos hj] at hj2 he
          rw [G k, if_neg hk] at hk2 he
          dsimp only at hj2 he
          omega
      · by_cases hk : k = i
        · rw [G j, if_neg hj] at hj2 he
          rw [G k, if_pos hk] at hk2 he
          dsimp only at hk2 he
          omega
        · rw [G j, if_neg hj] at hj2 he
          rw [G k, if_neg hk] at hk2 he
          exact h.two j k hj2 hk2 he,
    w2 := fun j => by
      have q := h.w2 j; have u := h.t0 j
      by_cases hj : j = i
      · rw [G j, if_pos hj]; dsimp only; omega
      · rw [G j, if_neg hj]; omega,
    w3 := fun j => by
      have q := h.w3 j; have u := h.t0 j
      by_cases hj : j = i
      · rw [G j, if_pos hj]; dsimp only; omega
      · rw [G j, if_neg hj]; omega,
    w5 := fun j => by
      have q := h.w5 j; have u := h.t0 j
      by_cases hj : j = i
      · rw [G j, if_pos hj]; dsimp only; omega
      · rw [G j, if_neg hj]; omega,
    ns := by omega,
    cN := by
      have c := cnt_set (fun s => decide (2 ≤ s.2.1)) l i (0, 2, t) hi
      rw [h.cN] at c
      simp only [hp] at c
      revert c
      simp
      try omega,
    cS := by
      have c := cnt_set (fun s => decide (s.2.1 = 5)) l i (0, 2, t) hi
      rw [h.cS] at c
      simp only [hp] at c
      revert c
      simp
      try omega,
    cO := by
      have c := cnt_set (fun s => decide (3 ≤ s.2.1)) l i (0, 2, t) hi
      rw [h.cO] at c
      simp only [hp] at c
      revert c
      simp
      try omega,
    om := fun k hk => by
      obtain ⟨m, h1, h2, h3⟩ := h.om k hk
      have hm : m ≠ i := fun e => by rw [e, hp] at h2; omega
      exact ⟨m, h1, by rw [G m, if_neg hm]; exact h2, by rw [G m, if_neg hm]; exact h3⟩,
    full := fun x hx => by
      by_cases hx' : x = N
      · exact ⟨i, by rw [G i, if_pos rfl]; dsimp only; omega, by rw [G i, if_pos rfl]; dsimp only; omega⟩
      · obtain ⟨m, h1, h2⟩ := h.full x (by omega)
        have hm : m ≠ i := fun e => by rw [e, hp] at h1; omega
        exact ⟨m, by rw [G m, if_neg hm]; exact h1, by rw [G m, if_neg hm]; exact h2⟩ }
theorem TkI.stepB0 {N S : Nat} {l : List Spn} {od : List Int} (h : TkI N S l od) {i : Nat} (hi : i < l.length) {t : Int} (hp : (gS l i).2.1 = 1) (ht : (gS l i).2.2 = t) : TkI (N) (S) (l.set i (0, 0, 0)) (od) := by
  have G := fun j => gS_set l i j (0, 0, 0) hi
  have qp := h.ph i; have qt := h.t0 i; have ql := h.lt i; have q2 := h.w2 i; have q3 := h.w3 i; have qn := h.ns
  rw [hp] at ql q2 q3
  rw [ht] at qt ql q2 q3
  exact {
  at0 := fun j => by
      by_cases hj : j = i
      · rw [G j, if_pos hj]
      · rw [G j, if_neg hj]; exact h.at0 j,
    ph := fun j => by
      have q := h.ph j; have u := h.t0 j
      by_cases hj : j = i
      · rw [G j, if_pos hj]; dsimp only; omega
      · rw [G j, if_neg hj]; omega,
    z0 := fun j => by
      have q := h.z0 j; have u := h.t0 j
      by_cases hj : j = i
      · rw [G j, if_pos hj]; dsimp only; omega
      · rw [G j, if_neg hj]; omega,
    t0 := fun j => by
      have q := h.t0 j; have u := h.t0 j
      by_cases hj : j = i
      · rw [G j, if_pos hj]; dsimp only; omega
      · rw [G j, if_neg hj]; omega,
    lt := fun j => by
      have q := h.lt j; have u := h.t0 j
      by_cases hj : j = i
      · rw [G j, if_pos hj]; dsimp only; omega
      · rw [G j, if_neg hj]; omega,
    two := fun j k hj2 hk2 he => by
      have u := h.lt j; have v := h.lt k
      by_cases hj : j = i
      · by_cases hk : k = i
        · rw [hj, hk]
        · rw [G j, if_pos hj] at hj2 he
          rw [G k, if_neg hk] at hk2 he
          dsimp only at hj2 he
          omega
      · by_cases hk : k = i
        · rw [G j, if_neg hj] at hj2 he
          rw [G k, if_pos hk] at hk2 he
          dsimp only at hk2 he
          omega
        · rw [G j, if_neg hj] at hj2 he
          rw [G k, if_neg hk] at hk2 he
          exact h.two j k hj2 hk2 he,
    w2 := fun j => by
      have q := h.w2 j; have u := h.t0 j
      by_cases hj : j = i
      · rw [G j, if_pos hj]; dsimp only; omega
      · rw [G j, if_neg hj]; omega,
    w3 := fun j => by
      have q := h.w3 j; have u := h.t0 j
      by_cases hj : j = i
      · rw [G j, if_pos hj]; dsimp only; omega
      · rw [G j, if_neg hj]; omega,
    w5 := fun j => by
      have q := h.w5 j; have u := h.t0 j
      by_cases hj : j = i
      · rw [G j, if_pos hj]; dsimp only; omega
      · rw [G j, if_neg hj]; omega,
    ns := by omega,
    cN := by
      have c := cnt_set (fun s => decide (2 ≤ s.2.1)) l i (0, 0, 0) hi
      rw [h.cN] at c
      simp only [hp] at c
      revert c
      simp
      try omega,
    cS := by
      have c := cnt_set (fun s => decide (s.2.1 = 5)) l i (0, 0, 0) hi
      rw [h.cS] at c
      simp only [hp] at c
      revert c
      simp
      try omega,
    cO := by
      have c := cnt_set (fun s => decide (3 ≤ s.2.1)) l i (0, 0, 0) hi
      rw [h.cO] at c
      simp only [hp] at c
      revert c
      simp
      try omega,
    om := fun k hk => by
      obtain ⟨m, h1, h2, h3⟩ := h.om k hk
      have hm : m ≠ i := fun e => by rw [e, hp] at h2; omega
      exact ⟨m, h1, by rw [G m, if_neg hm]; exact h2, by rw [G m, if_neg hm]; exact h3⟩,
    full := fun x hx => by
      obtain ⟨m, h1, h2⟩ := h.full x hx
      have hm : m ≠ i := fun e => by rw [e, hp] at h1; omega
      exact ⟨m, by rw [G m, if_neg hm]; exact h1, by rw [G m, if_neg hm]; exact h2⟩ }
theorem TkI.stepC {N S : Nat} {l : List Spn} {od : List Int} (h : TkI N S l od) {i : Nat} (hi : i < l.length) {t : Int} (hp : (gS l i).2.1 = 2) (ht : (gS l i).2.2 = t) (hS : (S : Int) = t) : TkI (N) (S) (l.set i (0, 3, t)) (od ++ [(i : Int)]) := by
  have G := fun j => gS_set l i j (0, 3, t) hi
  have qp := h.ph i; have qt := h.t0 i; have ql := h.lt i; have q2 := h.w2 i; have q3 := h.w3 i; have qn := h.ns
  rw [hp] at ql q2 q3
  rw [ht] at qt ql q2 q3
  have h3n : ∀ j, (gS l j).2.1 ≠ 3 := fun j hj => by
    have h1 := h.w3 j hj
    have h2 := h.two j i (by omega) (by omega) (by omega)
    rw [h2, hp] at hj; omega
  have hc := TkI.cnt_no h.ph h3n
  rw [h.cO, h.cS] at hc
  exact {
  at0 := fun j => by
      by_cases hj : j = i
      · rw [G j, if_pos hj]
      · rw [G j, if_neg hj]; exact h.at0 j,
    ph := fun j => by
      have q := h.ph j; have u := h.t0 j
      by_cases hj : j = i
      · rw [G j, if_pos hj]; dsimp only; omega
      · rw [G j, if_neg hj]; omega,
    z0 := fun j => by
      have q := h.z0 j; have u := h.t0 j
      by_cases hj : j = i
      · rw [G j, if_pos hj]; dsimp only; omega
      · rw [G j, if_neg hj]; omega,
    t0 := fun j => by
      have q := h.t0 j; have u := h.t0 j
      by_cases hj : j = i
      · rw [G j, if_pos hj]; dsimp only; omega
      · rw [G j, if_neg hj]; omega,
    lt := fun j => by
      have q := h.lt j; have u := h.t0 j
      by_cases hj : j = i
      · rw [G j, if_pos hj]; dsimp only; omega
      · rw [G j, if_neg hj]; omega,
    two := fun j k hj2 hk2 he => by
      have u := h.lt j; have v := h.lt k; have x := h.two i j; have y := h.two i k
      by_cases hj : j = i
      · by_cases hk : k = i
        · rw [hj, hk]
        · rw [G j, if_pos hj] at hj2 he
          rw [G k, if_neg hk] at hk2 he
          rw [hp, ht] at y
          dsimp only at hj2 he
          exact absurd (y (by omega) hk2 he) (Ne.symm hk)
      · by_cases hk : k = i
        · rw [G j, if_neg hj] at hj2 he
          rw [G k, if_pos hk] at hk2 he
          rw [hp, ht] at x
          dsimp only at hk2 he
          exact absurd (x (by omega) hj2 he.symm) (Ne.symm hj)
        · rw [G j, if_neg hj] at hj2 he
          rw [G k, if_neg hk] at hk2 he
          exact h.two j k hj2 hk2 he,
    w2 := fun j => by
      have q := h.w2 j; have u := h.t0 j
      by_cases hj : j = i
      · rw [G j, if_pos hj]; dsimp only; omega
      · rw [G j, if_neg hj]; omega,
    w3 := fun j => by
      have q := h.w3 j; have u := h.t0 j
      by_cases hj : j = i
      · rw [G j, if_pos hj]; dsimp only; omega
      · rw [G j, if_neg hj]; omega,
    w5 := fun j => by
      have q := h.w5 j; have u := h.t0 j
      by_cases hj : j = i
      · rw [G j, if_pos hj]; dsimp only; omega
      · rw [G j, if_neg hj]; omega,
    ns := by omega,
    cN := by
      have c := cnt_set (fun s => decide (2 ≤ s.2.1)) l i (0, 3, t) hi
      rw [h.cN] at c
      simp only [hp] at c
      revert c
      simp
      try omega,
    cS := by
      have c := cnt_set (fun s => decide (s.2.1 = 5)) l i (0, 3, t) hi
      rw [h.cS] at c
      simp only [hp] at c
      revert c
      simp
      try omega,
    cO := by
      have c := cnt_set (fun s => decide (3 ≤ s.2.1)) l i (0, 3, t) hi
      rw [h.cO] at c
      simp only [hp] at c
      rw [List.length_append]
      revert c
      simp
      try omega,
    om := fun k hk => by
      rw [List.length_append, List.length_singleton] at hk
      by_cases hk' : k < od.length
      · obtain ⟨m, h1, h2, h3⟩ := h.om k hk'
        have hm : m ≠ i := fun e => by rw [e, hp] at h2; omega
        exact ⟨m, by rw [List.getElem?_append_left hk']; exact h1, by rw [G m, if_neg hm]; exact h2, by rw [G m, if_neg hm]; exact h3⟩
      · obtain rfl : k = od.length := by omega
        exact ⟨i, by simp, by rw [G i, if_pos rfl]; dsimp only; omega, by rw [G i, if_pos rfl]; dsimp only; omega⟩,
    full := fun x hx => by
      obtain ⟨m, h1, h2⟩ := h.full x hx
      refine ⟨m, ?_, ?_⟩ <;> rw [G m] <;> (by_cases hm : m = i)
      · rw [if_pos hm]; dsimp only; omega
      · rw [if_neg hm]; exact h1
      · rw [if_pos hm]; rw [hm, ht] at h2; exact h2
      · rw [if_neg hm]; exact h2 }
theorem TkI.stepD {N S : Nat} {l : List Spn} {od : List Int} (h : TkI N S l od) {i : Nat} (hi : i < l.length) {t : Int} (hp : (gS l i).2.1 = 3) (ht : (gS l i).2.2 = t) : TkI (N) (S + 1) (l.set i (0, 5, t)) (od) := by
  have G := fun j => gS_set l i j (0, 5, t) hi
  have qp := h.ph i; have qt := h.t0 i; have ql := h.lt i; have q2 := h.w2 i; have q3 := h.w3 i; have qn := h.ns
  rw [hp] at ql q2 q3
  rw [ht] at qt ql q2 q3
  exact {
  at0 := fun j => by
      by_cases hj : j = i
      · rw [G j, if_pos hj]
      · rw [G j, if_neg hj]; exact h.at0 j,
    ph := fun j => by
      have q := h.ph j; have u := h.t0 j
      by_cases hj : j = i
      · rw [G j, if_pos hj]; dsimp only; omega
      · rw [G j, if_neg hj]; omega,
    z0 := fun j => by
      have q := h.z0 j; have u := h.t0 j
      by_cases hj : j = i
      · rw [G j, if_pos hj]; dsimp only; omega
      · rw [G j, if_neg hj]; omega,
    t0 := fun j => by
      have q := h.t0 j; have u := h.t0 j
      by_cases hj : j = i
      · rw [G j, if_pos hj]; dsimp only; omega
      · rw [G j, if_neg hj]; omega,
    lt := fun j => by
      have q := h.lt j; have u := h.t0 j
      by_cases hj : j = i
      · rw [G j, if_pos hj]; dsimp only; omega
      · rw [G j, if_neg hj]; omega,
    two := fun j k hj2 hk2 he => by
      have u := h.lt j; have v := h.lt k; have x := h.two i j; have y := h.two i k
      by_cases hj : j = i
      · by_cases hk : k = i
        · rw [hj, hk]
        · rw [G j, if_pos hj] at hj2 he
          rw [G k, if_neg hk] at hk2 he
          rw [hp, ht] at y
          dsimp only at hj2 he
          exact absurd (y (by omega) hk2 he) (Ne.symm hk)
      · by_cases hk : k = i
        · rw [G j, if_neg hj] at hj2 he
          rw [G k, if_pos hk] at hk2 he
          rw [hp, ht] at x
          dsimp only at hk2 he
          exact absurd (x (by omega) hj2 he.symm) (Ne.symm hj)
        · rw [G j, if_neg hj] at hj2 he
          rw [G k, if_neg hk] at hk2 he
          exact h.two j k hj2 hk2 he,
    w2 := fun j => by
      have q := h.w2 j; have u := h.t0 j
      by_cases hj : j = i
      · rw [G j, if_pos hj]; dsimp only; omega
      · rw [G j, if_neg hj]; have v : ¬ (2 ≤ (gS l j).2.1 ∧ (gS l j).2.2 = t) := fun hh => hj (h.two j i hh.1 (by omega) (by rw [ht]; exact hh.2)); omega,
    w3 := fun j => by
      have q := h.w3 j; have u := h.t0 j
      by_cases hj : j = i
      · rw [G j, if_pos hj]; dsimp only; omega
      · rw [G j, if_neg hj]; have v : ¬ (2 ≤ (gS l j).2.1 ∧ (gS l j).2.2 = t) := fun hh => hj (h.two j i hh.1 (by omega) (by rw [ht]; exact hh.2)); omega,
    w5 := fun j => by
      have q := h.w5 j; have u := h.t0 j
      by_cases hj : j = i
      · rw [G j, if_pos hj]; dsimp only; omega
      · rw [G j, if_neg hj]; have v : ¬ (2 ≤ (gS l j).2.1 ∧ (gS l j).2.2 = t) := fun hh => hj (h.two j i hh.1 (by omega) (by rw [ht]; exact hh.2)); omega,
    ns := by omega,
    cN := by
      have c := cnt_set (fun s => decide (2 ≤ s.2.1)) l i (0, 5, t) hi
      rw [h.cN] at c
      simp only [hp] at c
      revert c
      simp
      try omega,
    cS := by
      have c := cnt_set (fun s => decide (s.2.1 = 5)) l i (0, 5, t) hi
      rw [h.cS] at c
      simp only [hp] at c
      revert c
      simp
      try omega,
    cO := by
      have c := cnt_set (fun s => decide (3 ≤ s.2.1)) l i (0, 5, t) hi
      rw [h.cO] at c
      simp only [hp] at c
      revert c
      simp
      try omega,
    om := fun k hk => by
      obtain ⟨m, h1, h2, h3⟩ := h.om k hk
      refine ⟨m, h1, ?_, ?_⟩ <;> rw [G m] <;> (by_cases hm : m = i)
      · rw [if_pos hm]; dsimp only; omega
      · rw [if_neg hm]; exact h2
      · rw [if_pos hm]; rw [hm, ht] at h3; exact h3
      · rw [if_neg hm]; exact h3,
    full := fun x hx => by
      obtain ⟨m, h1, h2⟩ := h.full x hx
      refine ⟨m, ?_, ?_⟩ <;> rw [G m] <;> (by_cases hm : m = i)
      · rw [if_pos hm]; dsimp only; omega
      · rw [if_neg hm]; exact h1
      · rw [if_pos hm]; rw [hm, ht] at h2; exact h2
      · rw [if_neg hm]; exact h2 }
theorem TkI.step {N S : Nat} {l : List Spn} {od : List Int} (h : TkI N S l od) {i : Nat} (hi : i < l.length) :
    TkI (tk1 N S (gS l i).2.1 (gS l i).2.2).1 (tk1 N S (gS l i).2.1 (gS l i).2.2).2.1 (l.set i (0, (tk1 N S (gS l i).2.1 (gS l i).2.2).2.2)) (od ++ if (gS l i).2.1 = 2 ∧ (S : Int) = (gS l i).2.2 then [(i : Int)] else []) := by
  have h0 := h.at0 i
  have hz := set_self l i hi
  rcases hs : gS l i with ⟨a, p, t⟩
  have hp : (gS l i).2.1 = p := by rw [hs]
  have ht : (gS l i).2.2 = t := by rw [hs]
  rw [hs] at h0 hz
  dsimp only at h0 ⊢
  subst h0
  have hph := h.ph i
  rw [hp] at hph
  unfold tk1
  rcases hph with rfl | rfl | rfl | rfl | rfl
  · rw [if_pos rfl, if_neg (fun h => absurd h.1 (by decide)), List.append_nil]
    exact h.stepA hi hp ht
  · rw [if_neg (show ¬ (1 : Int) = 0 by decide), if_pos rfl, if_neg (show ¬ ((1 : Int) = 2 ∧ _) from fun h => absurd h.1 (by decide)), List.append_nil]
    by_cases hN : (N : Int) = t
    · rw [if_pos hN]; exact h.stepB hi hp ht hN
    · rw [if_neg hN]; exact h.stepB0 hi hp ht
  · rw [if_neg (show ¬ (2 : Int) = 0 by decide), if_neg (show ¬ (2 : Int) = 1 by decide), if_pos rfl]
    by_cases hS : (S : Int) = t
    · rw [if_pos hS, if_pos ⟨rfl, hS⟩]; exact h.stepC hi hp ht hS
    · rw [if_neg hS, if_neg (fun h => hS h.2), List.append_nil]
      dsimp only
      rw [hz]; exact h
  · rw [if_neg (show ¬ (3 : Int) = 0 by decide), if_neg (show ¬ (3 : Int) = 1 by decide), if_neg (show ¬ (3 : Int) = 2 by decide), if_pos rfl, if_neg (show ¬ ((3 : Int) = 2 ∧ _) from fun h => absurd h.1 (by decide)), List.append_nil]
    exact h.stepD hi hp ht
  · rw [if_neg (show ¬ (5 : Int) = 0 by decide), if_neg (show ¬ (5 : Int) = 1 by decide), if_neg (show ¬ (5 : Int) = 2 by decide), if_neg (show ¬ (5 : Int) = 3 by decide), if_neg (show ¬ ((5 : Int) = 2 ∧ _) from fun h => absurd h.1 (by decide)), List.append_nil]
    dsimp only
    rw [hz]; exact h
theorem TkI.le {N S : Nat} {l : List Spn} {od : List Int} (h : TkI N S l od) : N ≤ l.length ∧ od.length ≤ l.length := by
  constructor
  · rw [← h.cN]; exact List.countP_le_length
  · rw [← h.cO]; exact List.countP_le_length
theorem TkI.pstep {N S : Nat} {l : List Spn} {od : List Int} (h : TkI N S l od) (hl : l.length ≤ 1000) {i : Nat} (hi : i < l.length) :
    pstepF (tkM N S) l i = (tkM (tk1 N S (gS l i).2.1 (gS l i).2.2).1 (tk1 N S (gS l i).2.1 (gS l i).2.2).2.1, l.set i (0, (tk1 N S (gS l i).2.1 (gS l i).2.2).2.2)) :=
  tk_step N S l i hi (h.at0 i) (h.ph i) ⟨(h.t0 i).1, by have := (h.t0 i).2; have := h.le.1; omega⟩ (h.w3 i)
theorem TkI.who {N S : Nat} {l : List Spn} {od : List Int} (h : TkI N S l od) (hl : l.length ≤ 1000) {i : Nat} (hi : i < l.length) :
    (if 0 ≤ whoS (tkM N S) l i then [whoS (tkM N S) l i] else []) = if (gS l i).2.1 = 2 ∧ (S : Int) = (gS l i).2.2 then [(i : Int)] else [] := by
  unfold whoS
  rw [Int.toNat_natCast, h.pstep hl hi]
  dsimp only
  rw [show l[i]?.getD (0, 0, 0) = gS l i from rfl, show (l.set i (0, (tk1 N S (gS l i).2.1 (gS l i).2.2).2.2))[i]?.getD (0, 0, 0) = gS (l.set i (0, (tk1 N S (gS l i).2.1 (gS l i).2.2).2.2)) i from rfl, gS_set _ _ _ _ hi, if_pos rfl]
  have hp := h.ph i
  obtain ⟨p, hpe⟩ : ∃ p, p = (gS l i).2.1 := ⟨_, rfl⟩
  obtain ⟨t, hte⟩ : ∃ t, t = (gS l i).2.2 := ⟨_, rfl⟩
  rw [← hpe] at hp
  rw [← hpe, ← hte]
  unfold tk1
  rcases hp with rfl | rfl | rfl | rfl | rfl
  · simp
  · simp; split <;> simp
  · by_cases hS : (S : Int) = t <;> simp [hS]
  · simp
  · simp
/-- plays keep it -/
theorem TkI.play {N S : Nat} {l : List Spn} {od : List Int} (h : TkI N S l od) (hl : l.length ≤ 1000) : ∀ (v : List Int), PkIn l.length v →
    ∃ N' S' l', playS (tkM N S) l v = (tkM N' S', l') ∧ l'.length = l.length ∧ TkI N' S' l' (od ++ heldF (tkM N S) l v) := by
  intro v
  induction v generalizing N S l od with
  | nil => intro _; exact ⟨N, S, l, rfl, rfl, by rw [show heldF (tkM N S) l [] = [] from rfl, List.append_nil]; exact h⟩
  | cons i r ih =>
    intro hv
    have h0 := hv i (by simp)
    obtain ⟨k, rfl⟩ := Int.eq_ofNat_of_zero_le h0.1
    have hk : k < l.length := by omega
    have hs := h.step hk
    have he := h.pstep hl hk
    have hw := h.who hl hk
    obtain ⟨N', S', l', h1, h2, h3⟩ := ih hs (by rw [List.length_set]; exact hl) (by rw [List.length_set]; exact fun j hj => hv j (List.mem_cons_of_mem _ hj))
    refine ⟨N', S', l', ?_, by rw [h2, List.length_set], ?_⟩
    · show playS (pstepF (tkM N S) l (k : Int).toNat).1 (pstepF (tkM N S) l (k : Int).toNat).2 r = _
      rw [Int.toNat_natCast, he]; exact h1
    · show TkI N' S' l' (od ++ ((if 0 ≤ whoS (tkM N S) l k then [whoS (tkM N S) l k] else []) ++ heldF (pstepF (tkM N S) l (k : Int).toNat).1 (pstepF (tkM N S) l (k : Int).toNat).2 r))
      rw [Int.toNat_natCast, he, hw, ← List.append_assoc]; exact h3
theorem tkM_good (N S : Nat) : MGood (tkM N S).1 (tkM N S).2.1 := by
  refine ⟨⟨by show 1 ≤ 2; omega, by show 2 ≤ 4096; omega, rfl⟩, fun k hk => ?_⟩
  have : k = 0 ∨ k = 1 := by have : k < 2 := hk; omega
  rcases this with rfl | rfl <;> rfl
theorem TkI.all {N S : Nat} {l : List Spn} {od : List Int} (h : TkI N S l od) : AllSp l := fun s hs => by
  obtain ⟨i, hi, rfl⟩ := List.mem_iff_getElem.1 hs
  have e : gS l i = l[i] := by simp [gS, hi]
  have h1 := h.at0 i; have h2 := h.ph i; have h3 := h.z0 i
  rw [e] at h1 h2 h3
  exact ⟨by omega, by omega, by omega, h3⟩
theorem vpk_all {n : Nat} {v : List Int} (h : PkIn n v) : vpk n v = v := List.filter_eq_self.2 fun i hi => by simpa using h i hi
/-- what Play of spin hands back -/
theorem TkI.playF {N S : Nat} {l : List Spn} {od : List Int} (h : TkI N S l od) (hl : l.length ≤ 1000) {v : List Int} (hv : PkIn l.length v) :
    ∃ N' S' l', spPlayF (tkM N S) l v = (0, tkM N' S', l', heldF (tkM N S) l v) ∧ l'.length = l.length ∧ TkI N' S' l' (od ++ heldF (tkM N S) l v) := by
  obtain ⟨N', S', l', h1, h2, h3⟩ := h.play hl v hv
  refine ⟨N', S', l', ?_, h2, h3⟩
  unfold spPlayF
  rw [if_neg (not_not_intro (tkM_good N S)), if_neg (not_not_intro h.all), vpk_all hv, h1]
theorem TkI.start (n : Nat) : TkI 0 0 (List.replicate n (0, 0, 0)) [] := by
  have G : ∀ i, gS (List.replicate n (0, 0, 0)) i = (0, 0, 0) := fun i => by
    unfold gS
    rw [List.getElem?_replicate]; split <;> rfl
  have C : ∀ P : Spn → Bool, P (0, 0, 0) = false → (List.replicate n ((0, 0, 0) : Spn)).countP P = 0 := fun P hP => by
    rw [List.countP_eq_zero]
    intro x hx
    rw [List.eq_of_mem_replicate hx, hP]; decide
  exact { at0 := fun i => by rw [G i], ph := fun i => by rw [G i]; exact .inl rfl, z0 := fun i _ => by rw [G i], t0 := fun i => by rw [G i]; exact ⟨Int.le_refl _, Int.le_refl _⟩,
          lt := fun i hh => by rw [G i] at hh; exact absurd hh (by decide), two := fun i j hh => by rw [G i] at hh; exact absurd hh (by decide),
          w2 := fun i hh => by rw [G i] at hh; exact absurd hh (by decide), w3 := fun i hh => by rw [G i] at hh; exact absurd hh (by decide), w5 := fun i hh => by rw [G i] at hh; exact absurd hh (by decide),
          ns := Nat.le_refl _, cN := C _ rfl, cS := C _ rfl, cO := C _ rfl, om := fun k hk => absurd hk (by simp), full := fun t ht => absurd ht (by simp) }
/-- no one comes twice -/
theorem TkI.once {N S : Nat} {l : List Spn} {od : List Int} (h : TkI N S l od) {k : Nat} (hk : k < od.length) : (gS l (od[k]?.getD 0).toNat).2.2 = k ∧ 0 ≤ od[k]?.getD 0 ∧ od[k]?.getD 0 < l.length ∧ od[k]?.getD 0 ∉ od.take k := by
  obtain ⟨m, h1, h2, h3⟩ := h.om k hk
  rw [h1]
  refine ⟨h3, by simp, ?_, fun hm => ?_⟩
  · have := TkI.in_ (l := l) (i := m) (by omega)
    simpa using this
  · obtain ⟨j, hj, he⟩ := List.mem_iff_getElem.1 hm
    rw [List.length_take] at hj
    rw [List.getElem_take] at he
    obtain ⟨m', g1, g2, g3⟩ := h.om j (by omega)
    rw [List.getElem?_eq_getElem (by omega), he] at g1
    simp only [Option.getD_some, Option.some.injEq] at g1
    obtain rfl : m = m' := by omega
    omega
/-- one alone is inside -/
theorem TkI.inside {N S : Nat} {l : List Spn} {od : List Int} (h : TkI N S l od) {i j : Nat} (h1 : (gS l i).2.1 = 3 ∨ (gS l i).2.1 = 4) (h2 : (gS l j).2.1 = 3 ∨ (gS l j).2.1 = 4) : i = j := by
  have p1 := h.ph i; have p2 := h.ph j
  have e1 : (gS l i).2.1 = 3 := by omega
  have e2 : (gS l j).2.1 = 3 := by omega
  exact h.two i j (by omega) (by omega) ((h.w3 i e1).trans (h.w3 j e2).symm)
end Go.Proofs.Ytaeanmkbongfcaa
