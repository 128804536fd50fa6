/- Chapter 05: plain law: if all are picked in each round, all come on. No condition. -/
import Derived.Test.YtaeanmkbongfcaaSpPl
namespace Go.Proofs.Ytaeanmkbongfcaa
/-- how far one is from a ticket -/
def rk (N : Nat) (s : Spn) : Nat := if s.2.1 = 0 then 1 else if (N : Int) = s.2.2 then 0 else 2
theorem rk_le (N : Nat) (s : Spn) : rk N s ≤ 2 := by unfold rk; split <;> (try split) <;> omega
/-- a bound on what is still to be done, by way of j -/
def Wq (N S : Nat) (l : List Spn) (o q j : Nat) : Prop :=
  (N < l.length ∧ (gS l j).2.1 < 2 ∧ j < l.length ∧ 3 * (l.length - N) + rk N (gS l j) + (l.length - S) + (l.length - o) ≤ q) ∨
  (N = l.length ∧ (l.length - S) + (l.length - o) ≤ q ∧ (S < l.length → 2 ≤ (gS l j).2.1 ∧ (gS l j).2.2 = S ∧ j < l.length))
def Dq (N S : Nat) (l : List Spn) (o q : Nat) : Prop := S = l.length ∨ ∃ j, Wq N S l o q j
theorem Wq.mono {N S : Nat} {l : List Spn} {o q j : Nat} (h : Wq N S l o q j) : Wq N S l o (q + 1) j := by
  rcases h with ⟨h1, h2, h3, h4⟩ | ⟨h1, h2, h3⟩
  · exact .inl ⟨h1, h2, h3, by omega⟩
  · exact .inr ⟨h1, by omega, h3⟩
theorem Wq.zero {N S : Nat} {l : List Spn} {o j : Nat} (h : Wq N S l o 0 j) : l.length ≤ S := by
  rcases h with ⟨h1, h2, h3, h4⟩ | ⟨h1, h2, h3⟩ <;> omega
theorem TkI.someone {N S : Nat} {l : List Spn} {od : List Int} (h : TkI N S l od) (hN : N < l.length) : ∃ j, j < l.length ∧ (gS l j).2.1 < 2 := by
  refine Decidable.byContradiction fun hn => ?_
  have : l.countP (fun s => decide (2 ≤ s.2.1)) = l.length := List.countP_eq_length.2 fun x hx => by
    obtain ⟨i, hi, rfl⟩ := List.mem_iff_getElem.1 hx
    have e : gS l i = l[i] := by simp [gS, hi]
    refine decide_eq_true ?_
    rw [← e]
    refine Int.not_lt.1 fun hlt => hn ⟨i, hi, hlt⟩
  rw [h.cN] at this
  omega
theorem TkI.everyone {N S : Nat} {l : List Spn} {od : List Int} (h : TkI N S l od) (hN : N = l.length) {i : Nat} (hi : i < l.length) : 2 ≤ (gS l i).2.1 := by
  have := h.cN
  rw [hN] at this
  have := List.countP_eq_length.1 this l[i] (List.getElem_mem hi)
  have e : gS l i = l[i] := by simp [gS, hi]
  rw [e]
  exact of_decide_eq_true this
theorem TkI.over {N S : Nat} {l : List Spn} {od : List Int} (h : TkI N S l od) (hS : S = l.length) {i : Nat} (hi : i < l.length) : (gS l i).2.1 = 5 := by
  have := h.cS
  rw [hS] at this
  have := List.countP_eq_length.1 this l[i] (List.getElem_mem hi)
  have e : gS l i = l[i] := by simp [gS, hi]
  rw [e]
  exact of_decide_eq_true this
theorem Wq.step {N S : Nat} {l : List Spn} {od : List Int} (h : TkI N S l od) {q j i : Nat} (hw : Wq N S l od.length (q + 1) j) (hS : S < l.length) (hi : i < l.length) {N' S' : Nat} {s' : Spn} {od' : List Int}
    (hN' : N' = (tk1 N S (gS l i).2.1 (gS l i).2.2).1) (hS' : S' = (tk1 N S (gS l i).2.1 (gS l i).2.2).2.1) (hs' : s' = (0, (tk1 N S (gS l i).2.1 (gS l i).2.2).2.2)) (ho : od' = od ++ if (gS l i).2.1 = 2 ∧ (S : Int) = (gS l i).2.2 then [(i : Int)] else []) (h' : TkI N' S' (l.set i s') od') :
    (∃ j', Wq N' S' (l.set i s') od'.length q j') ∨ (i ≠ j ∧ Wq N' S' (l.set i s') od'.length (q + 1) j) := by
  have G := fun k => gS_set l i k s' hi
  have hlen : (l.set i s').length = l.length := List.length_set
  have hle := h.le
  have hle' := h'.le
  rw [hlen] at hle'
  have hns := h.ns
  have hph := h.ph i
  have hlt := h.lt i
  have h2i := h.two i j
  have hw3 := h.w3 i; have hw5 := h.w5 i
  have hall := fun e => h.everyone (i := i) e hi
  have hsome := h'.someone
  have hfull := h'.full
  have hz0 := h.z0 i
  obtain ⟨p, hp⟩ : ∃ p, p = (gS l i).2.1 := ⟨_, rfl⟩
  obtain ⟨t, ht⟩ : ∃ t, t = (gS l i).2.2 := ⟨_, rfl⟩
  rw [← hp] at hph hlt h2i hw3 hw5 hall hz0
  rw [← ht] at hlt h2i hw3 hw5 hz0
  rw [← hp, ← ht] at hN' hS' hs' ho
  unfold tk1 at hN' hS' hs'
  -- the same state of j
  have keep : i ≠ j → N' = N → S ≤ S' → od.length ≤ od'.length → Wq N S l od.length (q + 1) j → S' = S ∨ (gS l j).2.1 < 2 → Wq N' S' (l.set i s') od'.length (q + 1) j := by
    rintro hne rfl h1 h2 (⟨w1, w2, w3, w4⟩ | ⟨w1, w2, w3⟩) hs
    · exact .inl ⟨by omega, by rw [G j, if_neg (Ne.symm hne)]; exact w2, by omega, by rw [G j, if_neg (Ne.symm hne), hlen]; omega⟩
    · refine .inr ⟨by omega, by rw [hlen]; omega, fun hl => ?_⟩
      rw [hlen] at hl ⊢
      rw [G j, if_neg (Ne.symm hne)]
      rcases hs with hs | hs
      · rw [hs] at hl ⊢; exact w3 hl
      · have := (w3 hS).1; omega
  have keepN : i ≠ j → N' = N → S ≤ S' → od.length ≤ od'.length → (N < l.length ∨ S' = S) → Wq N' S' (l.set i s') od'.length (q + 1) j := fun hne e1 e2 e3 e4 => by
    refine keep hne e1 e2 e3 hw ?_
    rcases e4 with e4 | e4
    · rcases hw with ⟨w1, w2, w3, w4⟩ | ⟨w1, w2, w3⟩
      · exact .inr w2
      · omega
    · exact .inl e4
  rcases hph with rfl | rfl | rfl | rfl | rfl
  · rw [if_pos rfl] at hN' hS' hs'
    rw [if_neg (fun h => absurd h.1 (by decide)), List.append_nil] at ho
    dsimp only at hN' hS' hs'
    by_cases hij : i = j
    · left
      refine ⟨j, ?_⟩
      rcases hw with ⟨w1, w2, w3, w4⟩ | ⟨w1, w2, w3⟩
      · subst hij
        refine .inl ⟨by omega, by rw [G i, if_pos rfl, hs']; dsimp only; omega, by omega, ?_⟩
        rw [G i, if_pos rfl, hlen, hs']
        have r1 : rk N (gS l i) = 1 := by unfold rk; rw [← hp, if_pos rfl]
        have r2 : rk N' (0, 1, (N : Int)) = 0 := by unfold rk; rw [if_neg (show ¬ (1 : Int) = 0 by decide), if_pos (show (N' : Int) = (N : Int) by omega)]
        rw [r1] at w4
        rw [r2, ho]
        omega
      · have := hall w1; omega
    · exact .inr ⟨hij, keepN hij hN' (by omega) (by rw [ho]; exact Nat.le_refl _) (.inr hS')⟩
  · rw [if_neg (show ¬ (1 : Int) = 0 by decide), if_pos rfl] at hN' hS' hs'
    rw [if_neg (fun h => absurd h.1 (by decide)), List.append_nil] at ho
    rcases hw with ⟨w1, w2, w3, w4⟩ | ⟨w1, w2, w3⟩
    rotate_left
    · have := hall w1; omega
    by_cases hN : (N : Int) = t
    · rw [if_pos hN] at hN' hS' hs'
      dsimp only at hN' hS' hs'
      left
      by_cases hlast : N' < l.length
      · obtain ⟨j', hj', hj2⟩ := hsome (by rw [hlen]; exact hlast)
        rw [hlen] at hj'
        have := rk_le N' (gS (l.set i s') j')
        refine ⟨j', .inl ⟨by omega, hj2, by omega, ?_⟩⟩
        rw [hlen, ho]
        omega
      · by_cases hSl : S' < l.length
        · obtain ⟨j', g1, g2⟩ := hfull S' (by omega)
          have := TkI.in_ (l := l.set i s') (i := j') (by omega)
          exact ⟨j', .inr ⟨by omega, by rw [hlen, ho]; omega, fun _ => ⟨g1, g2, this⟩⟩⟩
        · omega
    · rw [if_neg hN] at hN' hS' hs'
      dsimp only at hN' hS' hs'
      by_cases hij : i = j
      · left
        subst hij
        refine ⟨i, .inl ⟨by omega, by rw [G i, if_pos rfl, hs']; decide, by omega, ?_⟩⟩
        rw [G i, if_pos rfl, hlen, hs']
        have r1 : rk N (gS l i) = 2 := by unfold rk; rw [← hp, ← ht, if_neg (by decide), if_neg hN]
        have r2 : rk N' (0, 0, 0) = 1 := rfl
        rw [r1] at w4
        rw [r2, ho]
        omega
      · exact .inr ⟨hij, keepN hij hN' (by omega) (by rw [ho]; exact Nat.le_refl _) (.inr hS')⟩
  · rw [if_neg (show ¬ (2 : Int) = 0 by decide), if_neg (show ¬ (2 : Int) = 1 by decide), if_pos rfl] at hN' hS' hs'
    by_cases hSt : (S : Int) = t
    · rw [if_pos hSt] at hN' hS' hs'
      rw [if_pos ⟨rfl, hSt⟩] at ho
      dsimp only at hN' hS' hs'
      have hol : od'.length = od.length + 1 := by rw [ho]; simp
      by_cases hij : i = j
      · left
        subst hij
        rcases hw with ⟨w1, w2, w3, w4⟩ | ⟨w1, w2, w3⟩
        · omega
        · exact ⟨i, .inr ⟨by omega, by rw [hlen]; omega, fun _ => ⟨by rw [G i, if_pos rfl, hs']; dsimp only; omega, by rw [G i, if_pos rfl, hs']; dsimp only; omega, by omega⟩⟩⟩
      · exact .inr ⟨hij, keepN hij hN' (by omega) (by omega) (.inr hS')⟩
    · rw [if_neg hSt] at hN' hS' hs'
      rw [if_neg (fun h => hSt h.2), List.append_nil] at ho
      dsimp only at hN' hS' hs'
      refine .inr ⟨fun hij => ?_, ?_⟩
      · subst hij
        rcases hw with ⟨w1, w2, w3, w4⟩ | ⟨w1, w2, w3⟩
        · omega
        · have := (w3 hS).2.1; omega
      · by_cases hij : i = j
        · subst hij
          rcases hw with ⟨w1, w2, w3, w4⟩ | ⟨w1, w2, w3⟩
          · omega
          · have := (w3 hS).2.1; omega
        · exact keepN hij hN' (by omega) (by rw [ho]; exact Nat.le_refl _) (.inr hS')
  · rw [if_neg (show ¬ (3 : Int) = 0 by decide), if_neg (show ¬ (3 : Int) = 1 by decide), if_neg (show ¬ (3 : Int) = 2 by decide), if_pos rfl] at hN' hS' hs'
    rw [if_neg (fun h => absurd h.1 (by decide)), List.append_nil] at ho
    dsimp only at hN' hS' hs'
    have ht3 := hw3 rfl
    rcases hw with ⟨w1, w2, w3, w4⟩ | ⟨w1, w2, w3⟩
    · have hij : i ≠ j := fun e => by subst e; omega
      exact .inr ⟨hij, keepN hij hN' (by omega) (by rw [ho]; exact Nat.le_refl _) (.inl w1)⟩
    · left
      have hij := h2i (by decide) (w3 hS).1 (by rw [(w3 hS).2.1]; omega)
      by_cases hSl : S' < l.length
      · obtain ⟨j', g1, g2⟩ := hfull S' (by omega)
        have := TkI.in_ (l := l.set i s') (i := j') (by omega)
        exact ⟨j', .inr ⟨by omega, by rw [hlen, ho]; omega, fun _ => ⟨g1, g2, this⟩⟩⟩
      · exact ⟨j, .inr ⟨by omega, by rw [hlen, ho]; omega, fun hh => absurd hh (by omega)⟩⟩
  · rw [if_neg (show ¬ (5 : Int) = 0 by decide), if_neg (show ¬ (5 : Int) = 1 by decide), if_neg (show ¬ (5 : Int) = 2 by decide), if_neg (show ¬ (5 : Int) = 3 by decide)] at hN' hS' hs'
    rw [if_neg (fun h => absurd h.1 (by decide)), List.append_nil] at ho
    dsimp only at hN' hS' hs'
    have ht5 := hw5 rfl
    have hij : i ≠ j := fun e => by
      subst e
      rcases hw with ⟨w1, w2, w3, w4⟩ | ⟨w1, w2, w3⟩
      · omega
      · have := (w3 hS).2.1; omega
    exact .inr ⟨hij, keepN hij hN' (by omega) (by rw [ho]; exact Nat.le_refl _) (.inr hS')⟩
theorem Dq.step {N S : Nat} {l : List Spn} {od : List Int} (h : TkI N S l od) {q i : Nat} (hd : Dq N S l od.length q) (hi : i < l.length) :
    Dq (tk1 N S (gS l i).2.1 (gS l i).2.2).1 (tk1 N S (gS l i).2.1 (gS l i).2.2).2.1 (l.set i (0, (tk1 N S (gS l i).2.1 (gS l i).2.2).2.2)) (od ++ if (gS l i).2.1 = 2 ∧ (S : Int) = (gS l i).2.2 then [(i : Int)] else []).length q := by
  by_cases hS : S < l.length
  · rcases hd with hd | ⟨j, hj⟩
    · omega
    · rcases q with _ | q
      · have := hj.zero; omega
      · rcases Wq.step h hj hS hi rfl rfl rfl rfl (h.step hi) with ⟨j', h1⟩ | ⟨_, h1⟩
        · exact .inr ⟨j', h1.mono⟩
        · exact .inr ⟨j, h1⟩
  · have hle := h.le; have := h.ns
    left
    rw [h.over (by omega) hi, List.length_set]
    show S = l.length
    omega
/-- plays of picks that are there -/
theorem TkI.playD {N S : Nat} {l : List Spn} {od : List Int} (h : TkI N S l od) (hl : l.length ≤ 1000) : ∀ (v : List Int), PkIn l.length v →
    ∃ N' S' l', playS (tkM N S) l v = (tkM N' S', l') ∧ l'.length = l.length ∧ TkI N' S' l' (od ++ heldF (tkM N S) l v) ∧
      (∀ q, Dq N S l od.length q → Dq N' S' l' (od ++ heldF (tkM N S) l v).length q) ∧
      (∀ q j, Wq N S l od.length (q + 1) j → (j : Int) ∈ v → Dq N' S' l' (od ++ heldF (tkM N S) l v).length q) := by
  intro v
  induction v generalizing N S l od with
  | nil =>
    intro _
    rw [show heldF (tkM N S) l [] = [] from rfl, List.append_nil]
    exact ⟨N, S, l, rfl, rfl, h, fun _ h => h, fun _ _ _ h => absurd h (by simp)⟩
  | cons i r ih =>
    intro hv
    have h0 := hv i (by simp)
    obtain ⟨k, rfl⟩ := Int.eq_ofNat_of_zero_le h0.1
    have hk : k < l.length := by omega
    have hs := h.step hk
    have he := h.pstep hl hk
    have hw := h.who hl hk
    obtain ⟨N', S', l', h1, h2, h3, h4, h5⟩ := ih hs (by rw [List.length_set]; exact hl) (by rw [List.length_set]; exact fun j hj => hv j (List.mem_cons_of_mem _ hj))
    have e1 : playS (tkM N S) l ((k : Int) :: r) = playS (pstepF (tkM N S) l (k : Int).toNat).1 (pstepF (tkM N S) l (k : Int).toNat).2 r := rfl
    have e2 : heldF (tkM N S) l ((k : Int) :: r) = (if 0 ≤ whoS (tkM N S) l k then [whoS (tkM N S) l k] else []) ++ heldF (pstepF (tkM N S) l (k : Int).toNat).1 (pstepF (tkM N S) l (k : Int).toNat).2 r := rfl
    rw [e1, e2, Int.toNat_natCast, he, hw, ← List.append_assoc]
    refine ⟨N', S', l', h1, by rw [h2, List.length_set], h3, fun q hq => h4 q (Dq.step h hq hk), fun q j hj hjv => ?_⟩
    by_cases hS : S < l.length
    · rcases Wq.step h hj hS hk rfl rfl rfl rfl hs with ⟨j', g1⟩ | ⟨hne, g1⟩
      · exact h4 q (.inr ⟨j', g1⟩)
      · rcases List.mem_cons.1 hjv with e | hjr
        · omega
        · exact h5 q j g1 hjr
    · refine h4 q (Dq.step h ?_ hk)
      have := h.le; have := h.ns
      exact .inl (by omega)
/-- a round in which all are picked -/
theorem TkI.round {N S : Nat} {l : List Spn} {od : List Int} (h : TkI N S l od) (hl : l.length ≤ 1000) {v : List Int} (hv : PkIn l.length v) (hall : ∀ j : Nat, j < l.length → (j : Int) ∈ v) {q : Nat} (hq : Dq N S l od.length q) :
    ∃ N' S' l', spPlayF (tkM N S) l v = (0, tkM N' S', l', heldF (tkM N S) l v) ∧ l'.length = l.length ∧ TkI N' S' l' (od ++ heldF (tkM N S) l v) ∧ Dq N' S' l' (od ++ heldF (tkM N S) l v).length (q - 1) := by
  obtain ⟨N', S', l', h1, h2, h3, h4, h5⟩ := h.playD hl v hv
  refine ⟨N', S', l', ?_, h2, h3, ?_⟩
  · unfold spPlayF
    rw [if_neg (not_not_intro (tkM_good N S)), if_neg (not_not_intro h.all), vpk_all hv, h1]
  · rcases q with _ | q
    · exact h4 0 hq
    · rcases hq with hq | ⟨j, hj⟩
      · exact h4 q (.inl hq)
      · have hjl : j < l.length ∨ l.length ≤ S := by
          rcases hj with ⟨w1, w2, w3, w4⟩ | ⟨w1, w2, w3⟩
          · exact .inl w3
          · rcases Nat.lt_or_ge S l.length with hS | hS
            · exact .inl (w3 hS).2.2
            · exact .inr hS
        rcases hjl with hjl | hS
        · exact h5 q j hj (hall j hjl)
        · exact h4 q (.inl (by have := h.le; have := h.ns; omega))
theorem Dq.start (n : Nat) (hn : 1 ≤ n) : Dq 0 0 (List.replicate n (0, 0, 0)) 0 (5 * n + 1) := by
  refine .inr ⟨0, .inl ⟨by simp; omega, ?_, by simp; omega, ?_⟩⟩
  · unfold gS; rw [List.getElem?_replicate]; split <;> decide
  · have : gS (List.replicate n (0, 0, 0)) 0 = (0, 0, 0) := by unfold gS; rw [List.getElem?_replicate]; split <;> rfl
    rw [this]
    simp [rk]
    omega
theorem Dq.done {N S : Nat} {l : List Spn} {od : List Int} (h : TkI N S l od) (hd : Dq N S l od.length 0) : S = l.length ∧ N = l.length ∧ od.length = l.length ∧ ∀ i, i < l.length → (gS l i).2.1 = 5 := by
  have h1 := h.le; have h2 := h.ns
  have hS : S = l.length := by
    rcases hd with hd | ⟨j, hj⟩
    · exact hd
    · have := hj.zero; omega
  refine ⟨hS, by omega, ?_, fun i hi => h.over hS hi⟩
  rw [← h.cO]
  refine List.countP_eq_length.2 fun x hx => ?_
  obtain ⟨i, hi, rfl⟩ := List.mem_iff_getElem.1 hx
  have e : gS l i = l[i] := by simp [gS, hi]
  have := h.over hS hi
  rw [e] at this
  exact decide_eq_true (by omega)
end Go.Proofs.Ytaeanmkbongfcaa
