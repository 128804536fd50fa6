/- package rcu: what may be stays so; ops, one behind the other, plainly. No condition. -/
import Derived.Test.YtfipdoofgbjbjaaRc10
namespace Go.Proofs.Ytfipdoofgbjbjaa
open Go.RowKit
theorem qg_over {o o' : Int} {l : List Cb} (h : QGood o l) (h1 : o ≤ o') (h2 : o' ≤ 9223372036854775806) : QGood o' l :=
  ⟨h2, h.2.1, h.2.2.1, fun k hk => by have := h.2.2.2 k hk; omega⟩
theorem per_drop (l : List Cb) (k i : Nat) : perAt (l.drop k) i = perAt l (k + i) := by unfold perAt; rw [List.getElem?_drop]
theorem qg_drop {o : Int} {l : List Cb} (h : QGood o l) (k : Nat) : QGood o (l.drop k) := by
  refine ⟨h.1, by rw [List.length_drop]; have := h.2.1; omega, fun i hi h1 => ?_, fun i hi => ?_⟩
  · rw [List.length_drop] at hi
    rw [per_drop, per_drop, show k + (i - 1) = (k + i) - 1 by omega]
    exact h.2.2.1 (k + i) (by omega) (by omega)
  · rw [List.length_drop] at hi
    rw [per_drop]
    exact h.2.2.2 (k + i) (by omega)
theorem qg_snoc {o a : Int} {l : List Cb} (h : QGood o l) (x : Int) (h2 : a ≤ 2) (hl : l.length < 16) (hu : ¬ (0 < l.length ∧ o + a < perAt l (l.length - 1))) : QGood o (l ++ [(o + a, x)]) := by
  have hat : ∀ k, k < l.length → perAt (l ++ [(o + a, x)]) k = perAt l k := fun k hk => by unfold perAt; rw [List.getElem?_append_left hk]
  have hlast : perAt (l ++ [(o + a, x)]) l.length = o + a := by unfold perAt; rw [List.getElem?_append_right (Nat.le_refl _)]; simp
  refine ⟨h.1, by simp; omega, fun k hk h1 => ?_, fun k hk => ?_⟩
  · simp at hk
    by_cases hk2 : k < l.length
    · rw [hat k hk2, hat (k - 1) (by omega)]
      exact h.2.2.1 k hk2 h1
    · obtain rfl : k = l.length := by omega
      rw [hlast, hat (l.length - 1) (by omega)]
      omega
  · simp at hk
    by_cases hk2 : k < l.length
    · rw [hat k hk2]
      exact h.2.2.2 k hk2
    · obtain rfl : k = l.length := by omega
      rw [hlast]
      omega
theorem putF_ok {o : Int} {l : List Cb} {x a : Int} (h : (putF o l x a).2.2 = 0) : QGood o l ∧ 1 ≤ a ∧ a ≤ 2 ∧ ¬ (0 < l.length ∧ o + a < perAt l (l.length - 1)) ∧ l.length < 16 ∧ putF o l x a = (o, l ++ [(o + a, x)], 0) := by
  unfold putF at h ⊢
  split at h
  · exact absurd h (by simp)
  · rename_i h1
    rw [if_neg h1]
    split at h
    · exact absurd h (by simp)
    · rename_i h2
      rw [if_neg h2]
      split at h
      · exact absurd h (by simp)
      · rename_i h3
        rw [if_neg h3]
        split at h
        · exact absurd h (by simp)
        · rename_i h4
          rw [if_neg h4]
          have hg : QGood o l := Classical.not_not.1 h1
          exact ⟨hg, by omega, by omega, h3, by have := hg.2.1; omega, rfl⟩
theorem takeF_ok {o : Int} {l : List Cb} (h : (takeF o l).2.2.2 = 0) : QGood o l ∧ 0 < doneN o l ∧ takeF o l = (o, l.drop 1, (l[0]?.getD (0, 0)).2, 0) := by
  unfold takeF at h ⊢
  split at h
  · exact absurd h (by simp)
  · rename_i h1
    rw [if_neg h1]
    split at h
    · exact absurd h (by simp)
    · rename_i h2
      rw [if_neg h2]
      exact ⟨Classical.not_not.1 h1, by omega, rfl⟩
theorem gPick_ak (g : Gr) (k : Nat) (q : Bool) : (gPick g k q).ak = g.ak := by
  unfold gPick gReport gBegin
  split
  · split <;> rfl
  · split <;> rfl
theorem overs_eq {g : Gr} {qs : Qs} {s : St} (hg : RcGood s g qs) (k : Nat) (q : Bool) : overs g.dn (gPick g k q).dn qs = qs.map fun x => (x.1, (gPick g k q).dn) := by
  unfold overs
  split
  · rfl
  · rename_i h
    have hd := gPick_dn hg.1.2.1 k q
    have e : (gPick g k q).dn = g.dn := by omega
    rw [e]
    conv => lhs; rw [← List.map_id qs]
    refine List.map_congr_left fun x hx => ?_
    have := (hg.2.2 x hx).2.1
    rw [← this]; rfl
/-- what may be stays so -/
theorem good_opF {s : St} {g : Gr} {qs : Qs} {o : Int × Int × Int} (h : RcGood s g qs) (hc : (opF s g qs o).1 = 0) : RcGood (opF s g qs o).2.1 (opF s g qs o).2.2.1 (opF s g qs o).2.2.2.1 := by
  obtain ⟨k, c, x⟩ := o
  by_cases h1 : k < 1 ∨ 5 < k
  · unfold opF at hc; rw [if_pos h1] at hc; exact absurd hc (by simp)
  by_cases h2 : c < 0 ∨ (qs.length : Int) ≤ c
  · unfold opF at hc; rw [if_neg h1, if_pos h2] at hc; exact absurd hc (by simp)
  obtain ⟨cp, rfl⟩ := Int.eq_ofNat_of_zero_le (show 0 ≤ c by omega)
  have hcp : cp < qs.length := by omega
  rw [opF_lt (by omega) hcp] at hc ⊢
  have hg := h
  obtain ⟨⟨b1, b2, b3⟩, hlen, hq⟩ := h
  by_cases k1 : k = 1 ∨ k = 2
  · rw [if_pos k1] at hc ⊢
    have hl : (stN s ((cp : Int), decide (k = 1))).2.1.length = s.2.1.length := stepNs_len _ _ _
    exact ⟨⟨good_step b1 hc, b2, hl.trans b3⟩, hlen, hq⟩
  rw [if_neg k1] at hc ⊢
  by_cases k3 : k = 3
  · rw [if_pos k3] at hc ⊢
    by_cases hf : 2147483645 < gNext g
    · rw [if_pos hf] at hc; exact absurd hc (by simp)
    rw [if_neg hf] at hc ⊢
    obtain ⟨p1, p2, p3, p4, p5, p6⟩ := putF_ok hc
    rw [p6]
    have hm : (qs[cp]?.getD ([], 0)) ∈ qs := by rw [List.getElem?_eq_getElem hcp]; exact List.getElem_mem _
    obtain ⟨q1, q2, q3⟩ := hq _ hm
    refine ⟨⟨b1, gAsk_ok b2 (by omega), b3⟩, by rw [List.length_set]; exact hlen, fun y hy => ?_⟩
    rcases List.mem_or_eq_of_mem_set hy with hy | rfl
    · obtain ⟨r1, r2, r3⟩ := hq y hy
      exact ⟨r1, r2, fun z hz => by have := r3 z hz; show z.1 ≤ max g.ak (gNext g); omega⟩
    · refine ⟨qg_snoc p1 _ p3 p5 p4, q2, fun z hz => ?_⟩
      rcases List.mem_append.1 hz with hz | hz
      · have := q3 z hz; show z.1 ≤ max g.ak (gNext g); omega
      · obtain rfl := List.mem_singleton.1 hz
        show (qs[cp]?.getD ([], 0)).2 + (gNext g - g.dn) ≤ max g.ak (gNext g); omega
  rw [if_neg k3] at hc ⊢
  by_cases k4 : k = 4
  · rw [if_pos k4]
    show RcGood s (gPick g cp _) (overs g.dn (gPick g cp _).dn qs)
    rw [overs_eq hg]
    have hd := gPick_dn b2 cp (decide (s.2.1[cp]?.getD 0 = 0))
    refine ⟨⟨b1, gPick_ok b2 _ _, by rw [gPick_len]; exact b3⟩, by rw [List.length_map, gPick_len]; exact hlen, fun y hy => ?_⟩
    obtain ⟨z, hz, rfl⟩ := List.mem_map.1 hy
    obtain ⟨r1, r2, r3⟩ := hq z hz
    refine ⟨qg_over r1 (by omega) (by have := b2.small; omega), rfl, fun u hu => ?_⟩
    rw [gPick_ak]; exact r3 u hu
  · rw [if_neg k4] at hc ⊢
    obtain ⟨p1, p2, p3⟩ := takeF_ok hc
    rw [p3]
    have hm : (qs[cp]?.getD ([], 0)) ∈ qs := by rw [List.getElem?_eq_getElem hcp]; exact List.getElem_mem _
    obtain ⟨q1, q2, q3⟩ := hq _ hm
    refine ⟨⟨b1, b2, b3⟩, by rw [List.length_set]; exact hlen, fun y hy => ?_⟩
    rcases List.mem_or_eq_of_mem_set hy with hy | rfl
    · exact hq y hy
    · exact ⟨qg_drop p1 1, q2, fun z hz => q3 z (List.mem_of_mem_drop hz)⟩
theorem gchk_iff {g : Gr} (hd : g.dn ≤ 9223372036854775806) : gchkC g = 0 ↔ GrOk g := by
  refine ⟨fun h => ?_, gchk_ok⟩
  have hw : GrW g := by
    by_cases hw : GrW g
    · exact hw
    · unfold gchkC at h; rw [if_neg hw] at h; exact absurd h (by decide)
  obtain ⟨⟨h1, h2⟩, h3, h4, h5, h6, h7⟩ := hw
  obtain ⟨nd, dn, ak, on⟩ := g
  unfold leastW at h4; unfold nextW at h5; unfold wrap64 at h4 h5
  unfold GrOk gNext
  dsimp only at *
  refine ⟨h1, h2, h3, ?_, ?_, h6, ?_⟩
  · cases on
    · simp at h4 ⊢; omega
    · simp at h4 ⊢; omega
  · cases on
    · simp at h4 h5 ⊢; omega
    · simp at h4 h5 ⊢; omega
  · revert h7; cases on <;> cases gIdle nd <;> simp
/-- what Check passes is what may be -/
theorem rcOk_iff {s : St} {g : Gr} {es : List Qe} : RcOk s g es ↔ RcGood s g (ql es) := by
  constructor
  · rintro ⟨h1, h2, h3, h4, h5⟩
    rw [List.all_eq_true] at h5
    have hw : GrW g := by
      by_cases hw : GrW g
      · exact hw
      · unfold gchkC at h2; rw [if_neg hw] at h2; exact absurd h2 (by decide)
    have hr : ∀ x ∈ es, QGood x.o x.l ∧ x.o = max g.dn 0 ∧ ∀ c ∈ x.l, c.1 ≤ max g.ak 0 := fun x hx => by
      have := h5 x hx
      unfold rightQ at this
      simp only [Bool.and_eq_true, decide_eq_true_eq, List.all_eq_true] at this
      exact this
    have hpos : 0 < es.length := by have := hw.1.1; omega
    have hx0 := hr _ (List.getElem_mem hpos)
    have hdn := hw.2.1
    have hgo : GrOk g := (gchk_iff (by have := hx0.1.1; have := hx0.2.1; omega)).1 h2
    have hak : 0 ≤ g.ak := by have := hgo.2.2.2.1; split at this <;> omega
    refine ⟨⟨h1, hgo, h3.symm⟩, by rw [ql_len]; omega, fun q hq => ?_⟩
    obtain ⟨x, hx, rfl⟩ := List.mem_map.1 hq
    obtain ⟨r1, r2, r3⟩ := hr x hx
    exact ⟨r1, by show x.o = g.dn; omega, fun c hc => by have := r3 c hc; omega⟩
  · rintro ⟨⟨b1, b2, b3⟩, hlen, hq⟩
    rw [ql_len] at hlen
    refine ⟨b1, gchk_ok b2, b3.symm, by omega, List.all_eq_true.2 fun x hx => ?_⟩
    obtain ⟨r1, r2, r3⟩ := hq _ (ql_mem hx)
    unfold rightQ
    simp only [Bool.and_eq_true, decide_eq_true_eq, List.all_eq_true]
    exact ⟨r1, by have := b2.2.2.1; dsimp only at r2; omega, fun c hc => by have := r3 c hc; omega⟩
/-- ops, one behind the other: the error, and all that is held -/
def opsA (s : St) (g : Gr) (qs : Qs) (ran : List Int) : List (Int × Int × Int) → Int × St × Gr × Qs × List Int
  | [] => (0, s, g, qs, ran)
  | o :: L => if (opF s g qs o).1 = 0 then opsA (opF s g qs o).2.1 (opF s g qs o).2.2.1 (opF s g qs o).2.2.2.1 (ran ++ (opF s g qs o).2.2.2.2) L else ((opF s g qs o).1, (0, [], []), zGr, [], [])
theorem opsA_nz {L : List (Int × Int × Int)} : ∀ {s : St} {g : Gr} {qs : Qs} {ran : List Int}, (opsA s g qs ran L).1 ≠ 0 → (opsA s g qs ran L).2 = ((0, [], []), zGr, [], []) := by
  induction L with
  | nil => intro s g qs ran h; exact absurd rfl h
  | cons t L ih =>
    intro s g qs ran h
    unfold opsA at h ⊢
    split at h
    · rename_i e; rw [if_pos e]; exact ih h
    · rename_i e; rw [if_neg e]
theorem opF_ran (s : St) (g : Gr) (qs : Qs) (o : Int × Int × Int) : (opF s g qs o).2.2.2.2.length ≤ 1 := by
  unfold opF
  split
  · exact Nat.zero_le _
  split
  · exact Nat.zero_le _
  split
  · exact Nat.zero_le _
  split
  · split <;> exact Nat.zero_le _
  split
  · exact Nat.zero_le _
  · exact Nat.le_refl _
theorem opsA_ran {L : List (Int × Int × Int)} : ∀ {s : St} {g : Gr} {qs : Qs} {ran : List Int}, (opsA s g qs ran L).2.2.2.2.length ≤ ran.length + L.length := by
  induction L with
  | nil => intro s g qs ran; exact Nat.le_refl _
  | cons t L ih =>
    intro s g qs ran
    unfold opsA
    split
    · refine Nat.le_trans ih ?_
      have := opF_ran s g qs t
      rw [List.length_append, List.length_cons]; omega
    · exact Nat.zero_le _
/-- all of it, from what is held: none that may be answers 240 -/
def rcA (s : St) (g : Gr) (es : List Qe) (L : List (Int × Int × Int)) : Int × St × Gr × Qs × List Int := if RcOk s g es then opsA s g (ql es) [] L else (240, (0, [], []), zGr, [], [])
theorem rcA_nz {s : St} {g : Gr} {es : List Qe} {L : List (Int × Int × Int)} (h : (rcA s g es L).1 ≠ 0) : (rcA s g es L).2 = ((0, [], []), zGr, [], []) := by
  unfold rcA at h ⊢
  split at h
  · rename_i e; rw [if_pos e]; exact opsA_nz h
  · rename_i e; rw [if_neg e]
theorem rcA_ran (s : St) (g : Gr) (es : List Qe) (L : List (Int × Int × Int)) : (rcA s g es L).2.2.2.2.length ≤ L.length := by
  unfold rcA
  split
  · refine Nat.le_trans opsA_ran ?_; simp
  · exact Nat.zero_le _
end Go.Proofs.Ytfipdoofgbjbjaa
