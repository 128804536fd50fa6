/- Readers and a grace: what a tick does, and that who was in a section is waited for, plainly. No condition. -/
import Derived.Test.YtfipdoofgbjbjaaRd17
import Derived.Test.YtfipdoofgbjbjaaGr0
namespace Go.Proofs.Ytfipdoofgbjbjaa
/-- a tick: the error, the readers, the grace, what was asked for -/
def tickF (s : St) (g : Gr) (t : Int × Int) : Int × St × Gr × List Int :=
  if t.1 = 1 ∨ t.1 = 2 then (stC s (t.2, decide (t.1 = 1)), stN s (t.2, decide (t.1 = 1)), g, [])
  else if t.1 = 3 then (if t.2 < 0 ∨ (g.nd.length : Int) ≤ t.2 then (2, s, g, []) else if 2147483645 < gNext g then (6, s, g, []) else (0, s, gAsk g, [gNext g]))
  else if t.1 = 4 then (if t.2 < 0 ∨ (g.nd.length : Int) ≤ t.2 then (2, s, g, []) else (0, s, gPick g t.2.toNat (decide (s.2.1[t.2.toNat]?.getD 0 = 0)), []))
  else (221, s, g, [])
def Both (s : St) (g : Gr) : Prop := Good s.1 s.2.1 s.2.2 ∧ GrOk g ∧ s.2.1.length = g.nd.length
/-- with which step each period was asked for last -/
def AtInv (s : St) (g : Gr) (at_ : List (Int × Int)) : Prop :=
  (∀ x ∈ at_, 1 ≤ x.1 ∧ x.1 ≤ g.ak ∧ 0 ≤ x.2 ∧ x.2 ≤ s.1 ∧ (x.1 ≤ g.dn → ∀ k, k < s.2.1.length → 0 < s.2.1[k]?.getD 0 → x.2 < s.2.2[k]?.getD 0) ∧
    (x.1 = g.dn + 1 → g.on = true → ∀ k, k < s.2.1.length → g.nd[k]?.getD false = false → 0 < s.2.1[k]?.getD 0 → x.2 < s.2.2[k]?.getD 0)) ∧ ∀ n, 1 ≤ n → n ≤ g.ak → n ∈ at_.map Prod.fst
def putI (L : List (Int × Int)) (k v : Int) : List (Int × Int) := match L with
  | [] => [(k, v)]
  | x :: L => if x.1 = k then (k, v) :: L else x :: putI L k v
theorem putI_mem {L : List (Int × Int)} {k v : Int} {x : Int × Int} (h : x ∈ putI L k v) : x = (k, v) ∨ (x ∈ L) := by
  induction L with
  | nil => exact .inl (List.mem_singleton.1 h)
  | cons y L ih =>
    unfold putI at h
    split at h
    · rcases List.mem_cons.1 h with h | h
      · exact .inl h
      · exact .inr (List.mem_cons_of_mem _ h)
    · rcases List.mem_cons.1 h with h | h
      · exact .inr (h ▸ List.mem_cons_self)
      · rcases ih h with h | h
        · exact .inl h
        · exact .inr (List.mem_cons_of_mem _ h)
theorem putI_keys {L : List (Int × Int)} {k v n : Int} : n ∈ (putI L k v).map Prod.fst ↔ n = k ∨ n ∈ L.map Prod.fst := by
  induction L with
  | nil => simp [putI]
  | cons y L ih =>
    unfold putI
    split
    · rename_i e; rw [List.map_cons, List.map_cons, List.mem_cons, List.mem_cons, e]
      constructor
      · rintro (h | h)
        · exact .inl h
        · exact .inr (.inr h)
      · rintro (h | h | h)
        · exact .inl h
        · exact .inl h
        · exact .inr h
    · rw [List.map_cons, List.map_cons, List.mem_cons, List.mem_cons, ih]
      constructor
      · rintro (h | h | h)
        · exact .inr (.inl h)
        · exact .inl h
        · exact .inr (.inr h)
      · rintro (h | h | h)
        · exact .inr (.inl h)
        · exact .inl h
        · exact .inr (.inr h)
theorem at_reads {s : St} {g : Gr} {at_ : List (Int × Int)} {x : Int × Bool} (h : AtInv s g at_) (hb : Both s g) (hc : stC s x = 0) : AtInv (stN s x) g at_ := by
  obtain ⟨c1, c2, c3, c4, c5⟩ := stC_zero hc
  have hos : s.2.2.length = s.2.1.length := hb.1.1.2.2.1
  have hpos : ∀ k, k < s.2.1.length → 0 ≤ s.2.1[k]?.getD 0 := fun k hk => (hb.1.2.1 k hk).1
  refine ⟨fun y hy => ?_, h.2⟩
  obtain ⟨h1, h2, h3, h4, h5, h6⟩ := h.1 y hy
  have key : ∀ k, k < s.2.1.length → (0 < s.2.1[k]?.getD 0 → y.2 < s.2.2[k]?.getD 0) → 0 < (stN s x).2.1[k]?.getD 0 → y.2 < (stN s x).2.2[k]?.getD 0 := fun k hk ho hp => by
    have e1 : (stN s x).2.1[k]?.getD 0 = _ := stepNs_get (ent := x.2) (j := k) c2
    have e2 : (stN s x).2.2[k]?.getD 0 = _ := stepOs_get (now := s.1) (ns := s.2.1) (ent := x.2) (j := k) (k := x.1.toNat) (os := s.2.2) (by rw [hos]; exact c2)
    rw [e1] at hp
    rw [e2]
    by_cases e : k = x.1.toNat
    · subst e
      rw [if_pos rfl] at hp ⊢
      have := hpos _ hk
      cases hx : x.2
      · rw [hx] at hp
        simp only [Bool.false_eq_true, if_false] at hp ⊢
        rw [if_neg (by omega)]
        exact ho (by omega)
      · rw [hx] at hp
        simp only [if_true] at hp ⊢
        split
        · omega
        · exact ho (by omega)
    · rw [if_neg e] at hp ⊢
      exact ho hp
  have hl : (stN s x).2.1.length = s.2.1.length := stepNs_len _ _ _
  refine ⟨h1, h2, h3, by show y.2 ≤ s.1 + 1; omega, fun hle k hk => ?_, fun he hon k hk hn => ?_⟩
  · rw [hl] at hk; exact key k hk (h5 hle k hk)
  · rw [hl] at hk; exact key k hk (h6 he hon k hk hn)
theorem at_asks {s : St} {g : Gr} {at_ : List (Int × Int)} (h : AtInv s g at_) (hb : Both s g) : AtInv s (gAsk g) (putI at_ (gNext g) s.1) := by
  obtain ⟨b1, b2, b3, b4, b5, b6, b7⟩ := hb.2.1
  have hak : (gAsk g).ak = max g.ak (gNext g) := rfl
  have hdn : (gAsk g).dn = g.dn := rfl
  have hon : (gAsk g).on = g.on := rfl
  have hnd : (gAsk g).nd = g.nd := rfl
  have hnow : 0 ≤ s.1 := hb.1.1.2.2.2.1
  have hnx : g.dn + 1 ≤ gNext g ∧ gNext g ≤ g.ak + 1 ∧ (gNext g = g.dn + 1 → g.on = false) := by
    unfold gNext at b5 ⊢
    cases ho : g.on <;> rw [ho] at b4 b5 <;> simp at b4 b5 ⊢ <;> omega
  refine ⟨fun x hx => ?_, fun n h1 h2 => ?_⟩
  · rw [hak, hdn, hon, hnd]
    rcases putI_mem hx with rfl | hx
    · refine ⟨by show 1 ≤ gNext g; omega, by show gNext g ≤ _; omega, hnow, Int.le_refl _, fun hle => ?_, fun he ho => ?_⟩
      · have hle' : gNext g ≤ g.dn := hle
        omega
      · have he' : gNext g = g.dn + 1 := he
        rw [hnx.2.2 he'] at ho; cases ho
    · obtain ⟨h1, h2, h3, h4, h5, h6⟩ := h.1 x hx
      exact ⟨h1, by omega, h3, h4, h5, h6⟩
  · rw [hak] at h2
    rw [putI_keys]
    rcases Int.lt_or_le g.ak n with h3 | h3
    · exact .inl (by omega)
    · exact .inr (h.2 n h1 h3)
theorem at_picks {s : St} {g : Gr} {at_ : List (Int × Int)} (h : AtInv s g at_) (hb : Both s g) (k : Nat) (hk : k < g.nd.length) : AtInv s (gPick g k (decide (s.2.1[k]?.getD 0 = 0))) at_ := by
  obtain ⟨b1, b2, b3, b4, b5, b6, b7⟩ := hb.2.1
  unfold gPick
  split
  · rename_i hq
    simp only [Bool.and_eq_true, decide_eq_true_eq] at hq
    have hset : ∀ j, (g.nd.set k false)[j]?.getD false = if j = k then false else g.nd[j]?.getD false := fun j => by
      by_cases e : j = k
      · subst e; rw [List.getElem?_set_self hk, if_pos rfl]; rfl
      · rw [List.getElem?_set_ne (Ne.symm e), if_neg e]
    have key : ∀ x ∈ at_, x.1 = g.dn + 1 → ∀ j, j < s.2.1.length → (g.nd.set k false)[j]?.getD false = false → 0 < s.2.1[j]?.getD 0 → x.2 < s.2.2[j]?.getD 0 := fun x hx he j hj hn hp => by
      rw [hset] at hn
      by_cases e : j = k
      · subst e; omega
      · rw [if_neg e] at hn
        exact (h.1 x hx).2.2.2.2.2 he hq.1 j hj hn hp
    unfold gReport
    split
    · rename_i hi
      refine ⟨fun x hx => ?_, h.2⟩
      obtain ⟨h1, h2, h3, h4, h5, h6⟩ := h.1 x hx
      refine ⟨h1, h2, h3, h4, fun hle j hj hp => ?_, fun _ ho => by cases ho⟩
      have hle' : x.1 ≤ g.dn + 1 := hle
      rcases Int.lt_or_le g.dn x.1 with h7 | h7
      · exact key x hx (by omega) j hj ((gIdle_iff _).1 hi j) hp
      · exact h5 h7 j hj hp
    · refine ⟨fun x hx => ?_, h.2⟩
      obtain ⟨h1, h2, h3, h4, h5, h6⟩ := h.1 x hx
      exact ⟨h1, h2, h3, h4, h5, fun he _ => key x hx he⟩
  · split
    · rename_i hq
      simp only [Bool.and_eq_true, decide_eq_true_eq, Bool.not_eq_true'] at hq
      refine ⟨fun x hx => ?_, h.2⟩
      obtain ⟨h1, h2, h3, h4, h5, h6⟩ := h.1 x hx
      refine ⟨h1, h2, h3, h4, h5, fun _ _ j hj hn => ?_⟩
      have hn' : (List.replicate g.nd.length true)[j]?.getD false = false := hn
      rw [List.getElem?_replicate, if_pos (by rw [← hb.2.2]; exact hj)] at hn'
      cases hn'
    · exact h
/-- what was asked for by a tick is laid down -/
def atF (s : St) (at_ : List (Int × Int)) (l : List Int) : List (Int × Int) := l.foldl (fun a n => putI a n s.1) at_
theorem at_passed {s : St} {g : Gr} {at_ : List (Int × Int)} (h : AtInv s g at_) (hb : Both s g) {x : Int × Int} (hx : x ∈ at_) (hle : x.1 ≤ g.dn) : PassedP s.1 s.2.1 s.2.2 x.2 := by
  obtain ⟨h1, h2, h3, h4, h5, h6⟩ := h.1 x hx
  refine ⟨hb.1, h3, h4, fun a ha => ?_⟩
  obtain ⟨i, hi, hp, rfl⟩ := mem_sec.1 ha
  exact h5 hle i hi hp
end Go.Proofs.Ytfipdoofgbjbjaa
