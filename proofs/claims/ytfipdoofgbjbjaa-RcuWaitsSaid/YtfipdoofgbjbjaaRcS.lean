/- package rcu: settling, plainly: a turn, that turns come to an end, and what they come to. No condition. -/
import Derived.Test.YtfipdoofgbjbjaaRc15
namespace Go.Proofs.Ytfipdoofgbjbjaa
open Go.RowKit
/-- what settling goes through: the grace, the queues, what was run, whose turn it is -/
structure Sv where
  g : Gr
  qs : Qs
  ran : List Int
  k : Nat
abbrev qAt (qs : Qs) (k : Nat) : List Cb × Int := qs[k]?.getD ([], 0)
def drN (qs : Qs) (k : Nat) : Nat := doneN (qAt qs k).2 (qAt qs k).1
/-- queues behind a CPU's first j are run, and what is run -/
def drQ (qs : Qs) (k j : Nat) : Qs := qs.set k ((qAt qs k).1.drop j, (qAt qs k).2)
def drR (qs : Qs) (k j : Nat) : List Int := ((qAt qs k).1.take j).map Prod.snd
def pkQ (t : Sv) : Qs := overs t.g.dn (gPick t.g t.k true).dn t.qs
def turnF (t : Sv) : Sv := ⟨gPick t.g t.k true, drQ (pkQ t) t.k (drN (pkQ t) t.k), t.ran ++ drR (pkQ t) t.k (drN (pkQ t) t.k), (t.k + 1) % t.qs.length⟩
def SvOk (s : St) (t : Sv) : Prop := RcGood s t.g t.qs ∧ quietB s = true ∧ t.k < t.qs.length
theorem sum_map_le (f h : Nat → Nat) : ∀ l : List Nat, (∀ j ∈ l, f j ≤ h j) → (l.map f).sum ≤ (l.map h).sum
  | [], _ => Nat.le_refl _
  | x :: l, hl => by
    have h1 := hl x List.mem_cons_self
    have h2 := sum_map_le f h l (fun j hj => hl j (List.mem_cons_of_mem _ hj))
    simp only [List.map_cons, List.sum_cons]; omega
theorem sum_map_lt (f h : Nat → Nat) : ∀ l : List Nat, (∀ j ∈ l, f j ≤ h j) → (∃ j ∈ l, f j < h j) → (l.map f).sum < (l.map h).sum
  | [], _, ⟨_, hj, _⟩ => by cases hj
  | x :: l, hl, ⟨j, hj, hlt⟩ => by
    have h1 := hl x List.mem_cons_self
    have h2 := sum_map_le f h l (fun j hj => hl j (List.mem_cons_of_mem _ hj))
    simp only [List.map_cons, List.sum_cons]
    rcases List.mem_cons.1 hj with rfl | hj
    · omega
    · have h3 := sum_map_lt f h l (fun j hj => hl j (List.mem_cons_of_mem _ hj)) ⟨j, hj, hlt⟩
      omega
/-- how far those are off, together -/
def dist (n k : Nat) (p : Nat → Bool) : Nat := ((List.range n).map fun j => if p j then 1 + (j + n - k) % n else 0).sum
theorem sum_map_bd (f : Nat → Nat) (b : Nat) : ∀ l : List Nat, (∀ j ∈ l, f j ≤ b) → (l.map f).sum ≤ l.length * b
  | [], _ => by simp
  | x :: l, hl => by
    have h1 := hl x List.mem_cons_self
    have h2 := sum_map_bd f b l (fun j hj => hl j (List.mem_cons_of_mem _ hj))
    simp only [List.map_cons, List.sum_cons, List.length_cons, Nat.succ_mul]; omega
theorem dist_le (n k : Nat) (p : Nat → Bool) (h1 : 1 ≤ n) (h8 : n ≤ 8) : dist n k p ≤ 64 := by
  have h := sum_map_bd (fun j => if p j then 1 + (j + n - k) % n else 0) 8 (List.range n) (fun j hj => by
    show (if p j then 1 + (j + n - k) % n else 0) ≤ 8
    have := Nat.mod_lt (j + n - k) h1
    split <;> omega)
  rw [List.length_range] at h
  unfold dist
  omega
theorem next_mod {n j k : Nat} (hj : j < n) (hk : k < n) (hne : j ≠ k) : (j + n - (k + 1) % n) % n + 1 = (j + n - k) % n := by
  have e1 : (k + 1) % n = if k + 1 = n then 0 else k + 1 := by
    split
    · rename_i e; rw [e, Nat.mod_self]
    · exact Nat.mod_eq_of_lt (by omega)
  have md : ∀ x, x < 2 * n → x % n = if x < n then x else x - n := fun x hx => by
    split
    · rename_i h; exact Nat.mod_eq_of_lt h
    · rename_i h; rw [Nat.mod_eq_sub_mod (by omega), Nat.mod_eq_of_lt (by omega)]
  rw [e1]
  by_cases hkn : k + 1 = n
  · rw [if_pos hkn, md _ (by omega), md (j + n - k) (by omega)]
    split <;> split <;> omega
  · rw [if_neg hkn, md _ (by omega), md (j + n - k) (by omega)]
    split <;> split <;> omega
theorem dist_next {n k : Nat} {p q : Nat → Bool} (hk : k < n) (hq : ∀ j, j < n → q j = true → p j = true) (hqk : q k = false) (hp : ∃ j, j < n ∧ p j = true) : dist n ((k + 1) % n) q < dist n k p := by
  have key : ∀ j, j < n → (if q j then 1 + (j + n - (k + 1) % n) % n else 0) ≤ (if p j then 1 + (j + n - k) % n else 0) ∧ (p j = true → (if q j then 1 + (j + n - (k + 1) % n) % n else 0) < (if p j then 1 + (j + n - k) % n else 0)) := fun j hj => by
    by_cases e : j = k
    · subst e
      rw [if_neg (by rw [hqk]; decide)]
      exact ⟨Nat.zero_le _, fun h => by rw [if_pos h]; omega⟩
    · have hm := next_mod hj hk e
      by_cases hqj : q j = true
      · rw [if_pos hqj, if_pos (hq j hj hqj)]
        exact ⟨by omega, fun _ => by omega⟩
      · rw [if_neg hqj]
        exact ⟨Nat.zero_le _, fun h => by rw [if_pos h]; omega⟩
  obtain ⟨j, hj, hpj⟩ := hp
  exact sum_map_lt _ _ _ (fun i hi => (key i (List.mem_range.1 hi)).1) ⟨j, List.mem_range.2 hj, (key j hj).2 hpj⟩
def mu (t : Sv) : Nat :=
  (t.g.ak - t.g.dn).toNat * 1000 + (if t.g.on then dist t.qs.length t.k (fun j => t.g.nd[j]?.getD false) else if t.g.dn < t.g.ak then 100 else 0) +
    (if t.g.dn < t.g.ak then 100 else dist t.qs.length t.k (fun j => !(qAt t.qs j).1.isEmpty))
theorem drQ_len (qs : Qs) (k j : Nat) : (drQ qs k j).length = qs.length := List.length_set
theorem overs_len (d d' : Int) (qs : Qs) : (overs d d' qs).length = qs.length := by unfold overs; split <;> simp
theorem turn_len (t : Sv) : (turnF t).qs.length = t.qs.length := by show (drQ _ _ _).length = _; rw [drQ_len]; exact overs_len _ _ _
theorem qAt_mem {qs : Qs} {k : Nat} (hk : k < qs.length) : qAt qs k ∈ qs := by unfold qAt; rw [List.getElem?_eq_getElem hk]; exact List.getElem_mem _
theorem quiet_at {s : St} (h : quietB s = true) (k : Nat) : decide (s.2.1[k]?.getD 0 = 0) = true := by
  rw [decide_eq_true_eq]
  unfold quietB at h
  rw [List.all_eq_true] at h
  rcases Nat.lt_or_ge k s.2.1.length with hk | hk
  · rw [List.getElem?_eq_getElem hk]
    exact of_decide_eq_true (h _ (List.getElem_mem hk))
  · rw [List.getElem?_eq_none hk]; rfl
/-- queues of which some first ones were run may be -/
theorem good_drain {s : St} {g : Gr} {qs : Qs} (h : RcGood s g qs) (k j : Nat) (hk : k < qs.length) : RcGood s g (drQ qs k j) := by
  obtain ⟨h1, h2, h3⟩ := h
  refine ⟨h1, by rw [drQ_len]; exact h2, fun y hy => ?_⟩
  rcases List.mem_or_eq_of_mem_set hy with hy | rfl
  · exact h3 y hy
  · obtain ⟨q1, q2, q3⟩ := h3 _ (qAt_mem hk)
    exact ⟨qg_drop q1 j, q2, fun z hz => q3 z (List.mem_of_mem_drop hz)⟩
theorem good_pick {s : St} {t : Sv} (h : SvOk s t) : RcGood s (gPick t.g t.k true) (pkQ t) := by
  obtain ⟨h1, h2, h3⟩ := h
  have e := opF_lt (s := s) (g := t.g) (qs := t.qs) (k := 4) (cp := t.k) (x := 0) (by omega) h3
  rw [if_neg (by decide), if_neg (by decide), if_pos rfl, quiet_at h2] at e
  have hg := good_opF (o := (4, (t.k : Int), 0)) h1 (by rw [e])
  rw [e] at hg
  exact hg
theorem pk_len (t : Sv) : (pkQ t).length = t.qs.length := overs_len _ _ _
theorem turn_ok {s : St} {t : Sv} (h : SvOk s t) : SvOk s (turnF t) := by
  refine ⟨good_drain (good_pick h) _ _ (by rw [pk_len]; exact h.2.2), h.2.1, ?_⟩
  rw [turn_len]
  exact Nat.mod_lt _ (by have := h.2.2; omega)
theorem done_all {o : Int} : ∀ {xs : List Cb}, (∀ c ∈ xs, c.1 ≤ o) → doneN o xs = xs.length
  | [], _ => rfl
  | x :: xs, h => by
    have ih := done_all (o := o) (xs := xs) fun c hc => h c (List.mem_cons_of_mem _ hc)
    unfold doneN at ih ⊢
    rw [List.takeWhile_cons, if_pos (decide_eq_true (h x List.mem_cons_self)), List.length_cons, List.length_cons, ih]
theorem wN_pos : ∀ {qs : Qs}, wN qs ≠ 0 → ∃ j, j < qs.length ∧ (qAt qs j).1.isEmpty = false
  | [], h => absurd rfl h
  | q :: qs, h => by
    by_cases hq : q.1.isEmpty = false
    · exact ⟨0, by simp, hq⟩
    · have hn : q.1 = [] := by simpa using hq
      obtain ⟨j, hj, h1⟩ := wN_pos (qs := qs) (fun e => h (by unfold wN at e ⊢; rw [List.map_cons, List.sum_cons, hn, e]; rfl))
      exact ⟨j + 1, by simpa using hj, by simpa [qAt] using h1⟩
/-- a turn brings the end nearer -/
theorem mu_turn {s : St} {t : Sv} (h : SvOk s t) (hi : idleB s t.g t.qs = false) : mu (turnF t) < mu t := by
  have hok := h
  obtain ⟨⟨⟨b1, b2, b3⟩, hlen, hq⟩, hqt, hk⟩ := h
  have hgo := b2
  obtain ⟨g1, g2, g3, g4, g5, g6, g7⟩ := b2
  have hn1 : 1 ≤ t.qs.length := by omega
  have hn8 : t.qs.length ≤ 8 := by omega
  have hd := fun k p => dist_le t.qs.length k p hn1 hn8
  unfold mu
  rw [turn_len]
  have eg : (turnF t).g = gPick t.g t.k true := rfl
  have ek : (turnF t).k = (t.k + 1) % t.qs.length := rfl
  rw [eg, ek]
  by_cases hon : t.g.on = true
  · have hp : gPick t.g t.k true = gReport t.g t.k := by unfold gPick; rw [hon]; rfl
    rw [hp]
    rw [hon] at g4
    simp only [if_true] at g4
    unfold gReport
    split
    · rename_i hid
      dsimp only
      have h1 := hd ((t.k + 1) % t.qs.length) (fun j => !(qAt (turnF t).qs j).1.isEmpty)
      rw [if_neg (by decide)]
      split <;> split <;> omega
    · rename_i hid
      dsimp only
      have hlt : t.g.dn < t.g.ak := by omega
      repeat rw [if_pos hlt]
      have h1 := dist_next (n := t.qs.length) (k := t.k) (p := fun j => t.g.nd[j]?.getD false) (q := fun j => (t.g.nd.set t.k false)[j]?.getD false) hk (fun j hj hj2 => by
        by_cases e : j = t.k
        · subst e
          rw [List.getElem?_set_self (by omega)] at hj2
          cases hj2
        · rw [List.getElem?_set_ne (Ne.symm e)] at hj2
          exact hj2) (by rw [List.getElem?_set_self (by omega)]; rfl) (by
        have hni : gIdle t.g.nd = false := by rw [hon] at g7; simpa using g7.symm
        unfold gIdle at hni
        rw [List.all_eq_false] at hni
        obtain ⟨x, hx, hx2⟩ := hni
        obtain ⟨j, hj, rfl⟩ := List.mem_iff_getElem.1 hx
        exact ⟨j, by omega, by rw [List.getElem?_eq_getElem hj]; simpa using hx2⟩)
      omega
  · have hof : t.g.on = false := by simpa using hon
    rw [hof] at g4
    simp only [Bool.false_eq_true, if_false] at g4
    by_cases hlt : t.g.dn < t.g.ak
    · have hp : gPick t.g t.k true = gBegin t.g := by unfold gPick; rw [hof, decide_eq_true hlt]; rfl
      rw [hp]
      have h1 := hd ((t.k + 1) % t.qs.length) (fun j => (gBegin t.g).nd[j]?.getD false)
      rw [if_pos (show (gBegin t.g).on = true from rfl), hof, if_neg (show ¬ (false = true) by decide), if_pos (show (gBegin t.g).dn < (gBegin t.g).ak from hlt)]
      repeat rw [if_pos hlt]
      show (t.g.ak - t.g.dn).toNat * 1000 + _ + _ < _
      omega
    · have hp : gPick t.g t.k true = t.g := by unfold gPick; rw [hof, decide_eq_false hlt]; rfl
      rw [hp, hof]
      repeat rw [if_neg (show ¬ (false = true) by decide)]
      repeat rw [if_neg hlt]
      have epk : pkQ t = t.qs := by unfold pkQ overs; rw [hp, if_neg (by omega)]
      have eq : (turnF t).qs = drQ t.qs t.k (drN t.qs t.k) := by show drQ (pkQ t) t.k (drN (pkQ t) t.k) = _; rw [epk]
      rw [eq]
      have hqk := hq _ (qAt_mem hk)
      have hdn : drN t.qs t.k = (qAt t.qs t.k).1.length := done_all fun c hc => by have := hqk.2.2 c hc; have := hqk.2.1; omega
      have hat : ∀ j, (qAt (drQ t.qs t.k (drN t.qs t.k)) j).1 = if j = t.k then [] else (qAt t.qs j).1 := fun j => by
        unfold qAt drQ
        by_cases e : j = t.k
        · subst e
          rw [if_pos rfl, List.getElem?_set_self hk, hdn]
          exact List.drop_length
        · rw [if_neg e, List.getElem?_set_ne (Ne.symm e)]
      have h1 := dist_next (n := t.qs.length) (k := t.k) (p := fun j => !(qAt t.qs j).1.isEmpty) (q := fun j => !(qAt (drQ t.qs t.k (drN t.qs t.k)) j).1.isEmpty) hk (fun j _ hj2 => by
        rw [hat] at hj2
        split at hj2
        · cases hj2
        · exact hj2) (by rw [hat, if_pos rfl]; rfl) (by
        have hw : wN t.qs ≠ 0 := fun e => by
          unfold idleB at hi
          rw [hqt, hof, decide_eq_true e, decide_eq_true (show t.g.ak = t.g.dn by omega)] at hi
          cases hi
        obtain ⟨j, hj, hj2⟩ := wN_pos hw
        exact ⟨j, hj, by rw [hj2]; rfl⟩)
      omega
def setN (s : St) : Nat → Sv → Sv
  | 0, t => t
  | n + 1, t => if idleB s t.g t.qs then t else setN s n (turnF t)
/-- settled -/
def setF (s : St) (t : Sv) : Sv := setN s (mu t) t
theorem setN_idle {s : St} {t : Sv} (h : idleB s t.g t.qs = true) : ∀ n, setN s n t = t
  | 0 => rfl
  | n + 1 => if_pos h
theorem setN_eq {s : St} : ∀ (m n : Nat) (t : Sv), SvOk s t → mu t ≤ m → mu t ≤ n → setN s m t = setN s n t := by
  intro m
  induction m with
  | zero =>
    intro n t h hm hn
    by_cases hi : idleB s t.g t.qs = true
    · rw [setN_idle hi, setN_idle hi]
    · have hlt := mu_turn h (by simpa using hi)
      omega
  | succ m ih =>
    intro n t h hm hn
    by_cases hi : idleB s t.g t.qs = true
    · rw [setN_idle hi, setN_idle hi]
    · have hlt := mu_turn h (by simpa using hi)
      cases n with
      | zero => omega
      | succ n =>
        unfold setN
        rw [if_neg hi, if_neg hi]
        exact ih n _ (turn_ok h) (by omega) (by omega)
theorem setF_idle {s : St} {t : Sv} (h : idleB s t.g t.qs = true) : setF s t = t := setN_idle h _
theorem setF_step {s : St} {t : Sv} (h : SvOk s t) (hi : idleB s t.g t.qs = false) : setF s t = setF s (turnF t) := by
  have hlt := mu_turn h hi
  unfold setF
  obtain ⟨m, hm⟩ : ∃ m, mu t = m + 1 := ⟨mu t - 1, by omega⟩
  rw [hm]
  show (if idleB s t.g t.qs then t else setN s m (turnF t)) = _
  rw [if_neg (by rw [hi]; decide)]
  exact setN_eq _ _ _ (turn_ok h) (by omega) (Nat.le_refl _)
/-- what holds at first, and outlives turns, holds at the end, where it is idle -/
theorem setF_ind {s : St} (P : Sv → Prop) (hs : ∀ t, SvOk s t → P t → idleB s t.g t.qs = false → P (turnF t)) : ∀ (n : Nat) (t : Sv), mu t ≤ n → SvOk s t → P t → P (setF s t) ∧ SvOk s (setF s t) ∧ idleB s (setF s t).g (setF s t).qs = true := by
  intro n
  induction n with
  | zero =>
    intro t hn h hp
    by_cases hi : idleB s t.g t.qs = true
    · rw [setF_idle hi]; exact ⟨hp, h, hi⟩
    · have hlt := mu_turn h (by simpa using hi)
      omega
  | succ n ih =>
    intro t hn h hp
    by_cases hi : idleB s t.g t.qs = true
    · rw [setF_idle hi]; exact ⟨hp, h, hi⟩
    · have hi' : idleB s t.g t.qs = false := by simpa using hi
      have hlt := mu_turn h hi'
      rw [setF_step h hi']
      exact ih _ (by omega) (turn_ok h) (hs t h hp hi')
end Go.Proofs.Ytfipdoofgbjbjaa
