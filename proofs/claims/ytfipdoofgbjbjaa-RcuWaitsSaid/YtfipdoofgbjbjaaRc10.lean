/- package rcu: what a cpu does, by its kind, plainly and as it is called. No condition but sizes. -/
import Derived.Test.YtfipdoofgbjbjaaRc9
import Derived.Test.YtfipdoofgbjbjaaGrP
namespace Go.Proofs.Ytfipdoofgbjbjaa
open Go.RowKit
abbrev Qs := List (List Cb × Int)
/-- an op: the error, the readers, the grace, the queues, what was run -/
def opF (s : St) (g : Gr) (qs : Qs) (o : Int × Int × Int) : Int × St × Gr × Qs × List Int :=
  if o.1 < 1 ∨ 5 < o.1 then (242, s, g, qs, []) else if o.2.1 < 0 ∨ (qs.length : Int) ≤ o.2.1 then (2, s, g, qs, [])
  else if o.1 = 1 ∨ o.1 = 2 then (stC s (o.2.1, decide (o.1 = 1)), stN s (o.2.1, decide (o.1 = 1)), g, qs, [])
  else if o.1 = 3 then (if 2147483645 < gNext g then (6, s, g, qs, []) else
    ((putF (qs[o.2.1.toNat]?.getD ([], 0)).2 (qs[o.2.1.toNat]?.getD ([], 0)).1 o.2.2 (gNext g - g.dn)).2.2, s, gAsk g, qs.set o.2.1.toNat ((putF (qs[o.2.1.toNat]?.getD ([], 0)).2 (qs[o.2.1.toNat]?.getD ([], 0)).1 o.2.2 (gNext g - g.dn)).2.1, (putF (qs[o.2.1.toNat]?.getD ([], 0)).2 (qs[o.2.1.toNat]?.getD ([], 0)).1 o.2.2 (gNext g - g.dn)).1), []))
  else if o.1 = 4 then (0, s, gPick g o.2.1.toNat (decide (s.2.1[o.2.1.toNat]?.getD 0 = 0)), overs g.dn (gPick g o.2.1.toNat (decide (s.2.1[o.2.1.toNat]?.getD 0 = 0))).dn qs, [])
  else ((takeF (qs[o.2.1.toNat]?.getD ([], 0)).2 (qs[o.2.1.toNat]?.getD ([], 0)).1).2.2.2, s, g, qs.set o.2.1.toNat ((takeF (qs[o.2.1.toNat]?.getD ([], 0)).2 (qs[o.2.1.toNat]?.getD ([], 0)).1).2.1, (takeF (qs[o.2.1.toNat]?.getD ([], 0)).2 (qs[o.2.1.toNat]?.getD ([], 0)).1).1), [(takeF (qs[o.2.1.toNat]?.getD ([], 0)).2 (qs[o.2.1.toNat]?.getD ([], 0)).1).2.2.1])
/-- all of it may be -/
def RcGood (s : St) (g : Gr) (qs : Qs) : Prop := Both s g ∧ qs.length = g.nd.length ∧ ∀ q ∈ qs, QGood q.2 q.1 ∧ q.2 = g.dn ∧ ∀ c ∈ q.1, c.1 ≤ g.ak
/-- what a method leaves -/
def MPost (l gc : Nat) (s : St) (g : Gr) (es : List Qe) (ran : List Int) (a : Ra) (nr : Nat) (o : Int × Int × Int) (w : World) (x : Ending) (w' : World) : Prop :=
  GrownP (fun i => l ≤ i) w w' ∧ (((opF s g (ql es) o).1 = 0 ∧ x = .returned (.tuple #[]) ∧ ∃ a' es' is' what' R' nr' kr', a'.Q = a.Q ∧ a'.nq = a.nq ∧ nr' ≤ nr + 1 ∧ ql es' = (opF s g (ql es) o).2.2.2.1 ∧
    CA w' l gc (opF s g (ql es) o).2.1 (opF s g (ql es) o).2.2.1 es' is' what' (ran ++ (opF s g (ql es) o).2.2.2.2) a' R' nr' kr') ∨ ((opF s g (ql es) o).1 ≠ 0 ∧ x = leaves (opF s g (ql es) o).1))
section
variable {w w' : World} {l gc : Nat} {s : St} {g : Gr} {es : List Qe} {is what : Int} {ran : List Int} {a : Ra} {R : Option Addr} {nr kr : Nat}
theorem CA.ge (h : CA w l gc s g es is what ran a R nr kr) : ∀ i, CS gc a.Q R i → l ≤ i := by
  rintro i (rfl | ⟨b, hb, rfl⟩ | ⟨b, hb, rfl⟩)
  · exact h.lg
  · exact (h.qs.blk b hb).1
  · exact (h.rn.blk b hb).1
theorem CA.low (h : CA w l gc s g es is what ran a R nr kr) : l ≤ w.heap.size := by have := h.box.lt; have := h.lg; omega
theorem ql_at (es : List Qe) {k : Nat} (hk : k < es.length) : (ql es)[k]?.getD ([], 0) = ((es[k]?.getD zQe).l, (es[k]?.getD zQe).o) := by
  unfold ql
  rw [List.getElem?_map, List.getElem?_eq_getElem hk]; rfl
theorem ql_len (es : List Qe) : (ql es).length = es.length := by unfold ql; rw [List.length_map]
theorem ql_set (es : List Qe) (k : Nat) (x : Qe) : ql (es.set k x) = (ql es).set k (x.l, x.o) := by unfold ql; rw [List.map_set]
theorem ql_mem {es : List Qe} {x : Qe} (h : x ∈ es) : (x.l, x.o) ∈ ql es := List.mem_map.2 ⟨x, h, rfl⟩
end
section
variable {w w' : World} {l gc : Nat} {s : St} {g : Gr} {es : List Qe} {what : Int} {ran : List Int} {a : Ra} {R : Option Addr} {nr kr cp : Nat}
theorem opF_lt {s : St} {g : Gr} {qs : Qs} {k : Int} {cp : Nat} {x : Int} (hk : 1 ≤ k ∧ k ≤ 5) (hc : cp < qs.length) : opF s g qs (k, (cp : Int), x) =
    if k = 1 ∨ k = 2 then (stC s ((cp : Int), decide (k = 1)), stN s ((cp : Int), decide (k = 1)), g, qs, [])
    else if k = 3 then (if 2147483645 < gNext g then (6, s, g, qs, []) else
      ((putF (qs[cp]?.getD ([], 0)).2 (qs[cp]?.getD ([], 0)).1 x (gNext g - g.dn)).2.2, s, gAsk g, qs.set cp ((putF (qs[cp]?.getD ([], 0)).2 (qs[cp]?.getD ([], 0)).1 x (gNext g - g.dn)).2.1, (putF (qs[cp]?.getD ([], 0)).2 (qs[cp]?.getD ([], 0)).1 x (gNext g - g.dn)).1), []))
    else if k = 4 then (0, s, gPick g cp (decide (s.2.1[cp]?.getD 0 = 0)), overs g.dn (gPick g cp (decide (s.2.1[cp]?.getD 0 = 0))).dn qs, [])
    else ((takeF (qs[cp]?.getD ([], 0)).2 (qs[cp]?.getD ([], 0)).1).2.2.2, s, g, qs.set cp ((takeF (qs[cp]?.getD ([], 0)).2 (qs[cp]?.getD ([], 0)).1).2.1, (takeF (qs[cp]?.getD ([], 0)).2 (qs[cp]?.getD ([], 0)).1).1), [(takeF (qs[cp]?.getD ([], 0)).2 (qs[cp]?.getD ([], 0)).1).2.2.1]) := by
  unfold opF
  rw [if_neg (by show ¬ (k < 1 ∨ 5 < k); omega), if_neg (by show ¬ ((cp : Int) < 0 ∨ (qs.length : Int) ≤ cp); omega)]
  simp only [Int.toNat_natCast]
theorem m_reads (ent : Bool) (F : Nat) (hF : F = if ent then 53 else 54) (h : CA w l gc s g es cp what ran a R nr kr) (hg : RcGood s g (ql es)) (hc : cp < es.length) (x : Int) :
    Calls Try.prog F #[ptr gc] w (MPost l gc s g es ran a nr (if ent then 1 else 2, (cp : Int), x) w) := by
  have e : opF s g (ql es) (if ent then 1 else 2, (cp : Int), x) = (stC s ((cp : Int), ent), stN s ((cp : Int), ent), g, ql es, []) := by
    rw [opF_lt (by cases ent <;> decide) (by rw [ql_len]; exact hc)]
    cases ent <;> simp
  unfold MPost
  rw [e]
  have hge := h.ge
  by_cases h0 : stC s ((cp : Int), ent) = 0
  · cases ent
    · subst hF
      refine (rleave_yes l gc s g es cp what ran a R nr kr w h hg.1.1 h0).mono ?_
      rintro y w' ⟨rfl, ⟨a', k1, k2, k3, k4⟩, k5⟩
      exact ⟨k5.mono hge, .inl ⟨h0, rfl, a', es, _, _, R, nr, kr, k1, k2, by omega, rfl, by rw [List.append_nil]; exact k4⟩⟩
    · subst hF
      refine (renter_yes l gc s g es cp what ran a R nr kr w h hg.1.1 h0).mono ?_
      rintro y w' ⟨rfl, ⟨a', k1, k2, k3, k4⟩, k5⟩
      exact ⟨k5.mono hge, .inl ⟨h0, rfl, a', es, _, _, R, nr, kr, k1, k2, by omega, rfl, by rw [List.append_nil]; exact k4⟩⟩
  · cases ent
    · subst hF
      refine (rleave_no l gc s g es cp what ran a R nr kr w h hg.1.1 h0).mono ?_
      rintro y w' ⟨rfl, k5⟩
      exact ⟨.ofBelow k5, .inr ⟨h0, rfl⟩⟩
    · subst hF
      refine (renter_no l gc s g es cp what ran a R nr kr w h hg.1.1 h0).mono ?_
      rintro y w' ⟨rfl, k5⟩
      exact ⟨.ofBelow k5, .inr ⟨h0, rfl⟩⟩
theorem putF_shape (o : Int) (l : List Cb) (x d : Int) : (putF o l x d).2.2 = 0 ∧ (putF o l x d) = (o, l ++ [(o + d, x)], 0) ∨ (putF o l x d).2.2 ≠ 0 ∧ putF o l x d = (0, [], (putF o l x d).2.2) := by
  unfold putF
  split
  · exact .inr ⟨by simp, rfl⟩
  · split
    · exact .inr ⟨by simp, rfl⟩
    · split
      · exact .inr ⟨by simp, rfl⟩
      · split
        · exact .inr ⟨by simp, rfl⟩
        · exact .inl ⟨rfl, rfl⟩
theorem takeF_shape (o : Int) (l : List Cb) : (takeF o l).2.2.2 = 0 ∧ takeF o l = (o, l.drop 1, (l[0]?.getD (0, 0)).2, 0) ∨ (takeF o l).2.2.2 ≠ 0 ∧ takeF o l = (0, [], 0, (takeF o l).2.2.2) := by
  unfold takeF
  split
  · exact .inr ⟨by simp, rfl⟩
  · split
    · exact .inr ⟨by simp, rfl⟩
    · exact .inl ⟨rfl, rfl⟩
theorem m_call (h : CA w l gc s g es cp what ran a R nr kr) (hg : RcGood s g (ql es)) (hc : cp < es.length) :
    Calls Try.prog 55 #[ptr gc] w (MPost l gc s g es ran a nr (3, (cp : Int), what) w) := by
  have hlen : a.nq = es.length := h.qs.len.symm
  have h8 := hg.1.2.1.2.1
  have hql := hg.2.1
  rw [ql_len] at hql
  unfold MPost
  rw [opF_lt (by decide) (by rw [ql_len]; exact hc), if_neg (by decide), if_pos rfl, ql_at es hc]
  dsimp only
  have hge := h.ge
  have hmem : es[cp]?.getD zQe ∈ es := by rw [List.getElem?_eq_getElem hc]; exact List.getElem_mem _
  obtain ⟨hq1, hq2, hq3⟩ := hg.2.2 _ (ql_mem hmem)
  by_cases hf : 2147483645 < gNext g
  · rw [if_pos hf]
    refine (rcall_full l gc s g es cp what ran a R nr kr w h (by omega) (by omega) _ rfl hg.1.2.1 (by omega)).mono ?_
    rintro y w' ⟨rfl, k5⟩
    exact ⟨.ofBelow k5, .inr ⟨by simp, rfl⟩⟩
  · rw [if_neg hf]
    rcases putF_shape (es[cp]?.getD zQe).o (es[cp]?.getD zQe).l what (gNext g - g.dn) with ⟨h0, he⟩ | ⟨h0, he⟩
    · rw [he]
      refine (rcall_yes l gc s g es cp what ran a R nr kr w h (by omega) (by omega) _ rfl hg.1.2.1 (by omega) _ _ he (by have := hg.1.2.1.small; dsimp only at hq2; omega) (by rw [List.length_append]; have := hq1.2.1; dsimp only at this; simp; omega)).mono ?_
      rintro y w' ⟨rfl, ⟨a', k1, k2, k3, A, n, c, k4⟩, k5⟩
      exact ⟨k5.mono hge, .inl ⟨rfl, rfl, a', _, _, _, R, nr, kr, k1, k2, by omega, ql_set _ _ _, by rw [List.append_nil]; exact k4⟩⟩
    · rw [he]
      refine (rcall_err l gc s g es cp what ran a R nr kr w h (by omega) (by omega) _ rfl hg.1.2.1 (by omega) _ he h0).mono ?_
      rintro y w' ⟨rfl, k5⟩
      exact ⟨.ofBelow k5, .inr ⟨h0, rfl⟩⟩
theorem m_run (h : CA w l gc s g es cp what ran a R nr kr) (hg : RcGood s g (ql es)) (hc : cp < es.length) (hnr : nr ≤ 1000000) (x : Int) :
    Calls Try.prog 41 #[ptr gc] w (MPost l gc s g es ran a nr (5, (cp : Int), x) w) := by
  have hlen : a.nq = es.length := h.qs.len.symm
  have h8 := hg.1.2.1.2.1
  have hql := hg.2.1
  rw [ql_len] at hql
  unfold MPost
  rw [opF_lt (by decide) (by rw [ql_len]; exact hc), if_neg (by decide), if_neg (by decide), if_neg (by decide), ql_at es hc]
  dsimp only
  have hge := h.ge
  have hmem : es[cp]?.getD zQe ∈ es := by rw [List.getElem?_eq_getElem hc]; exact List.getElem_mem _
  obtain ⟨hq1, hq2, hq3⟩ := hg.2.2 _ (ql_mem hmem)
  rcases takeF_shape (es[cp]?.getD zQe).o (es[cp]?.getD zQe).l with ⟨h0, he⟩ | ⟨h0, he⟩
  · rw [he]
    refine (rrun_yes l gc s g es cp what ran a R nr kr w h (by omega) (by omega) _ rfl _ _ _ he (by have := hg.1.2.1.small; dsimp only at hq2; omega) (by rw [List.length_drop]; have := hq1.2.1; dsimp only at this; omega) hnr).mono ?_
    rintro y w' ⟨rfl, ⟨R', kr', A, n, c, k4⟩, k5⟩
    exact ⟨k5.mono hge, .inl ⟨rfl, rfl, a, _, _, _, R', nr + 1, kr', rfl, rfl, Nat.le_refl _, ql_set _ _ _, k4⟩⟩
  · rw [he]
    refine (rrun_no l gc s g es cp what ran a R nr kr w h (by omega) (by omega) _ rfl _ he h0).mono ?_
    rintro y w' ⟨rfl, k5⟩
    exact ⟨.ofBelow k5, .inr ⟨h0, rfl⟩⟩
theorem m_pick (h : CA w l gc s g es cp what ran a R nr kr) (hg : RcGood s g (ql es)) (hc : cp < es.length) (x : Int) :
    Calls Try.prog 39 #[ptr gc] w (MPost l gc s g es ran a nr (4, (cp : Int), x) w) := by
  have hlen : a.nq = es.length := h.qs.len.symm
  have h8 := hg.1.2.1.2.1
  have hql := hg.2.1
  rw [ql_len] at hql
  unfold MPost
  rw [opF_lt (by decide) (by rw [ql_len]; exact hc), if_neg (by decide), if_neg (by decide), if_pos rfl]
  dsimp only
  have hge := h.ge
  refine (rpick_any l gc s g es cp what ran a R nr kr w h (by omega) (by omega) (by omega) hg.1.2.1 (decide (s.2.1[cp]?.getD 0 = 0)) ?_ (fun x hx => ⟨(hg.2.2 _ (ql_mem hx)).1, (hg.2.2 _ (ql_mem hx)).2.1⟩)).mono ?_
  · rw [decide_eq_decide]
    constructor
    · exact fun h => by have := h.2.2.2; rwa [Int.toNat_natCast] at this
    · exact fun h => ⟨hg.1.1, by omega, by rw [hg.1.2.2]; omega, by rw [Int.toNat_natCast]; exact h⟩
  · rintro y w' ⟨rfl, ⟨a', k1, k2, k3, es', k6, k4⟩, k5⟩
    exact ⟨k5.mono hge, .inl ⟨rfl, rfl, a', es', _, _, R, nr, kr, k1, k2, by omega, k6, by rw [List.append_nil]; exact k4⟩⟩
end
end Go.Proofs.Ytfipdoofgbjbjaa
