/- package rcu: what a law keeps of each callback: with which step it was queued; that who runs it has waited, plainly. No condition. -/
import Derived.Test.YtfipdoofgbjbjaaRcS2
import Derived.Test.YtfipdoofgbjbjaaRc21
import Derived.Test.YtfipdoofgbjbjaaKitA
namespace Go.Proofs.Ytfipdoofgbjbjaa
open Go.RowKit
abbrev words (qs : Qs) (j : Nat) : List Int := (qAt qs j).1.map Prod.snd
def getI (L : List (Int × Int)) (k : Int) : Option Int := match L with
  | [] => none
  | x :: L => if x.1 = k then some x.2 else getI L k
def delI (L : List (Int × Int)) (k : Int) : List (Int × Int) := match L with
  | [] => []
  | x :: L => if x.1 = k then L else x :: delI L k
theorem putL_inW (L : List (Int × Int)) (k v : Int) : putL (inV L) k (.int .i64 v) = inV (putI L k v) := by
  induction L with
  | nil => rfl
  | cons x L ih =>
    show putL ((x.1, Value.int .i64 x.2) :: inV L) k _ = inV (putI (x :: L) k v)
    unfold putL putI
    by_cases e : x.1 = k
    · rw [if_pos e, if_pos e]; rfl
    · rw [if_neg e, if_neg e, ih]; rfl
theorem getL_inW (L : List (Int × Int)) (k : Int) : getL (inV L) k = (getI L k).map (fun v => Value.int .i64 v) := by
  induction L with
  | nil => rfl
  | cons x L ih =>
    show getL ((x.1, Value.int .i64 x.2) :: inV L) k = _
    unfold getL getI
    by_cases e : x.1 = k
    · rw [if_pos e, if_pos e]; rfl
    · rw [if_neg e, if_neg e, ih]
theorem delL_inW (L : List (Int × Int)) (k : Int) : delL (inV L) k = inV (delI L k) := by
  induction L with
  | nil => rfl
  | cons x L ih =>
    show delL ((x.1, Value.int .i64 x.2) :: inV L) k = _
    unfold delL delI
    by_cases e : x.1 = k
    · rw [if_pos e, if_pos e]
    · rw [if_neg e, if_neg e, ih]; rfl
theorem putI_new {L : List (Int × Int)} {k v : Int} (h : k ∉ L.map Prod.fst) : putI L k v = L ++ [(k, v)] := by
  induction L with
  | nil => rfl
  | cons x L ih =>
    rw [List.map_cons, List.mem_cons, not_or] at h
    unfold putI
    rw [if_neg (fun e => h.1 e.symm), ih h.2]; rfl
theorem getI_at {L : List (Int × Int)} {k v : Int} (hn : (L.map Prod.fst).Nodup) (h : (k, v) ∈ L) : getI L k = some v := by
  induction L with
  | nil => cases h
  | cons x L ih =>
    rw [List.map_cons, List.nodup_cons] at hn
    unfold getI
    rcases List.mem_cons.1 h with rfl | h
    · rw [if_pos rfl]
    · rw [if_neg (fun e => hn.1 (by rw [e]; exact List.mem_map.2 ⟨_, h, rfl⟩)), ih hn.2 h]
theorem delI_keys (L : List (Int × Int)) (k : Int) : (delI L k).map Prod.fst = (L.map Prod.fst).erase k := by
  induction L with
  | nil => rfl
  | cons x L ih =>
    unfold delI
    rw [List.map_cons, List.erase_cons]
    by_cases e : x.1 = k
    · rw [if_pos e, if_pos (by simpa using e)]
    · rw [if_neg e, if_neg (by simpa using e), List.map_cons, ih]
theorem delI_mem {L : List (Int × Int)} {k : Int} {z : Int × Int} (h : z ∈ L) (hk : z.1 ≠ k) : z ∈ delI L k := by
  induction L with
  | nil => cases h
  | cons x L ih =>
    unfold delI
    rcases List.mem_cons.1 h with rfl | h
    · rw [if_neg hk]; exact List.mem_cons_self
    · split
      · exact h
      · exact List.mem_cons_of_mem _ (ih h)
theorem delI_sub {L : List (Int × Int)} {k : Int} {z : Int × Int} (h : z ∈ delI L k) : z ∈ L := by
  induction L with
  | nil => cases h
  | cons x L ih =>
    unfold delI at h
    split at h
    · exact List.mem_cons_of_mem _ h
    · rcases List.mem_cons.1 h with rfl | h
      · exact List.mem_cons_self
      · exact List.mem_cons_of_mem _ (ih h)
theorem putI_self (L : List (Int × Int)) (k v : Int) : (k, v) ∈ putI L k v := by
  induction L with
  | nil => exact List.mem_singleton.2 rfl
  | cons x L ih =>
    unfold putI
    split
    · exact List.mem_cons_self
    · exact List.mem_cons_of_mem _ ih
theorem putI_other {L : List (Int × Int)} {k v : Int} {z : Int × Int} (h : z ∈ L) (hk : z.1 ≠ k) : z ∈ putI L k v := by
  induction L with
  | nil => cases h
  | cons x L ih =>
    unfold putI
    rcases List.mem_cons.1 h with rfl | h
    · rw [if_neg hk]; exact List.mem_cons_self
    · split
      · exact List.mem_cons_of_mem _ h
      · exact List.mem_cons_of_mem _ (ih h)
/-- with which step each callback was queued -/
structure WI (s : St) (g : Gr) (qs : Qs) (at_ L : List (Int × Int)) (many : Nat) : Prop where
  good : RcGood s g qs
  at1 : AtInv s g at_
  each : ∀ j, ∀ z ∈ (qAt qs j).1, ∃ st v, (z.2, st) ∈ L ∧ (z.1, v) ∈ at_ ∧ 0 ≤ st ∧ st ≤ v
  perm : (L.map Prod.fst).Perm (wAll qs)
  nodup : (L.map Prod.fst).Nodup
  le : ∀ z ∈ L, z.1 ≤ (many : Int)
theorem WI.wn {s : St} {g : Gr} {qs : Qs} {at_ L : List (Int × Int)} {many : Nat} (h : WI s g qs at_ L many) : wN qs = L.length := by
  have := h.perm.length_eq
  rw [List.length_map, wAll_len] at this
  exact this.symm
theorem WI.first {n : Nat} (h1 : 1 ≤ n) (h8 : n ≤ 8) : WI (nSt n) (nGr n) (nQs n) [] [] 0 := by
  have hw : wN (nQs n) = 0 := by
    unfold wN nQs
    rw [List.map_replicate]
    simp
  obtain ⟨k1, k2⟩ := wN_zero hw
  refine ⟨nGood h1 h8, ⟨fun _ h => (by cases h), fun k h1 h2 => absurd (show k ≤ (0 : Int) from h2) (by omega)⟩, fun j z hz => ?_, by rw [k1]; exact List.Perm.refl _, List.nodup_nil, fun _ h => (by cases h)⟩
  rw [k2 j] at hz; cases hz
theorem mem_wAll {qs : Qs} {j : Nat} {z : Cb} (h : z ∈ (qAt qs j).1) : z.2 ∈ wAll qs := by
  unfold qAt at h
  cases e : qs[j]? with
  | none => rw [e] at h; cases h
  | some q =>
    rw [e] at h
    unfold wAll
    exact List.mem_flatten.2 ⟨q.1.map Prod.snd, List.mem_map.2 ⟨q, List.mem_of_getElem? e, rfl⟩, List.mem_map.2 ⟨z, h, rfl⟩⟩
theorem wAll_snoc : ∀ (qs : Qs) (k : Nat) (z : Cb), k < qs.length → (wAll (qs.set k ((qAt qs k).1 ++ [z], (qAt qs k).2))).Perm (wAll qs ++ [z.2])
  | q :: qs, 0, z, _ => by
    show (((q.1 ++ [z]).map Prod.snd) ++ wAll qs).Perm ((q.1.map Prod.snd ++ wAll qs) ++ [z.2])
    rw [List.map_append, List.append_assoc, List.append_assoc]
    exact (List.perm_append_comm).append_left _
  | q :: qs, k + 1, z, h => by
    have ih := wAll_snoc qs k z (by simpa using h)
    show (q.1.map Prod.snd ++ wAll (qs.set k ((qAt qs k).1 ++ [z], (qAt qs k).2))).Perm ((q.1.map Prod.snd ++ wAll qs) ++ [z.2])
    rw [List.append_assoc]
    exact ih.append_left _
/-- one op, alone -/
theorem opsA_one (s : St) (g : Gr) (qs : Qs) (o : Int × Int × Int) : opsA s g qs [] [o] = if (opF s g qs o).1 = 0 then (0, (opF s g qs o).2.1, (opF s g qs o).2.2.1, (opF s g qs o).2.2.2.1, (opF s g qs o).2.2.2.2) else ((opF s g qs o).1, (0, [], []), zGr, [], []) := by
  unfold opsA
  split
  · unfold opsA; rfl
  · rfl
/-- an op that may be has a kind, and a CPU -/
theorem op_ok {s : St} {g : Gr} {qs : Qs} {k c x : Int} (h0 : (opF s g qs (k, c, x)).1 = 0) : (1 ≤ k ∧ k ≤ 5) ∧ ∃ cp : Nat, c = (cp : Int) ∧ cp < qs.length := by
  unfold opF at h0
  split at h0
  · exact absurd h0 (by simp)
  rename_i h1
  split at h0
  · exact absurd h0 (by simp)
  rename_i h2
  dsimp only at h1 h2
  exact ⟨by omega, c.toNat, by omega, by omega⟩
/-- what an op leaves of what is kept -/
inductive WOut (s : St) (g : Gr) (qs : Qs) (L : List (Int × Int)) (many : Nat) (k : Int) (cp : Nat) (r : Int × St × Gr × Qs × List Int) : Prop where
  | same (h3 : k ≠ 3) (h5 : k ≠ 5) (at2 : List (Int × Int)) (wi : WI r.2.1 r.2.2.1 r.2.2.2.1 at2 L many) (hw : ∀ j, words r.2.2.2.1 j = words qs j)
  | call (h3 : k = 3) (hs : r.2.1 = s) (hnew : ((many : Int) + 1) ∉ L.map Prod.fst) (at2 : List (Int × Int)) (wi : WI r.2.1 r.2.2.1 r.2.2.2.1 at2 (L ++ [((many : Int) + 1, s.1)]) (many + 1)) (hw : ∀ j, words r.2.2.2.1 j = if j = cp then words qs j ++ [(many : Int) + 1] else words qs j)
  | run (h5 : k = 5) (x st : Int) (xs : List Int) (hx : words qs cp = x :: xs) (hr : r.2.2.2.2 = [x]) (hs : r.2.1 = s) (hg : getI L x = some st) (hp : PassedP s.1 s.2.1 s.2.2 st) (at2 : List (Int × Int)) (wi : WI r.2.1 r.2.2.1 r.2.2.2.1 at2 (delI L x) many) (hw : ∀ j, words r.2.2.2.1 j = if j = cp then xs else words qs j)
theorem wi_step {s : St} {g : Gr} {qs : Qs} {at_ L : List (Int × Int)} {many : Nat} (h : WI s g qs at_ L many) {k x : Int} {cp : Nat} (hx : k = 3 → x = (many : Int) + 1) (h0 : (opF s g qs (k, (cp : Int), x)).1 = 0) (hk : 1 ≤ k ∧ k ≤ 5) (hc : cp < qs.length) :
    WOut s g qs L many k cp (0, (opF s g qs (k, (cp : Int), x)).2) := by
  have hgo := good_opF h.good h0
  rw [opF_lt hk hc] at h0 hgo ⊢
  obtain ⟨b1, b2, b3⟩ := h.good.1
  by_cases k1 : k = 1 ∨ k = 2
  · rw [if_pos k1] at h0 hgo ⊢
    exact .same (by omega) (by omega) at_ ⟨hgo, at_reads h.at1 h.good.1 h0, h.each, h.perm, h.nodup, h.le⟩ (fun _ => rfl)
  rw [if_neg k1] at h0 hgo ⊢
  by_cases k3 : k = 3
  · obtain rfl := hx k3
    rw [if_pos k3] at h0 hgo ⊢
    by_cases hf : 2147483645 < gNext g
    · rw [if_pos hf] at h0; exact absurd h0 (by simp)
    rw [if_neg hf] at h0 hgo ⊢
    obtain ⟨p1, p2, p3, p4, p5, p6⟩ := putF_ok h0
    rw [p6] at hgo ⊢
    have hov := (h.good.2.2 _ (qAt_mem hc)).2.1
    have hper : (qAt qs cp).2 + (gNext g - g.dn) = gNext g := by omega
    have hnew : ((many : Int) + 1) ∉ L.map Prod.fst := fun hm => by
      obtain ⟨z, hz, e⟩ := List.mem_map.1 hm
      have := h.le z hz
      omega
    have hqj : ∀ j, (qAt (qs.set cp ((qAt qs cp).1 ++ [((qAt qs cp).2 + (gNext g - g.dn), (many : Int) + 1)], (qAt qs cp).2)) j).1 = if j = cp then (qAt qs cp).1 ++ [(gNext g, (many : Int) + 1)] else (qAt qs j).1 := fun j => by
      unfold qAt
      by_cases e : j = cp
      · subst e
        rw [if_pos rfl, List.getElem?_set_self hc]
        show _ ++ [_] = _
        rw [show (qs[j]?.getD ([], 0)).2 + (gNext g - g.dn) = gNext g from hper]
      · rw [if_neg e, List.getElem?_set_ne (Ne.symm e)]
    refine .call k3 rfl hnew (putI at_ (gNext g) s.1) ⟨hgo, at_asks h.at1 h.good.1, fun j z hz => ?_, ?_, ?_, fun z hz => ?_⟩ (fun j => ?_)
    · have hold : ∀ z ∈ (qAt qs j).1, ∃ st v, (z.2, st) ∈ L ++ [((many : Int) + 1, s.1)] ∧ (z.1, v) ∈ putI at_ (gNext g) s.1 ∧ 0 ≤ st ∧ st ≤ v := fun z hz => by
        obtain ⟨st, v, a1, a2, a3, a4⟩ := h.each j z hz
        have hv := (h.at1.1 _ a2).2.2.2.1
        dsimp only at hv
        by_cases e : z.1 = gNext g
        · refine ⟨st, s.1, List.mem_append_left _ a1, ?_, a3, by omega⟩
          rw [e]
          exact putI_self _ _ _
        · exact ⟨st, v, List.mem_append_left _ a1, putI_other a2 e, a3, a4⟩
      have hz' : z ∈ if j = cp then (qAt qs cp).1 ++ [(gNext g, (many : Int) + 1)] else (qAt qs j).1 := by rw [← hqj j]; exact hz
      split at hz'
      · rename_i e
        subst e
        rcases List.mem_append.1 hz' with hz' | hz'
        · exact hold z hz'
        · obtain rfl := List.mem_singleton.1 hz'
          exact ⟨s.1, s.1, List.mem_append_right _ (List.mem_singleton.2 rfl), putI_self _ _ _, b1.1.2.2.2.1, Int.le_refl _⟩
      · exact hold z hz'
    · rw [List.map_append]
      exact (h.perm.append_right _).trans (wAll_snoc qs cp ((qAt qs cp).2 + (gNext g - g.dn), (many : Int) + 1) hc).symm
    · rw [List.map_append]
      refine List.nodup_append.2 ⟨h.nodup, by simp, fun a ha b hb => ?_⟩
      obtain rfl := List.mem_singleton.1 hb
      exact fun e => hnew (by have e2 : a = (many : Int) + 1 := e; rw [← e2]; exact ha)
    · rcases List.mem_append.1 hz with hz | hz
      · have := h.le z hz; omega
      · obtain rfl := List.mem_singleton.1 hz
        show (many : Int) + 1 ≤ _; omega
    · show ((qAt (qs.set cp _) j).1).map Prod.snd = _
      rw [hqj j]
      split
      · rename_i e; rw [e, List.map_append]; rfl
      · rfl
  rw [if_neg k3] at h0 hgo ⊢
  by_cases k4 : k = 4
  · rw [if_pos k4] at hgo ⊢
    have hjw : ∀ j, (qAt (overs g.dn (gPick g cp (decide (s.2.1[cp]?.getD 0 = 0))).dn qs) j).1 = (qAt qs j).1 := fun j => at_overs _ _ _ _
    refine .same (by omega) (by omega) at_ ⟨hgo, at_picks h.at1 h.good.1 cp (by rw [← h.good.2.1]; exact hc), fun j z hz => ?_, ?_, h.nodup, h.le⟩ (fun j => ?_)
    · exact h.each j z (by rw [← hjw j]; exact hz)
    · show (L.map Prod.fst).Perm (wAll (overs _ _ _))
      rw [wAll_overs]; exact h.perm
    · show ((qAt (overs _ _ _) j).1).map Prod.snd = _
      rw [hjw j]
  · rw [if_neg k4] at h0 hgo ⊢
    obtain ⟨p1, p2, p3⟩ := takeF_ok h0
    rw [p3] at hgo ⊢
    have hov := (h.good.2.2 _ (qAt_mem hc)).2.1
    have hle := doneN_le (qAt qs cp).2 (qAt qs cp).1
    obtain ⟨z0, zs, hz0⟩ : ∃ z0 zs, (qAt qs cp).1 = z0 :: zs := by
      cases e : (qAt qs cp).1 with
      | nil =>
        have p3 : 0 < doneN (qAt qs cp).2 (qAt qs cp).1 := p2
        rw [e] at p3
        exact absurd p3 (Nat.lt_irrefl 0)
      | cons a l => exact ⟨a, l, rfl⟩
    have hper : z0.1 ≤ g.dn := by
      have h1 := doneN_lt p2
      unfold perAt at h1
      change ((qAt qs cp).1[0]?.getD (0, 0)).1 ≤ _ at h1
      rw [hz0] at h1
      have h2 : z0.1 ≤ (qAt qs cp).2 := h1
      omega
    obtain ⟨st, v, a1, a2, a3, a4⟩ := h.each cp z0 (by rw [hz0]; exact List.mem_cons_self)
    have hps := at_passed h.at1 h.good.1 a2 hper
    have hfst : ((qAt qs cp).1[0]?.getD (0, 0)).2 = z0.2 := by rw [hz0]; rfl
    have hdr : drR qs cp 1 = [z0.2] := by unfold drR; rw [hz0]; rfl
    have hpm := wAll_drain qs cp 1 hc
    rw [hdr] at hpm
    have hnd : (z0.2 :: wAll (drQ qs cp 1)).Nodup := (hpm.trans h.perm.symm).nodup_iff.2 h.nodup
    have hqj : ∀ j, (qAt (drQ qs cp 1) j).1 = if j = cp then zs else (qAt qs j).1 := fun j => by
      unfold drQ
      show (((qs.set cp _)[j]?).getD ([], 0)).1 = _
      by_cases e : j = cp
      · subst e
        rw [if_pos rfl, List.getElem?_set_self hc]
        show (qAt qs j).1.drop 1 = zs
        rw [hz0]; rfl
      · rw [if_neg e, List.getElem?_set_ne (Ne.symm e)]
    refine .run (by omega) z0.2 st (zs.map Prod.snd) (by show (qAt qs cp).1.map Prod.snd = _; rw [hz0]; rfl) (by show [_] = _; rw [← hfst]) rfl (getI_at h.nodup a1)
      ⟨hps.1, a3, by have := hps.2.2.1; omega, fun a ha => by have := hps.2.2.2 a ha; omega⟩ at_ ⟨hgo, h.at1, fun j z hz => ?_, ?_, ?_, fun z hz => h.le z (delI_sub hz)⟩ (fun j => ?_)
    · have hz1 : z ∈ (qAt (drQ qs cp 1) j).1 := hz
      have hz2 : z ∈ (qAt qs j).1 := by
        rw [hqj j] at hz1
        split at hz1
        · rename_i e; subst e; rw [hz0]; exact List.mem_cons_of_mem _ hz1
        · exact hz1
      obtain ⟨st2, v2, c1, c2, c3, c4⟩ := h.each j z hz2
      exact ⟨st2, v2, delI_mem c1 (fun e => (List.nodup_cons.1 hnd).1 (by have := mem_wAll hz1; rw [← e]; exact this)), c2, c3, c4⟩
    · rw [delI_keys]
      have h1 := (h.perm.trans hpm.symm).erase z0.2
      rw [show [z0.2] ++ wAll (drQ qs cp 1) = z0.2 :: wAll (drQ qs cp 1) from rfl, List.erase_cons_head] at h1
      exact h1
    · rw [delI_keys]
      exact h.nodup.erase _
    · show ((qAt (drQ qs cp 1) j).1).map Prod.snd = _
      rw [hqj j]
      split <;> rfl
end Go.Proofs.Ytfipdoofgbjbjaa
