/- package rcu: what settling ran: all that waited, each CPU's in its order. No condition. -/
import Derived.Test.YtfipdoofgbjbjaaRcS
namespace Go.Proofs.Ytfipdoofgbjbjaa
open Go.RowKit
/-- the words of all that waits -/
def wAll (qs : Qs) : List Int := (qs.map fun q => q.1.map Prod.snd).flatten
theorem wAll_len : ∀ qs : Qs, (wAll qs).length = wN qs
  | [] => rfl
  | q :: qs => by
    have ih := wAll_len qs
    unfold wAll wN at ih ⊢
    simp only [List.map_cons, List.flatten_cons, List.length_append, List.length_map, List.sum_cons, ih]
theorem wAll_overs (d d' : Int) (qs : Qs) : wAll (overs d d' qs) = wAll qs := by
  unfold overs wAll
  split
  · rw [List.map_map]; rfl
  · rfl
theorem at_overs (d d' : Int) (qs : Qs) (j : Nat) : (qAt (overs d d' qs) j).1 = (qAt qs j).1 := by
  unfold overs qAt
  split
  · rw [List.getElem?_map]; cases qs[j]? <;> rfl
  · rfl
theorem wAll_drain : ∀ (qs : Qs) (k j : Nat), k < qs.length → (drR qs k j ++ wAll (drQ qs k j)).Perm (wAll qs)
  | q :: qs, 0, j, _ => by
    show ((q.1.take j).map Prod.snd ++ ((q.1.drop j).map Prod.snd ++ wAll qs)).Perm (q.1.map Prod.snd ++ wAll qs)
    rw [← List.append_assoc, ← List.map_append, List.take_append_drop]
  | q :: qs, k + 1, j, h => by
    have ih := wAll_drain qs k j (by simpa using h)
    show (drR qs k j ++ (q.1.map Prod.snd ++ wAll (drQ qs k j))).Perm (q.1.map Prod.snd ++ wAll qs)
    exact (List.perm_append_comm_assoc _ _ _).trans (ih.append_left _)
/-- what was run, and what waits still -/
structure RanInv (q0 : Qs) (t : Sv) : Prop where
  perm : (t.ran ++ wAll t.qs).Perm (wAll q0)
  sub : ∀ j, ∃ d, (qAt t.qs j).1 = (qAt q0 j).1.drop d ∧ (((qAt q0 j).1.take d).map Prod.snd).Sublist t.ran
theorem ran_first (g : Gr) (q0 : Qs) (k : Nat) : RanInv q0 ⟨g, q0, [], k⟩ :=
  ⟨List.Perm.refl _, fun j => ⟨0, rfl, List.Sublist.refl _⟩⟩
theorem ran_turn {s : St} {q0 : Qs} {t : Sv} (h : SvOk s t) (hr : RanInv q0 t) : RanInv q0 (turnF t) := by
  have hk : t.k < (pkQ t).length := by rw [pk_len]; exact h.2.2
  have hat : ∀ j, (qAt (pkQ t) j).1 = (qAt t.qs j).1 := fun j => at_overs _ _ _ _
  refine ⟨?_, fun j => ?_⟩
  · show ((t.ran ++ drR (pkQ t) t.k _) ++ wAll (drQ (pkQ t) t.k _)).Perm _
    rw [List.append_assoc]
    refine ((wAll_drain (pkQ t) t.k _ hk).append_left _).trans ?_
    show (t.ran ++ wAll (overs _ _ _)).Perm _
    rw [wAll_overs]
    exact hr.perm
  · obtain ⟨d, h1, h2⟩ := hr.sub j
    show ∃ e, (qAt (drQ (pkQ t) t.k (drN (pkQ t) t.k)) j).1 = _ ∧ List.Sublist _ (t.ran ++ drR (pkQ t) t.k _)
    by_cases e : j = t.k
    · subst e
      refine ⟨d + drN (pkQ t) t.k, ?_, ?_⟩
      · unfold drQ
        show (((pkQ t).set t.k _)[t.k]?.getD ([], 0)).1 = _
        rw [List.getElem?_set_self hk]
        show (qAt (pkQ t) t.k).1.drop _ = _
        rw [hat, h1, List.drop_drop]
      · unfold drR
        rw [hat, h1, List.take_add, List.map_append]
        exact h2.append (List.Sublist.refl _)
    · refine ⟨d, ?_, h2.trans (List.sublist_append_left _ _)⟩
      unfold drQ
      show (((pkQ t).set t.k _)[j]?.getD ([], 0)).1 = _
      rw [List.getElem?_set_ne (Ne.symm e)]
      exact (hat j).trans h1
theorem wN_zero : ∀ {qs : Qs}, wN qs = 0 → wAll qs = [] ∧ ∀ j, (qAt qs j).1 = []
  | [], _ => ⟨rfl, fun j => rfl⟩
  | q :: qs, h => by
    unfold wN at h
    rw [List.map_cons, List.sum_cons] at h
    obtain ⟨h1, h2⟩ := wN_zero (qs := qs) (by unfold wN; omega)
    have hq : q.1 = [] := List.eq_nil_of_length_eq_zero (by omega)
    refine ⟨?_, fun j => ?_⟩
    · show q.1.map Prod.snd ++ wAll qs = []
      rw [hq, h1]; rfl
    · cases j with
      | zero => exact hq
      | succ j => exact h2 j
theorem idle_wN {s : St} {g : Gr} {qs : Qs} (h : idleB s g qs = true) : wN qs = 0 := by
  unfold idleB at h
  simp only [Bool.and_eq_true, decide_eq_true_eq] at h
  exact h.2.1
/-- what is settled is idle, may be, and has run all that waited -/
theorem settled {s : St} {t : Sv} (h : SvOk s t) (hr : t.ran = []) :
    SvOk s (setF s t) ∧ idleB s (setF s t).g (setF s t).qs = true ∧ (setF s t).ran.Perm (wAll t.qs) ∧ ∀ j, ((qAt t.qs j).1.map Prod.snd).Sublist (setF s t).ran := by
  obtain ⟨h1, h2, h3⟩ := setF_ind (s := s) (RanInv t.qs) (fun u hu hp _ => ran_turn hu hp) (mu t) t (Nat.le_refl _) h (by
    obtain ⟨g, qs, ran, k⟩ := t
    dsimp only at hr
    subst hr
    exact ran_first g qs k)
  obtain ⟨h4, h5⟩ := wN_zero (idle_wN h3)
  refine ⟨h2, h3, ?_, fun j => ?_⟩
  · have := h1.perm
    rw [h4, List.append_nil] at this
    exact this
  · obtain ⟨d, e1, e2⟩ := h1.sub j
    rw [h5 j] at e1
    rw [List.take_of_length_le (List.drop_eq_nil_iff.1 e1.symm)] at e2
    exact e2
/-- a row gone through beside another -/
def eatF : List Int → List Int → List Int
  | xs, [] => xs
  | [], _ => []
  | x :: xs, y :: l => if x = y then eatF xs l else eatF (x :: xs) l
end Go.Proofs.Ytfipdoofgbjbjaa
