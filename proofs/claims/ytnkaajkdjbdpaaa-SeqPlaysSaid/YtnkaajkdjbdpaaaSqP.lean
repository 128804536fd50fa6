/- Chapter 06: plain laws of steps: what may be, may be behind a step. No condition. -/
import Derived.Test.YtnkaajkdjbdpaaaSq12
namespace Go.Proofs.Ytnkaajkdjbdpaaa
theorem stepM_good {s : MSt} {a : Acc} (h : MGood s.1 s.2.1) : MGood (stepM s a).1.1 (stepM s a).1.2.1 := (stepM_props s a).2.2.2.2 h
theorem srun_good {m : MSt} {s : Srd} (h : MGood m.1 m.2.1) : MGood (srun m s).1.1 (srun m s).1.2.1 := by
  unfold srun rbegin rdata rclose
  repeat' split
  all_goals first | exact h | exact stepM_good h
theorem swrun_good {m : MSt} {s : Swr} (h : MGood m.1 m.2.1) : MGood (swrun m s).1.1 (swrun m s).1.2.1 := by
  unfold swrun wbegin wopen wdata wclose
  repeat' split
  all_goals first | exact h | exact stepM_good h
theorem sreadF_good {m : MSt} {s : Srd} (h : MGood m.1 m.2.1) : MGood (sreadF m s).1.1 (sreadF m s).1.2.1 := srun_good h
theorem swriteF_good {m : MSt} {s : Swr} (h : MGood m.1 m.2.1) : MGood (swriteF m s).1.1 (swriteF m s).1.2.1 := swrun_good h
theorem sreadF_ok {m : MSt} {s : Srd} (h : RdOkS s) : RdOkS (sreadF m s).2 := by
  obtain ⟨a, f, mn, ph, bg, vs, tr⟩ := s
  obtain ⟨h1, h2, h3, h4, h5, h6⟩ := h
  dsimp only at h1 h2 h3 h4 h5 h6
  unfold sreadF srun
  dsimp only
  by_cases p0 : ph = 0
  · subst p0
    rw [if_pos rfl]
    unfold rbegin
    dsimp only
    split
    · rename_i hx
      rw [if_neg (fun h => Bool.noConfusion h)]
      refine ⟨h1, h2, hx.2, h4, h5, ?_⟩
      dsimp only [List.length_nil]
      split <;> omega
    · split <;> refine ⟨h1, h2, h3, h4, h5, ?_⟩ <;> dsimp only <;> omega
  rw [if_neg p0]
  by_cases p2 : ph = 2
  · subst p2
    rw [if_pos rfl]
    unfold rdata
    dsimp only
    split
    · rw [if_neg (fun h => Bool.noConfusion h)]
      refine ⟨h1, h2, h3, h4, h5, ?_⟩
      dsimp only
      rw [List.length_append, List.length_singleton]
      split <;> omega
    · rw [if_pos rfl]
      refine ⟨h1, h2, h3, h4, h5, ?_⟩
      dsimp only
      omega
  rw [if_neg p2]
  by_cases p3 : ph = 3
  · subst p3
    rw [if_pos rfl]
    unfold rclose
    dsimp only
    split
    · rw [if_neg (fun h => Bool.noConfusion h)]
      split
      · refine ⟨h1, h2, h3, h4, h5, ?_⟩
        dsimp only
        omega
      · refine ⟨h1, h2, h3, ?_, ?_, ?_⟩ <;> dsimp only <;> omega
    · rw [if_pos rfl]
      refine ⟨h1, h2, h3, h4, h5, ?_⟩
      dsimp only
      omega
  rw [if_neg p3]
  exact ⟨h1, h2, h3, h4, h5, h6⟩
theorem swriteF_ok {m : MSt} {s : Swr} (h : WrOkS s) : WrOkS (swriteF m s).2 := by
  obtain ⟨a, f, vs, ph, bg, wr⟩ := s
  obtain ⟨h1, h2, h3, h6⟩ := h
  dsimp only at h1 h2 h3 h6
  unfold swriteF swrun
  dsimp only
  by_cases p0 : ph = 0
  · subst p0
    rw [if_pos rfl]
    unfold wbegin
    dsimp only
    split
    · rename_i hx
      rw [if_neg (fun h => Bool.noConfusion h)]
      refine ⟨h1, h2, hx.2, ?_⟩
      dsimp only
      omega
    · split <;> refine ⟨h1, h2, h3, ?_⟩ <;> dsimp only <;> omega
  rw [if_neg p0]
  by_cases p1 : ph = 1
  · subst p1
    rw [if_pos rfl]
    unfold wopen
    dsimp only
    split <;> refine ⟨h1, h2, h3, ?_⟩ <;> dsimp only <;> omega
  rw [if_neg p1]
  by_cases p2 : ph = 2
  · subst p2
    rw [if_pos rfl]
    unfold wdata
    dsimp only
    split
    · rw [if_neg (fun h => Bool.noConfusion h)]
      refine ⟨h1, h2, h3, ?_⟩
      dsimp only
      split <;> omega
    · rw [if_pos rfl]
      refine ⟨h1, h2, h3, ?_⟩
      dsimp only
      omega
  rw [if_neg p2]
  by_cases p3 : ph = 3
  · subst p3
    rw [if_pos rfl]
    unfold wclose
    dsimp only
    split <;> refine ⟨h1, h2, h3, ?_⟩ <;> dsimp only <;> omega
  rw [if_neg p3]
  exact ⟨h1, h2, h3, h6⟩
/-- the first write that goes on, or -1 -/
def firstGo : List Swr → Int
  | [] => -1
  | s :: l => if s.ph < 4 then 0 else if firstGo l < 0 then -1 else firstGo l + 1
theorem firstGo_lt : ∀ (l : List Swr), 0 ≤ firstGo l → firstGo l < l.length
  | [], h => by simp [firstGo] at h
  | s :: l, h => by
    unfold firstGo at h ⊢
    have := firstGo_lt l
    rw [List.length_cons]
    split
    · omega
    · rename_i h1
      rw [if_neg h1] at h
      split
      · omega
      · have := this (by omega); omega
/-- one pick -/
def sqstep (x : MSt × Srd × List Swr) (p : Bool) : MSt × Srd × List Swr :=
  if p = true then ((sreadF x.1 x.2.1).1, (sreadF x.1 x.2.1).2, x.2.2)
  else if 0 ≤ firstGo x.2.2 then ((swriteF x.1 (x.2.2[(firstGo x.2.2).toNat]?.getD zWr)).1, x.2.1, x.2.2.set (firstGo x.2.2).toNat (swriteF x.1 (x.2.2[(firstGo x.2.2).toNat]?.getD zWr)).2)
  else x
def sqplay (x : MSt × Srd × List Swr) (ps : List Bool) : MSt × Srd × List Swr := ps.foldl sqstep x
theorem sqplay_snoc (x : MSt × Srd × List Swr) (ps : List Bool) (p : Bool) : sqplay x (ps ++ [p]) = sqstep (sqplay x ps) p := by simp [sqplay]
def SqAll (x : MSt × Srd × List Swr) : Prop := MGood x.1.1 x.1.2.1 ∧ RdOkS x.2.1 ∧ ∀ s ∈ x.2.2, WrOkS s
theorem sqstep_ok {x : MSt × Srd × List Swr} (h : SqAll x) (p : Bool) : SqAll (sqstep x p) := by
  obtain ⟨m, r, l⟩ := x
  obtain ⟨h1, h2, h3⟩ := h
  dsimp only at h1 h2 h3
  unfold sqstep
  dsimp only
  split
  · exact ⟨sreadF_good h1, sreadF_ok h2, h3⟩
  · split
    · rename_i h0
      have hlt := firstGo_lt l h0
      have hi : (firstGo l).toNat < l.length := by omega
      refine ⟨swriteF_good h1, h2, fun s hs => ?_⟩
      rcases List.mem_or_eq_of_mem_set hs with g | g
      · exact h3 s g
      · rw [g, List.getElem?_eq_getElem hi]
        exact swriteF_ok (h3 _ (List.getElem_mem hi))
    · exact ⟨h1, h2, h3⟩
theorem sqplay_ok : ∀ (ps : List Bool) {x : MSt × Srd × List Swr}, SqAll x → SqAll (sqplay x ps)
  | [], _, h => h
  | p :: ps, _, h => sqplay_ok ps (sqstep_ok h p)
end Go.Proofs.Ytnkaajkdjbdpaaa
