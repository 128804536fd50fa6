/- package spin: Need. No condition. -/
import Derived.Test.YtaeanmkbongfcaaSp2
import Derived.Test.YtaeanmkbongfcaaKitA
namespace Go.Proofs.Ytaeanmkbongfcaa
open Go.RowKit
def spNeedF (s : Spn) : Acc × Bool := if SpGood s ∧ spHas s.2.1 then (spNeed s, true) else ((0, 0, 0, 0), false)
@[reducible] def avA (x : Acc) : Value := av x.1 x.2.1 x.2.2.1 x.2.2.2
def NdPost (s : Spn) (w : World) (e : Ending) (w' : World) : Prop := e = .returned (.tuple #[avA (spNeedF s).1, .bool (spNeedF s).2]) ∧ Below w.heap.size w w'
theorem widx0 (W : World) : (Instr.index 89 wayV (.int .i64 0)).run Try.prog W = .ok (.agg #[(.func (.func 57) #[] #[]), (.func (.func 58) #[] #[])]) W := by kernel_rfl
theorem wfld00 (W : World) : (Instr.field 88 (.agg #[(.func (.func 57) #[] #[]), (.func (.func 58) #[] #[])]) 0).run Try.prog W = .ok (.func (.func 57) #[] #[]) W := by kernel_rfl
theorem wfld01 (W : World) : (Instr.field 88 (.agg #[(.func (.func 57) #[] #[]), (.func (.func 58) #[] #[])]) 1).run Try.prog W = .ok (.func (.func 58) #[] #[]) W := by kernel_rfl
theorem weq0 (W : World) : (binOp .eql 52 (.func (.func 57) #[] #[]) .nilFunc).run Try.prog W = .ok (.bool false) W := by kernel_rfl
theorem widx1 (W : World) : (Instr.index 89 wayV (.int .i64 1)).run Try.prog W = .ok (.agg #[(.func (.func 59) #[] #[]), (.func (.func 60) #[] #[])]) W := by kernel_rfl
theorem wfld10 (W : World) : (Instr.field 88 (.agg #[(.func (.func 59) #[] #[]), (.func (.func 60) #[] #[])]) 0).run Try.prog W = .ok (.func (.func 59) #[] #[]) W := by kernel_rfl
theorem wfld11 (W : World) : (Instr.field 88 (.agg #[(.func (.func 59) #[] #[]), (.func (.func 60) #[] #[])]) 1).run Try.prog W = .ok (.func (.func 60) #[] #[]) W := by kernel_rfl
theorem weq1 (W : World) : (binOp .eql 52 (.func (.func 59) #[] #[]) .nilFunc).run Try.prog W = .ok (.bool false) W := by kernel_rfl
theorem widx2 (W : World) : (Instr.index 89 wayV (.int .i64 2)).run Try.prog W = .ok (.agg #[(.func (.func 61) #[] #[]), (.func (.func 62) #[] #[])]) W := by kernel_rfl
theorem wfld20 (W : World) : (Instr.field 88 (.agg #[(.func (.func 61) #[] #[]), (.func (.func 62) #[] #[])]) 0).run Try.prog W = .ok (.func (.func 61) #[] #[]) W := by kernel_rfl
theorem wfld21 (W : World) : (Instr.field 88 (.agg #[(.func (.func 61) #[] #[]), (.func (.func 62) #[] #[])]) 1).run Try.prog W = .ok (.func (.func 62) #[] #[]) W := by kernel_rfl
theorem weq2 (W : World) : (binOp .eql 52 (.func (.func 61) #[] #[]) .nilFunc).run Try.prog W = .ok (.bool false) W := by kernel_rfl
theorem widx3 (W : World) : (Instr.index 89 wayV (.int .i64 3)).run Try.prog W = .ok (.agg #[.nilFunc, .nilFunc]) W := by kernel_rfl
theorem wfld30 (W : World) : (Instr.field 88 (.agg #[.nilFunc, .nilFunc]) 0).run Try.prog W = .ok .nilFunc W := by kernel_rfl
theorem wfld31 (W : World) : (Instr.field 88 (.agg #[.nilFunc, .nilFunc]) 1).run Try.prog W = .ok .nilFunc W := by kernel_rfl
theorem weq3 (W : World) : (binOp .eql 52 .nilFunc .nilFunc).run Try.prog W = .ok (.bool true) W := by kernel_rfl
theorem widx4 (W : World) : (Instr.index 89 wayV (.int .i64 4)).run Try.prog W = .ok (.agg #[(.func (.func 63) #[] #[]), (.func (.func 64) #[] #[])]) W := by kernel_rfl
theorem wfld40 (W : World) : (Instr.field 88 (.agg #[(.func (.func 63) #[] #[]), (.func (.func 64) #[] #[])]) 0).run Try.prog W = .ok (.func (.func 63) #[] #[]) W := by kernel_rfl
theorem wfld41 (W : World) : (Instr.field 88 (.agg #[(.func (.func 63) #[] #[]), (.func (.func 64) #[] #[])]) 1).run Try.prog W = .ok (.func (.func 64) #[] #[]) W := by kernel_rfl
theorem weq4 (W : World) : (binOp .eql 52 (.func (.func 63) #[] #[]) .nilFunc).run Try.prog W = .ok (.bool false) W := by kernel_rfl
theorem widx5 (W : World) : (Instr.index 89 wayV (.int .i64 5)).run Try.prog W = .ok (.agg #[.nilFunc, .nilFunc]) W := by kernel_rfl
theorem wfld50 (W : World) : (Instr.field 88 (.agg #[.nilFunc, .nilFunc]) 0).run Try.prog W = .ok .nilFunc W := by kernel_rfl
theorem wfld51 (W : World) : (Instr.field 88 (.agg #[.nilFunc, .nilFunc]) 1).run Try.prog W = .ok .nilFunc W := by kernel_rfl
theorem weq5 (W : World) : (binOp .eql 52 .nilFunc .nilFunc).run Try.prog W = .ok (.bool true) W := by kernel_rfl
set_option maxRecDepth 100000 in
set_option maxHeartbeats 4000000 in
theorem spneed_bad (a p t : Int) (w : World) (hg : ¬ SpGood (a, p, t)) : Calls Try.prog 21 #[sv a p t] w (NdPost (a, p, t) w) := by
  have HB := hid (Below.refl w.heap.size w)
  have bx := below_box w (.cells (scs a p t) 38)
  replace HB := hid (below_then HB.out bx)
  clear bx
  have PS := hid (Blk.new w 38 (scs a p t))
  have bx := below_box (w.alloc (.cells (scs a p t) 38)) (.cells (acs 0 0 0 0) 49)
  replace PS := hid (PS.out.step bx); replace HB := hid (below_then HB.out bx)
  clear bx
  have PA := hid (Blk.new2 w 49 (acs 0 0 0 0) (.cells (scs a p t) 38))
  have HG := hid hg
  clear hg
  go_enter Try.func21, Try.ntmps21
  go_upto_region 1 with fail
  have hz0 := hid (show ((w.alloc (.cells (scs a p t) 38)).alloc (.cells (acs 0 0 0 0) 49)).heap.size = w.heap.size + 2 by simp)
  generalize (w.alloc (.cells (scs a p t) 38)).alloc (.cells (acs 0 0 0 0) 49) = W0 at *
  have HS : Hid (∀ W, Below W0.heap.size W0 W → (W.cell? ⟨w.heap.size, 0, none⟩ = some (.int .i64 a) ∧ W.cell? ⟨w.heap.size, 1, none⟩ = some (.int .i64 p) ∧ W.cell? ⟨w.heap.size, 2, none⟩ = some (.int .u64 t))) := hid (fun W hb => ⟨(PS.out.step hb).cells3.1, (PS.out.step hb).cells3.2.1, (PS.out.step hb).cells3.2.2.1⟩)
  have E1 := hid (show spCheckC (a, p, t) = 150 from if_neg HG.out)
  refine wp_region_noPanic ?_
  refine wp_region_held_drew (S := (fun W => Below W0.heap.size W0 W ∧ W.cell? ⟨w.heap.size, 0, none⟩ = some (.int .i64 a) ∧ W.cell? ⟨w.heap.size, 1, none⟩ = some (.int .i64 p) ∧ W.cell? ⟨w.heap.size, 2, none⟩ = some (.int .u64 t))) (by kernel_rfl) ⟨(Below.refl _ _).drew, HS.out _ (Below.refl _ _).drew⟩ (fun hS => ?_)
  refine wpAnyH_take (i := 0) (v := ?_) (by simp only [List.getElem?_toArray, List.getElem?_cons_succ, List.getElem?_cons_zero]; rfl) (by kernel_rfl) (by kernel_rfl) (by kernel_rfl) (fun _ _ _ h => h) (Or.inl ⟨by rfl, ?_⟩) hS ?_
  rotate_left
  · intro w' hSw; (try dsimp only at hSw); go_split_ands; go_simp; (try with_reducible rfl)
  (try simp only [Act.put, List.setIfInBounds_toArray, List.set_cons_zero, List.set_cons_succ])
  refine wpAnyH_ready (rs := [1]) (by kernel_rfl) (by simp) ?_
  refine AllReadyH.cons (by simp only [List.getElem?_toArray, List.getElem?_cons_succ, List.getElem?_cons_zero]; rfl) (fun K hK => ?_) AllReadyH.nil
  go_simp
  refine (spcheck_any a p t _).mono ?_
  rintro e w1 ⟨rfl, hb⟩
  rw [E1.out]
  have hq1 := hid (below_then (Below.refl W0.heap.size W0).drew hb)
  clear hb
  go_wp2_with fail
  refine hK.out _ _ ⟨hq1.out, HS.out _ hq1.out⟩ (fun hS' => ?_)
  clear hK K hS
  have hS := hS'
  clear hS'
  (try simp only [Act.put, List.setIfInBounds_toArray, List.set_cons_zero, List.set_cons_succ])
  refine wpAnyH_take (i := 2) (v := ?_) (by simp only [List.getElem?_toArray, List.getElem?_cons_succ, List.getElem?_cons_zero]; rfl) (by kernel_rfl) (by kernel_rfl) (by kernel_rfl) (fun _ _ _ h => h) (Or.inl ⟨by rfl, ?_⟩) hS ?_
  rotate_left
  · intro w' hSw; (try dsimp only at hSw); go_split_ands; go_simp; (try with_reducible rfl)
  (try simp only [Act.put, List.setIfInBounds_toArray, List.set_cons_zero, List.set_cons_succ])
  refine wpAnyH_take (i := 3) (v := ?_) (by simp only [List.getElem?_toArray, List.getElem?_cons_succ, List.getElem?_cons_zero]; rfl) (by kernel_rfl) (by kernel_rfl) (by kernel_rfl) (fun _ _ _ h => h) (Or.inl ⟨by rfl, ?_⟩) hS ?_
  rotate_left
  · intro w' hSw; (try dsimp only at hSw); go_split_ands; go_simp; (try with_reducible rfl)
  (try simp only [Act.put, List.setIfInBounds_toArray, List.set_cons_zero, List.set_cons_succ])
  refine wpAnyH_take (i := 4) (v := undef) (by simp only [List.getElem?_toArray, List.getElem?_cons_succ, List.getElem?_cons_zero]; rfl) (by kernel_rfl) (by kernel_rfl) (by kernel_rfl) (fun _ _ _ h => h) (Or.inr ⟨by rfl, rfl⟩) hS ?_
  (try simp only [Act.put, List.setIfInBounds_toArray, List.set_cons_zero, List.set_cons_succ])
  refine wpAnyH_take (i := 5) (v := undef) (by simp only [List.getElem?_toArray, List.getElem?_cons_succ, List.getElem?_cons_zero]; rfl) (by kernel_rfl) (by kernel_rfl) (by kernel_rfl) (fun _ _ _ h => h) (Or.inr ⟨by rfl, rfl⟩) hS ?_
  (try simp only [Act.put, List.setIfInBounds_toArray, List.set_cons_zero, List.set_cons_succ])
  refine wpAnyH_take (i := 6) (v := undef) (by simp only [List.getElem?_toArray, List.getElem?_cons_succ, List.getElem?_cons_zero]; rfl) (by kernel_rfl) (by kernel_rfl) (by kernel_rfl) (fun _ _ _ h => h) (Or.inr ⟨by rfl, rfl⟩) hS ?_
  (try simp only [Act.put, List.setIfInBounds_toArray, List.set_cons_zero, List.set_cons_succ])
  refine wpAnyH_take (i := 7) (v := undef) (by simp only [List.getElem?_toArray, List.getElem?_cons_succ, List.getElem?_cons_zero]; rfl) (by kernel_rfl) (by kernel_rfl) (by kernel_rfl) (fun _ _ _ h => h) (Or.inr ⟨by rfl, rfl⟩) hS ?_
  (try simp only [Act.put, List.setIfInBounds_toArray, List.set_cons_zero, List.set_cons_succ])
  refine wpAnyH_take (i := 8) (v := undef) (by simp only [List.getElem?_toArray, List.getElem?_cons_succ, List.getElem?_cons_zero]; rfl) (by kernel_rfl) (by kernel_rfl) (by kernel_rfl) (fun _ _ _ h => h) (Or.inr ⟨by rfl, rfl⟩) hS ?_
  (try simp only [Act.put, List.setIfInBounds_toArray, List.set_cons_zero, List.set_cons_succ])
  refine wpAnyH_take (i := 9) (v := undef) (by simp only [List.getElem?_toArray, List.getElem?_cons_succ, List.getElem?_cons_zero]; rfl) (by kernel_rfl) (by kernel_rfl) (by kernel_rfl) (fun _ _ _ h => h) (Or.inr ⟨by rfl, rfl⟩) hS ?_
  (try simp only [Act.put, List.setIfInBounds_toArray, List.set_cons_zero, List.set_cons_succ])
  refine wpAnyH_take (i := 10) (v := ?_) (by simp only [List.getElem?_toArray, List.getElem?_cons_succ, List.getElem?_cons_zero]; rfl) (by kernel_rfl) (by kernel_rfl) (by kernel_rfl) (fun _ _ _ h => h) (Or.inl ⟨by rfl, ?_⟩) hS ?_
  rotate_left
  · intro w' hSw; (try dsimp only at hSw); go_split_ands; go_simp; (try with_reducible rfl)
  (try simp only [Act.put, List.setIfInBounds_toArray, List.set_cons_zero, List.set_cons_succ])
  refine wpAnyH_done (by kernel_rfl) ?_ _
  refine NoPanic.normal ?_
  have HB1 := hid (below_then HB.out hq1.out); have PA1 := hid (PA.out.step hq1.out)
  clear hS
  obtain ⟨x0, x1, x2, x3, xf⟩ := PA1.out.cells4
  go_wp2
  obtain ⟨q0, q1, q2, q3, qf⟩ := ((((PA1.out.setCell 0 (.int .i64 0)).setCell 1 (.int .i64 0)).setCell 2 (.int .u64 0)).setCell 3 (.int .u64 0)).cells4
  refine bodyPost_ret (v := .tuple #[av 0 0 0 0, .bool false]) (by simp [results, Try.results21, go_sem, q0, q1, q2, q3]) rfl ⟨?_, (((HB1.out.setCell (by simp) _).setCell (by simp) _).setCell (by simp) _).setCell (by simp) _⟩
  rw [show spNeedF (a, p, t) = ((0, 0, 0, 0), false) from if_neg (fun h => HG.out h.1)]
set_option maxRecDepth 100000 in
set_option maxHeartbeats 4000000 in
theorem spneed0 (a t : Int) (w : World) (hg : SpGood (a, 0, t)) : Calls Try.prog 21 #[sv a 0 t] w (NdPost (a, 0, t) w) := by
  have HB := hid (Below.refl w.heap.size w)
  have bx := below_box w (.cells (scs a 0 t) 38)
  replace HB := hid (below_then HB.out bx)
  clear bx
  have PS := hid (Blk.new w 38 (scs a 0 t))
  have bx := below_box (w.alloc (.cells (scs a 0 t) 38)) (.cells (acs 0 0 0 0) 49)
  replace PS := hid (PS.out.step bx); replace HB := hid (below_then HB.out bx)
  clear bx
  have PA := hid (Blk.new2 w 49 (acs 0 0 0 0) (.cells (scs a 0 t) 38))
  have HG := hid hg
  clear hg
  go_enter Try.func21, Try.ntmps21
  go_upto_region 1 with fail
  have hz0 := hid (show ((w.alloc (.cells (scs a 0 t) 38)).alloc (.cells (acs 0 0 0 0) 49)).heap.size = w.heap.size + 2 by simp)
  generalize (w.alloc (.cells (scs a 0 t) 38)).alloc (.cells (acs 0 0 0 0) 49) = W0 at *
  have HS : Hid (∀ W, Below W0.heap.size W0 W → (W.cell? ⟨w.heap.size, 0, none⟩ = some (.int .i64 a) ∧ W.cell? ⟨w.heap.size, 1, none⟩ = some (.int .i64 0) ∧ W.cell? ⟨w.heap.size, 2, none⟩ = some (.int .u64 t))) := hid (fun W hb => ⟨(PS.out.step hb).cells3.1, (PS.out.step hb).cells3.2.1, (PS.out.step hb).cells3.2.2.1⟩)
  have E1 := hid (show spCheckC (a, 0, t) = 0 from if_pos HG.out)
  have hix := widx0; have hfl := wfld00; have heq := weq0
  refine wp_region_noPanic ?_
  refine wp_region_held_drew (S := (fun W => Below W0.heap.size W0 W ∧ W.cell? ⟨w.heap.size, 0, none⟩ = some (.int .i64 a) ∧ W.cell? ⟨w.heap.size, 1, none⟩ = some (.int .i64 0) ∧ W.cell? ⟨w.heap.size, 2, none⟩ = some (.int .u64 t))) (by kernel_rfl) ⟨(Below.refl _ _).drew, HS.out _ (Below.refl _ _).drew⟩ (fun hS => ?_)
  refine wpAnyH_take (i := 0) (v := ?_) (by simp only [List.getElem?_toArray, List.getElem?_cons_succ, List.getElem?_cons_zero]; rfl) (by kernel_rfl) (by kernel_rfl) (by kernel_rfl) (fun _ _ _ h => h) (Or.inl ⟨by rfl, ?_⟩) hS ?_
  rotate_left
  · intro w' hSw; (try dsimp only at hSw); go_split_ands; go_simp; (try with_reducible rfl)
  (try simp only [Act.put, List.setIfInBounds_toArray, List.set_cons_zero, List.set_cons_succ])
  refine wpAnyH_ready (rs := [1]) (by kernel_rfl) (by simp) ?_
  refine AllReadyH.cons (by simp only [List.getElem?_toArray, List.getElem?_cons_succ, List.getElem?_cons_zero]; rfl) (fun K hK => ?_) AllReadyH.nil
  go_simp
  refine (spcheck_any a 0 t _).mono ?_
  rintro e w1 ⟨rfl, hb⟩
  rw [E1.out]
  have hq1 := hid (below_then (Below.refl W0.heap.size W0).drew hb)
  clear hb
  go_wp2_with fail
  refine hK.out _ _ ⟨hq1.out, HS.out _ hq1.out⟩ (fun hS' => ?_)
  clear hK K hS
  have hS := hS'
  clear hS'
  (try simp only [Act.put, List.setIfInBounds_toArray, List.set_cons_zero, List.set_cons_succ])
  refine wpAnyH_take (i := 2) (v := ?_) (by simp only [List.getElem?_toArray, List.getElem?_cons_succ, List.getElem?_cons_zero]; rfl) (by kernel_rfl) (by kernel_rfl) (by kernel_rfl) (fun _ _ _ h => h) (Or.inl ⟨by rfl, ?_⟩) hS ?_
  rotate_left
  · intro w' hSw; (try dsimp only at hSw); go_split_ands; go_simp; (try with_reducible rfl)
  (try simp only [Act.put, List.setIfInBounds_toArray, List.set_cons_zero, List.set_cons_succ])
  refine wpAnyH_take (i := 3) (v := ?_) (by simp only [List.getElem?_toArray, List.getElem?_cons_succ, List.getElem?_cons_zero]; rfl) (by kernel_rfl) (by kernel_rfl) (by kernel_rfl) (fun _ _ _ h => h) (Or.inl ⟨by rfl, ?_⟩) hS ?_
  rotate_left
  · intro w' hSw; (try dsimp only at hSw); go_split_ands; go_simp; (try with_reducible rfl)
  (try simp only [Act.put, List.setIfInBounds_toArray, List.set_cons_zero, List.set_cons_succ])
  refine wpAnyH_take (i := 5) (v := ?_) (by simp only [List.getElem?_toArray, List.getElem?_cons_succ, List.getElem?_cons_zero]; rfl) (by kernel_rfl) (by kernel_rfl) (by kernel_rfl) (fun _ _ _ h => h) (Or.inl ⟨by rfl, ?_⟩) hS ?_
  rotate_left
  · intro w' hSw; (try dsimp only at hSw); go_split_ands; go_simp; (try with_reducible rfl)
  (try simp only [Act.put, List.setIfInBounds_toArray, List.set_cons_zero, List.set_cons_succ])
  refine wpAnyH_take (i := 6) (v := ?_) (by simp only [List.getElem?_toArray, List.getElem?_cons_succ, List.getElem?_cons_zero]; rfl) (by kernel_rfl) (by kernel_rfl) (by kernel_rfl) (fun _ _ _ h => h) (Or.inl ⟨by rfl, ?_⟩) hS ?_
  rotate_left
  · intro w' hSw; (try dsimp only at hSw); go_split_ands; go_simp; (try with_reducible rfl)
  (try simp only [Act.put, List.setIfInBounds_toArray, List.set_cons_zero, List.set_cons_succ])
  refine wpAnyH_ready (rs := [4]) (by kernel_rfl) (by simp) ?_
  refine AllReadyH.cons (by simp only [List.getElem?_toArray, List.getElem?_cons_succ, List.getElem?_cons_zero]; rfl) (fun K hK => ?_) AllReadyH.nil
  go_simp
  refine (ways_any _).mono ?_
  rintro e w2 ⟨rfl, hb⟩
  have hq2 := hid (below_then hq1.out hb)
  clear hb
  go_wp2_with fail
  refine hK.out _ _ ⟨hq2.out, HS.out _ hq2.out⟩ (fun hS' => ?_)
  clear hK K hS
  have hS := hS'
  clear hS'
  (try simp only [Act.put, List.setIfInBounds_toArray, List.set_cons_zero, List.set_cons_succ])
  refine wpAnyH_take (i := 7) (v := ?_) (by simp only [List.getElem?_toArray, List.getElem?_cons_succ, List.getElem?_cons_zero]; rfl) (by kernel_rfl) (by kernel_rfl) (by kernel_rfl) (fun _ _ _ h => h) (Or.inl ⟨by rfl, ?_⟩) hS ?_
  rotate_left
  · intro w' hSw; (try dsimp only at hSw); go_split_ands; go_simp; (try with_reducible rfl)
  (try simp only [Act.put, List.setIfInBounds_toArray, List.set_cons_zero, List.set_cons_succ])
  refine wpAnyH_take (i := 8) (v := ?_) (by simp only [List.getElem?_toArray, List.getElem?_cons_succ, List.getElem?_cons_zero]; rfl) (by kernel_rfl) (by kernel_rfl) (by kernel_rfl) (fun _ _ _ h => h) (Or.inl ⟨by rfl, ?_⟩) hS ?_
  rotate_left
  · intro w' hSw; (try dsimp only at hSw); go_split_ands; go_simp; (try with_reducible rfl)
  (try simp only [Act.put, List.setIfInBounds_toArray, List.set_cons_zero, List.set_cons_succ])
  refine wpAnyH_take (i := 9) (v := ?_) (by simp only [List.getElem?_toArray, List.getElem?_cons_succ, List.getElem?_cons_zero]; rfl) (by kernel_rfl) (by kernel_rfl) (by kernel_rfl) (fun _ _ _ h => h) (Or.inl ⟨by rfl, ?_⟩) hS ?_
  rotate_left
  · intro w' hSw; (try dsimp only at hSw); go_split_ands; go_simp; (try with_reducible rfl)
  (try simp only [Act.put, List.setIfInBounds_toArray, List.set_cons_zero, List.set_cons_succ])
  refine wpAnyH_take (i := 10) (v := ?_) (by simp only [List.getElem?_toArray, List.getElem?_cons_succ, List.getElem?_cons_zero]; rfl) (by kernel_rfl) (by kernel_rfl) (by kernel_rfl) (fun _ _ _ h => h) (Or.inl ⟨by rfl, ?_⟩) hS ?_
  rotate_left
  · intro w' hSw; (try dsimp only at hSw); go_split_ands; go_simp; (try with_reducible rfl)
  (try simp only [Act.put, List.setIfInBounds_toArray, List.set_cons_zero, List.set_cons_succ])
  refine wpAnyH_done (by kernel_rfl) ?_ _
  refine NoPanic.normal ?_
  clear hS
  go_upto_region 3 with fail
  have PA2 := hid (PA.out.step hq2.out)
  have hen := enters_of Try.func57 (by kernel_rfl) rfl
  refine wp_region_noPanic ?_
  refine wp_region_held_tail 7 (fun W => Below W0.heap.size W0 W ∧ W.cell? ⟨w.heap.size, 0, none⟩ = some (.int .i64 a) ∧ W.cell? ⟨w.heap.size, 1, none⟩ = some (.int .i64 0) ∧ W.cell? ⟨w.heap.size, 2, none⟩ = some (.int .u64 t)) #[false, false, false, false, false, false, false, false, false] (by kernel_rfl) ⟨hq2.out.drew, HS.out _ hq2.out.drew⟩ (by kernel_rfl) (by kernel_rfl) (fun hS => ?_)
  refine wpAnyT_take (i := 1) (v := ?_) (by kernel_rfl) (by simp only [List.getElem?_toArray, List.getElem?_cons_succ, List.getElem?_cons_zero]; rfl) (by kernel_rfl) (fun _ _ _ h => h) (Or.inl ⟨by rfl, ?_⟩) hS ?_
  rotate_left
  · intro w' hSw; (try dsimp only at hSw); go_split_ands; go_simp; (try with_reducible rfl)
  (try simp only [Act.put, List.setIfInBounds_toArray, List.set_cons_zero, List.set_cons_succ])
  refine wpAnyT_take (i := 2) (v := ?_) (by kernel_rfl) (by simp only [List.getElem?_toArray, List.getElem?_cons_succ, List.getElem?_cons_zero]; rfl) (by kernel_rfl) (fun _ _ _ h => h) (Or.inl ⟨by rfl, ?_⟩) hS ?_
  rotate_left
  · intro w' hSw; (try dsimp only at hSw); go_split_ands; go_simp; (try with_reducible rfl)
  (try simp only [Act.put, List.setIfInBounds_toArray, List.set_cons_zero, List.set_cons_succ])
  refine wpAnyT_take (i := 5) (v := ?_) (by kernel_rfl) (by simp only [List.getElem?_toArray, List.getElem?_cons_succ, List.getElem?_cons_zero]; rfl) (by kernel_rfl) (fun _ _ _ h => h) (Or.inl ⟨by rfl, ?_⟩) hS ?_
  rotate_left
  · intro w' hSw; (try dsimp only at hSw); go_split_ands; go_simp; (try with_reducible rfl)
  (try simp only [Act.put, List.setIfInBounds_toArray, List.set_cons_zero, List.set_cons_succ])
  refine wpAnyT_ready [0] (by kernel_rfl) (by simp) ?_
  refine AllReadyT.cons (by simp only [List.getElem?_toArray, List.getElem?_cons_succ, List.getElem?_cons_zero]; rfl) rfl (fun K hK => ?_) AllReadyT.nil
  go_simp
  refine (ways_any _).mono ?_
  rintro e w3 ⟨rfl, hb⟩
  have hq3 := hid (below_then hq2.out.drew hb)
  clear hb
  go_wp2_with fail
  have hS' : (fun W => Below W0.heap.size W0 W ∧ W.cell? ⟨w.heap.size, 0, none⟩ = some (.int .i64 a) ∧ W.cell? ⟨w.heap.size, 1, none⟩ = some (.int .i64 0) ∧ W.cell? ⟨w.heap.size, 2, none⟩ = some (.int .u64 t)) _ := ⟨hq3.out, HS.out _ hq3.out⟩
  refine hK.out _ _ hS' ?_
  clear hK K hS
  have hS := hS'
  clear hS'
  (try simp only [Act.put, List.setIfInBounds_toArray, List.set_cons_zero, List.set_cons_succ])
  refine wpAnyT_take (i := 3) (v := ?_) (by kernel_rfl) (by simp only [List.getElem?_toArray, List.getElem?_cons_succ, List.getElem?_cons_zero]; rfl) (by kernel_rfl) (fun _ _ _ h => h) (Or.inl ⟨by rfl, ?_⟩) hS ?_
  rotate_left
  · intro w' hSw; (try dsimp only at hSw); go_split_ands; go_simp; (try with_reducible rfl)
  (try simp only [Act.put, List.setIfInBounds_toArray, List.set_cons_zero, List.set_cons_succ])
  refine wpAnyT_take (i := 4) (v := ?_) (by kernel_rfl) (by simp only [List.getElem?_toArray, List.getElem?_cons_succ, List.getElem?_cons_zero]; rfl) (by kernel_rfl) (fun _ _ _ h => h) (Or.inl ⟨by rfl, ?_⟩) hS ?_
  rotate_left
  · intro w' hSw; (try dsimp only at hSw); go_split_ands; go_simp; (try with_reducible rfl)
  (try simp only [Act.put, List.setIfInBounds_toArray, List.set_cons_zero, List.set_cons_succ])
  refine wpAnyT_ready [6] (by kernel_rfl) (by simp) ?_
  refine AllReadyT.cons (by simp only [List.getElem?_toArray, List.getElem?_cons_succ, List.getElem?_cons_zero]; rfl) rfl (fun K hK => ?_) AllReadyT.nil
  go_simp
  refine (need0_any a 0 t _).mono ?_
  rintro e w4 ⟨rfl, hb⟩
  have hq4 := hid (below_then hq3.out hb)
  clear hb
  go_wp2_with fail
  have hS' : (fun W => Below W0.heap.size W0 W ∧ W.cell? ⟨w.heap.size, 0, none⟩ = some (.int .i64 a) ∧ W.cell? ⟨w.heap.size, 1, none⟩ = some (.int .i64 0) ∧ W.cell? ⟨w.heap.size, 2, none⟩ = some (.int .u64 t)) _ := ⟨hq4.out, HS.out _ hq4.out⟩
  refine hK.out _ _ hS' ?_
  clear hK K hS
  have hS := hS'
  clear hS'
  (try simp only [Act.put, List.setIfInBounds_toArray, List.set_cons_zero, List.set_cons_succ])
  refine wpAnyT_done (by kernel_rfl) ?_
  simp only [List.drop_succ_cons, List.drop_zero]
  have HB1 := hid (below_then HB.out hq4.out); have PA3 := hid (PA.out.step hq4.out)
  clear hS hix hfl heq hen PA2
  obtain ⟨x0, x1, x2, x3, xf⟩ := PA3.out.cells4
  go_wp2_with fail
  refine NoPanic.normal ?_
  go_wp2
  obtain ⟨q0, q1, q2, q3, qf⟩ := ((((PA3.out.setCell 0 (.int .i64 1)).setCell 1 (.int .i64 a)).setCell 2 (.int .u64 0)).setCell 3 (.int .u64 0)).cells4
  refine bodyPost_ret (v := .tuple #[av 1 a 0 0, .bool true]) (by simp [results, Try.results21, go_sem, q0, q1, q2, q3]) rfl ⟨?_, (((HB1.out.setCell (by simp) _).setCell (by simp) _).setCell (by simp) _).setCell (by simp) _⟩
  rw [show spNeedF (a, 0, t) = ((1, a, 0, 0), true) from if_pos ⟨HG.out, show (0 : Int) ≠ 3 ∧ (0 : Int) ≠ 5 by decide⟩]
set_option maxRecDepth 100000 in
set_option maxHeartbeats 4000000 in
theorem spneed1 (a t : Int) (w : World) (hg : SpGood (a, 1, t)) : Calls Try.prog 21 #[sv a 1 t] w (NdPost (a, 1, t) w) := by
  have HB := hid (Below.refl w.heap.size w)
  have bx := below_box w (.cells (scs a 1 t) 38)
  replace HB := hid (below_then HB.out bx)
  clear bx
  have PS := hid (Blk.new w 38 (scs a 1 t))
  have bx := below_box (w.alloc (.cells (scs a 1 t) 38)) (.cells (acs 0 0 0 0) 49)
  replace PS := hid (PS.out.step bx); replace HB := hid (below_then HB.out bx)
  clear bx
  have PA := hid (Blk.new2 w 49 (acs 0 0 0 0) (.cells (scs a 1 t) 38))
  have HG := hid hg
  clear hg
  go_enter Try.func21, Try.ntmps21
  go_upto_region 1 with fail
  have hz0 := hid (show ((w.alloc (.cells (scs a 1 t) 38)).alloc (.cells (acs 0 0 0 0) 49)).heap.size = w.heap.size + 2 by simp)
  generalize (w.alloc (.cells (scs a 1 t) 38)).alloc (.cells (acs 0 0 0 0) 49) = W0 at *
  have HS : Hid (∀ W, Below W0.heap.size W0 W → (W.cell? ⟨w.heap.size, 0, none⟩ = some (.int .i64 a) ∧ W.cell? ⟨w.heap.size, 1, none⟩ = some (.int .i64 1) ∧ W.cell? ⟨w.heap.size, 2, none⟩ = some (.int .u64 t))) := hid (fun W hb => ⟨(PS.out.step hb).cells3.1, (PS.out.step hb).cells3.2.1, (PS.out.step hb).cells3.2.2.1⟩)
  have E1 := hid (show spCheckC (a, 1, t) = 0 from if_pos HG.out)
  have hix := widx1; have hfl := wfld10; have heq := weq1
  refine wp_region_noPanic ?_
  refine wp_region_held_drew (S := (fun W => Below W0.heap.size W0 W ∧ W.cell? ⟨w.heap.size, 0, none⟩ = some (.int .i64 a) ∧ W.cell? ⟨w.heap.size, 1, none⟩ = some (.int .i64 1) ∧ W.cell? ⟨w.heap.size, 2, none⟩ = some (.int .u64 t))) (by kernel_rfl) ⟨(Below.refl _ _).drew, HS.out _ (Below.refl _ _).drew⟩ (fun hS => ?_)
  refine wpAnyH_take (i := 0) (v := ?_) (by simp only [List.getElem?_toArray, List.getElem?_cons_succ, List.getElem?_cons_zero]; rfl) (by kernel_rfl) (by kernel_rfl) (by kernel_rfl) (fun _ _ _ h => h) (Or.inl ⟨by rfl, ?_⟩) hS ?_
  rotate_left
  · intro w' hSw; (try dsimp only at hSw); go_split_ands; go_simp; (try with_reducible rfl)
  (try simp only [Act.put, List.setIfInBounds_toArray, List.set_cons_zero, List.set_cons_succ])
  refine wpAnyH_ready (rs := [1]) (by kernel_rfl) (by simp) ?_
  refine AllReadyH.cons (by simp only [List.getElem?_toArray, List.getElem?_cons_succ, List.getElem?_cons_zero]; rfl) (fun K hK => ?_) AllReadyH.nil
  go_simp
  refine (spcheck_any a 1 t _).mono ?_
  rintro e w1 ⟨rfl, hb⟩
  rw [E1.out]
  have hq1 := hid (below_then (Below.refl W0.heap.size W0).drew hb)
  clear hb
  go_wp2_with fail
  refine hK.out _ _ ⟨hq1.out, HS.out _ hq1.out⟩ (fun hS' => ?_)
  clear hK K hS
  have hS := hS'
  clear hS'
  (try simp only [Act.put, List.setIfInBounds_toArray, List.set_cons_zero, List.set_cons_succ])
  refine wpAnyH_take (i := 2) (v := ?_) (by simp only [List.getElem?_toArray, List.getElem?_cons_succ, List.getElem?_cons_zero]; rfl) (by kernel_rfl) (by kernel_rfl) (by kernel_rfl) (fun _ _ _ h => h) (Or.inl ⟨by rfl, ?_⟩) hS ?_
  rotate_left
  · intro w' hSw; (try dsimp only at hSw); go_split_ands; go_simp; (try with_reducible rfl)
  (try simp only [Act.put, List.setIfInBounds_toArray, List.set_cons_zero, List.set_cons_succ])
  refine wpAnyH_take (i := 3) (v := ?_) (by simp only [List.getElem?_toArray, List.getElem?_cons_succ, List.getElem?_cons_zero]; rfl) (by kernel_rfl) (by kernel_rfl) (by kernel_rfl) (fun _ _ _ h => h) (Or.inl ⟨by rfl, ?_⟩) hS ?_
  rotate_left
  · intro w' hSw; (try dsimp only at hSw); go_split_ands; go_simp; (try with_reducible rfl)
  (try simp only [Act.put, List.setIfInBounds_toArray, List.set_cons_zero, List.set_cons_succ])
  refine wpAnyH_take (i := 5) (v := ?_) (by simp only [List.getElem?_toArray, List.getElem?_cons_succ, List.getElem?_cons_zero]; rfl) (by kernel_rfl) (by kernel_rfl) (by kernel_rfl) (fun _ _ _ h => h) (Or.inl ⟨by rfl, ?_⟩) hS ?_
  rotate_left
  · intro w' hSw; (try dsimp only at hSw); go_split_ands; go_simp; (try with_reducible rfl)
  (try simp only [Act.put, List.setIfInBounds_toArray, List.set_cons_zero, List.set_cons_succ])
  refine wpAnyH_take (i := 6) (v := ?_) (by simp only [List.getElem?_toArray, List.getElem?_cons_succ, List.getElem?_cons_zero]; rfl) (by kernel_rfl) (by kernel_rfl) (by kernel_rfl) (fun _ _ _ h => h) (Or.inl ⟨by rfl, ?_⟩) hS ?_
  rotate_left
  · intro w' hSw; (try dsimp only at hSw); go_split_ands; go_simp; (try with_reducible rfl)
  (try simp only [Act.put, List.setIfInBounds_toArray, List.set_cons_zero, List.set_cons_succ])
  refine wpAnyH_ready (rs := [4]) (by kernel_rfl) (by simp) ?_
  refine AllReadyH.cons (by simp only [List.getElem?_toArray, List.getElem?_cons_succ, List.getElem?_cons_zero]; rfl) (fun K hK => ?_) AllReadyH.nil
  go_simp
  refine (ways_any _).mono ?_
  rintro e w2 ⟨rfl, hb⟩
  have hq2 := hid (below_then hq1.out hb)
  clear hb
  go_wp2_with fail
  refine hK.out _ _ ⟨hq2.out, HS.out _ hq2.out⟩ (fun hS' => ?_)
  clear hK K hS
  have hS := hS'
  clear hS'
  (try simp only [Act.put, List.setIfInBounds_toArray, List.set_cons_zero, List.set_cons_succ])
  refine wpAnyH_take (i := 7) (v := ?_) (by simp only [List.getElem?_toArray, List.getElem?_cons_succ, List.getElem?_cons_zero]; rfl) (by kernel_rfl) (by kernel_rfl) (by kernel_rfl) (fun _ _ _ h => h) (Or.inl ⟨by rfl, ?_⟩) hS ?_
  rotate_left
  · intro w' hSw; (try dsimp only at hSw); go_split_ands; go_simp; (try with_reducible rfl)
  (try simp only [Act.put, List.setIfInBounds_toArray, List.set_cons_zero, List.set_cons_succ])
  refine wpAnyH_take (i := 8) (v := ?_) (by simp only [List.getElem?_toArray, List.getElem?_cons_succ, List.getElem?_cons_zero]; rfl) (by kernel_rfl) (by kernel_rfl) (by kernel_rfl) (fun _ _ _ h => h) (Or.inl ⟨by rfl, ?_⟩) hS ?_
  rotate_left
  · intro w' hSw; (try dsimp only at hSw); go_split_ands; go_simp; (try with_reducible rfl)
  (try simp only [Act.put, List.setIfInBounds_toArray, List.set_cons_zero, List.set_cons_succ])
  refine wpAnyH_take (i := 9) (v := ?_) (by simp only [List.getElem?_toArray, List.getElem?_cons_succ, List.getElem?_cons_zero]; rfl) (by kernel_rfl) (by kernel_rfl) (by kernel_rfl) (fun _ _ _ h => h) (Or.inl ⟨by rfl, ?_⟩) hS ?_
  rotate_left
  · intro w' hSw; (try dsimp only at hSw); go_split_ands; go_simp; (try with_reducible rfl)
  (try simp only [Act.put, List.setIfInBounds_toArray, List.set_cons_zero, List.set_cons_succ])
  refine wpAnyH_take (i := 10) (v := ?_) (by simp only [List.getElem?_toArray, List.getElem?_cons_succ, List.getElem?_cons_zero]; rfl) (by kernel_rfl) (by kernel_rfl) (by kernel_rfl) (fun _ _ _ h => h) (Or.inl ⟨by rfl, ?_⟩) hS ?_
  rotate_left
  · intro w' hSw; (try dsimp only at hSw); go_split_ands; go_simp; (try with_reducible rfl)
  (try simp only [Act.put, List.setIfInBounds_toArray, List.set_cons_zero, List.set_cons_succ])
  refine wpAnyH_done (by kernel_rfl) ?_ _
  refine NoPanic.normal ?_
  clear hS
  go_upto_region 3 with fail
  have PA2 := hid (PA.out.step hq2.out)
  have hen := enters_of Try.func59 (by kernel_rfl) rfl
  refine wp_region_noPanic ?_
  refine wp_region_held_tail 7 (fun W => Below W0.heap.size W0 W ∧ W.cell? ⟨w.heap.size, 0, none⟩ = some (.int .i64 a) ∧ W.cell? ⟨w.heap.size, 1, none⟩ = some (.int .i64 1) ∧ W.cell? ⟨w.heap.size, 2, none⟩ = some (.int .u64 t)) #[false, false, false, false, false, false, false, false, false] (by kernel_rfl) ⟨hq2.out.drew, HS.out _ hq2.out.drew⟩ (by kernel_rfl) (by kernel_rfl) (fun hS => ?_)
  refine wpAnyT_take (i := 1) (v := ?_) (by kernel_rfl) (by simp only [List.getElem?_toArray, List.getElem?_cons_succ, List.getElem?_cons_zero]; rfl) (by kernel_rfl) (fun _ _ _ h => h) (Or.inl ⟨by rfl, ?_⟩) hS ?_
  rotate_left
  · intro w' hSw; (try dsimp only at hSw); go_split_ands; go_simp; (try with_reducible rfl)
  (try simp only [Act.put, List.setIfInBounds_toArray, List.set_cons_zero, List.set_cons_succ])
  refine wpAnyT_take (i := 2) (v := ?_) (by kernel_rfl) (by simp only [List.getElem?_toArray, List.getElem?_cons_succ, List.getElem?_cons_zero]; rfl) (by kernel_rfl) (fun _ _ _ h => h) (Or.inl ⟨by rfl, ?_⟩) hS ?_
  rotate_left
  · intro w' hSw; (try dsimp only at hSw); go_split_ands; go_simp; (try with_reducible rfl)
  (try simp only [Act.put, List.setIfInBounds_toArray, List.set_cons_zero, List.set_cons_succ])
  refine wpAnyT_take (i := 5) (v := ?_) (by kernel_rfl) (by simp only [List.getElem?_toArray, List.getElem?_cons_succ, List.getElem?_cons_zero]; rfl) (by kernel_rfl) (fun _ _ _ h => h) (Or.inl ⟨by rfl, ?_⟩) hS ?_
  rotate_left
  · intro w' hSw; (try dsimp only at hSw); go_split_ands; go_simp; (try with_reducible rfl)
  (try simp only [Act.put, List.setIfInBounds_toArray, List.set_cons_zero, List.set_cons_succ])
  refine wpAnyT_ready [0] (by kernel_rfl) (by simp) ?_
  refine AllReadyT.cons (by simp only [List.getElem?_toArray, List.getElem?_cons_succ, List.getElem?_cons_zero]; rfl) rfl (fun K hK => ?_) AllReadyT.nil
  go_simp
  refine (ways_any _).mono ?_
  rintro e w3 ⟨rfl, hb⟩
  have hq3 := hid (below_then hq2.out.drew hb)
  clear hb
  go_wp2_with fail
  have hS' : (fun W => Below W0.heap.size W0 W ∧ W.cell? ⟨w.heap.size, 0, none⟩ = some (.int .i64 a) ∧ W.cell? ⟨w.heap.size, 1, none⟩ = some (.int .i64 1) ∧ W.cell? ⟨w.heap.size, 2, none⟩ = some (.int .u64 t)) _ := ⟨hq3.out, HS.out _ hq3.out⟩
  refine hK.out _ _ hS' ?_
  clear hK K hS
  have hS := hS'
  clear hS'
  (try simp only [Act.put, List.setIfInBounds_toArray, List.set_cons_zero, List.set_cons_succ])
  refine wpAnyT_take (i := 3) (v := ?_) (by kernel_rfl) (by simp only [List.getElem?_toArray, List.getElem?_cons_succ, List.getElem?_cons_zero]; rfl) (by kernel_rfl) (fun _ _ _ h => h) (Or.inl ⟨by rfl, ?_⟩) hS ?_
  rotate_left
  · intro w' hSw; (try dsimp only at hSw); go_split_ands; go_simp; (try with_reducible rfl)
  (try simp only [Act.put, List.setIfInBounds_toArray, List.set_cons_zero, List.set_cons_succ])
  refine wpAnyT_take (i := 4) (v := ?_) (by kernel_rfl) (by simp only [List.getElem?_toArray, List.getElem?_cons_succ, List.getElem?_cons_zero]; rfl) (by kernel_rfl) (fun _ _ _ h => h) (Or.inl ⟨by rfl, ?_⟩) hS ?_
  rotate_left
  · intro w' hSw; (try dsimp only at hSw); go_split_ands; go_simp; (try with_reducible rfl)
  (try simp only [Act.put, List.setIfInBounds_toArray, List.set_cons_zero, List.set_cons_succ])
  refine wpAnyT_ready [6] (by kernel_rfl) (by simp) ?_
  refine AllReadyT.cons (by simp only [List.getElem?_toArray, List.getElem?_cons_succ, List.getElem?_cons_zero]; rfl) rfl (fun K hK => ?_) AllReadyT.nil
  go_simp
  refine (need1_any a 1 t _).mono ?_
  rintro e w4 ⟨rfl, hb⟩
  have hq4 := hid (below_then hq3.out hb)
  clear hb
  go_wp2_with fail
  have hS' : (fun W => Below W0.heap.size W0 W ∧ W.cell? ⟨w.heap.size, 0, none⟩ = some (.int .i64 a) ∧ W.cell? ⟨w.heap.size, 1, none⟩ = some (.int .i64 1) ∧ W.cell? ⟨w.heap.size, 2, none⟩ = some (.int .u64 t)) _ := ⟨hq4.out, HS.out _ hq4.out⟩
  refine hK.out _ _ hS' ?_
  clear hK K hS
  have hS := hS'
  clear hS'
  (try simp only [Act.put, List.setIfInBounds_toArray, List.set_cons_zero, List.set_cons_succ])
  refine wpAnyT_done (by kernel_rfl) ?_
  simp only [List.drop_succ_cons, List.drop_zero]
  have HB1 := hid (below_then HB.out hq4.out); have PA3 := hid (PA.out.step hq4.out)
  clear hS hix hfl heq hen PA2
  obtain ⟨x0, x1, x2, x3, xf⟩ := PA3.out.cells4
  go_wp2_with fail
  refine NoPanic.normal ?_
  go_wp2
  obtain ⟨q0, q1, q2, q3, qf⟩ := ((((PA3.out.setCell 0 (.int .i64 3)).setCell 1 (.int .i64 a)).setCell 2 (.int .u64 t)).setCell 3 (.int .u64 (incU t))).cells4
  refine bodyPost_ret (v := .tuple #[av 3 a t (incU t), .bool true]) (by simp [results, Try.results21, go_sem, q0, q1, q2, q3]) rfl ⟨?_, (((HB1.out.setCell (by simp) _).setCell (by simp) _).setCell (by simp) _).setCell (by simp) _⟩
  rw [show spNeedF (a, 1, t) = ((3, a, t, (incU t)), true) from if_pos ⟨HG.out, show (1 : Int) ≠ 3 ∧ (1 : Int) ≠ 5 by decide⟩]
set_option maxRecDepth 100000 in
set_option maxHeartbeats 4000000 in
theorem spneed2 (a t : Int) (w : World) (hg : SpGood (a, 2, t)) : Calls Try.prog 21 #[sv a 2 t] w (NdPost (a, 2, t) w) := by
  have HB := hid (Below.refl w.heap.size w)
  have bx := below_box w (.cells (scs a 2 t) 38)
  replace HB := hid (below_then HB.out bx)
  clear bx
  have PS := hid (Blk.new w 38 (scs a 2 t))
  have bx := below_box (w.alloc (.cells (scs a 2 t) 38)) (.cells (acs 0 0 0 0) 49)
  replace PS := hid (PS.out.step bx); replace HB := hid (below_then HB.out bx)
  clear bx
  have PA := hid (Blk.new2 w 49 (acs 0 0 0 0) (.cells (scs a 2 t) 38))
  have HG := hid hg
  clear hg
  go_enter Try.func21, Try.ntmps21
  go_upto_region 1 with fail
  have hz0 := hid (show ((w.alloc (.cells (scs a 2 t) 38)).alloc (.cells (acs 0 0 0 0) 49)).heap.size = w.heap.size + 2 by simp)
  generalize (w.alloc (.cells (scs a 2 t) 38)).alloc (.cells (acs 0 0 0 0) 49) = W0 at *
  have HS : Hid (∀ W, Below W0.heap.size W0 W → (W.cell? ⟨w.heap.size, 0, none⟩ = some (.int .i64 a) ∧ W.cell? ⟨w.heap.size, 1, none⟩ = some (.int .i64 2) ∧ W.cell? ⟨w.heap.size, 2, none⟩ = some (.int .u64 t))) := hid (fun W hb => ⟨(PS.out.step hb).cells3.1, (PS.out.step hb).cells3.2.1, (PS.out.step hb).cells3.2.2.1⟩)
  have E1 := hid (show spCheckC (a, 2, t) = 0 from if_pos HG.out)
  have hix := widx2; have hfl := wfld20; have heq := weq2
  refine wp_region_noPanic ?_
  refine wp_region_held_drew (S := (fun W => Below W0.heap.size W0 W ∧ W.cell? ⟨w.heap.size, 0, none⟩ = some (.int .i64 a) ∧ W.cell? ⟨w.heap.size, 1, none⟩ = some (.int .i64 2) ∧ W.cell? ⟨w.heap.size, 2, none⟩ = some (.int .u64 t))) (by kernel_rfl) ⟨(Below.refl _ _).drew, HS.out _ (Below.refl _ _).drew⟩ (fun hS => ?_)
  refine wpAnyH_take (i := 0) (v := ?_) (by simp only [List.getElem?_toArray, List.getElem?_cons_succ, List.getElem?_cons_zero]; rfl) (by kernel_rfl) (by kernel_rfl) (by kernel_rfl) (fun _ _ _ h => h) (Or.inl ⟨by rfl, ?_⟩) hS ?_
  rotate_left
  · intro w' hSw; (try dsimp only at hSw); go_split_ands; go_simp; (try with_reducible rfl)
  (try simp only [Act.put, List.setIfInBounds_toArray, List.set_cons_zero, List.set_cons_succ])
  refine wpAnyH_ready (rs := [1]) (by kernel_rfl) (by simp) ?_
  refine AllReadyH.cons (by simp only [List.getElem?_toArray, List.getElem?_cons_succ, List.getElem?_cons_zero]; rfl) (fun K hK => ?_) AllReadyH.nil
  go_simp
  refine (spcheck_any a 2 t _).mono ?_
  rintro e w1 ⟨rfl, hb⟩
  rw [E1.out]
  have hq1 := hid (below_then (Below.refl W0.heap.size W0).drew hb)
  clear hb
  go_wp2_with fail
  refine hK.out _ _ ⟨hq1.out, HS.out _ hq1.out⟩ (fun hS' => ?_)
  clear hK K hS
  have hS := hS'
  clear hS'
  (try simp only [Act.put, List.setIfInBounds_toArray, List.set_cons_zero, List.set_cons_succ])
  refine wpAnyH_take (i := 2) (v := ?_) (by simp only [List.getElem?_toArray, List.getElem?_cons_succ, List.getElem?_cons_zero]; rfl) (by kernel_rfl) (by kernel_rfl) (by kernel_rfl) (fun _ _ _ h => h) (Or.inl ⟨by rfl, ?_⟩) hS ?_
  rotate_left
  · intro w' hSw; (try dsimp only at hSw); go_split_ands; go_simp; (try with_reducible rfl)
  (try simp only [Act.put, List.setIfInBounds_toArray, List.set_cons_zero, List.set_cons_succ])
  refine wpAnyH_take (i := 3) (v := ?_) (by simp only [List.getElem?_toArray, List.getElem?_cons_succ, List.getElem?_cons_zero]; rfl) (by kernel_rfl) (by kernel_rfl) (by kernel_rfl) (fun _ _ _ h => h) (Or.inl ⟨by rfl, ?_⟩) hS ?_
  rotate_left
  · intro w' hSw; (try dsimp only at hSw); go_split_ands; go_simp; (try with_reducible rfl)
  (try simp only [Act.put, List.setIfInBounds_toArray, List.set_cons_zero, List.set_cons_succ])
  refine wpAnyH_take (i := 5) (v := ?_) (by simp only [List.getElem?_toArray, List.getElem?_cons_succ, List.getElem?_cons_zero]; rfl) (by kernel_rfl) (by kernel_rfl) (by kernel_rfl) (fun _ _ _ h => h) (Or.inl ⟨by rfl, ?_⟩) hS ?_
  rotate_left
  · intro w' hSw; (try dsimp only at hSw); go_split_ands; go_simp; (try with_reducible rfl)
  (try simp only [Act.put, List.setIfInBounds_toArray, List.set_cons_zero, List.set_cons_succ])
  refine wpAnyH_take (i := 6) (v := ?_) (by simp only [List.getElem?_toArray, List.getElem?_cons_succ, List.getElem?_cons_zero]; rfl) (by kernel_rfl) (by kernel_rfl) (by kernel_rfl) (fun _ _ _ h => h) (Or.inl ⟨by rfl, ?_⟩) hS ?_
  rotate_left
  · intro w' hSw; (try dsimp only at hSw); go_split_ands; go_simp; (try with_reducible rfl)
  (try simp only [Act.put, List.setIfInBounds_toArray, List.set_cons_zero, List.set_cons_succ])
  refine wpAnyH_ready (rs := [4]) (by kernel_rfl) (by simp) ?_
  refine AllReadyH.cons (by simp only [List.getElem?_toArray, List.getElem?_cons_succ, List.getElem?_cons_zero]; rfl) (fun K hK => ?_) AllReadyH.nil
  go_simp
  refine (ways_any _).mono ?_
  rintro e w2 ⟨rfl, hb⟩
  have hq2 := hid (below_then hq1.out hb)
  clear hb
  go_wp2_with fail
  refine hK.out _ _ ⟨hq2.out, HS.out _ hq2.out⟩ (fun hS' => ?_)
  clear hK K hS
  have hS := hS'
  clear hS'
  (try simp only [Act.put, List.setIfInBounds_toArray, List.set_cons_zero, List.set_cons_succ])
  refine wpAnyH_take (i := 7) (v := ?_) (by simp only [List.getElem?_toArray, List.getElem?_cons_succ, List.getElem?_cons_zero]; rfl) (by kernel_rfl) (by kernel_rfl) (by kernel_rfl) (fun _ _ _ h => h) (Or.inl ⟨by rfl, ?_⟩) hS ?_
  rotate_left
  · intro w' hSw; (try dsimp only at hSw); go_split_ands; go_simp; (try with_reducible rfl)
  (try simp only [Act.put, List.setIfInBounds_toArray, List.set_cons_zero, List.set_cons_succ])
  refine wpAnyH_take (i := 8) (v := ?_) (by simp only [List.getElem?_toArray, List.getElem?_cons_succ, List.getElem?_cons_zero]; rfl) (by kernel_rfl) (by kernel_rfl) (by kernel_rfl) (fun _ _ _ h => h) (Or.inl ⟨by rfl, ?_⟩) hS ?_
  rotate_left
  · intro w' hSw; (try dsimp only at hSw); go_split_ands; go_simp; (try with_reducible rfl)
  (try simp only [Act.put, List.setIfInBounds_toArray, List.set_cons_zero, List.set_cons_succ])
  refine wpAnyH_take (i := 9) (v := ?_) (by simp only [List.getElem?_toArray, List.getElem?_cons_succ, List.getElem?_cons_zero]; rfl) (by kernel_rfl) (by kernel_rfl) (by kernel_rfl) (fun _ _ _ h => h) (Or.inl ⟨by rfl, ?_⟩) hS ?_
  rotate_left
  · intro w' hSw; (try dsimp only at hSw); go_split_ands; go_simp; (try with_reducible rfl)
  (try simp only [Act.put, List.setIfInBounds_toArray, List.set_cons_zero, List.set_cons_succ])
  refine wpAnyH_take (i := 10) (v := ?_) (by simp only [List.getElem?_toArray, List.getElem?_cons_succ, List.getElem?_cons_zero]; rfl) (by kernel_rfl) (by kernel_rfl) (by kernel_rfl) (fun _ _ _ h => h) (Or.inl ⟨by rfl, ?_⟩) hS ?_
  rotate_left
  · intro w' hSw; (try dsimp only at hSw); go_split_ands; go_simp; (try with_reducible rfl)
  (try simp only [Act.put, List.setIfInBounds_toArray, List.set_cons_zero, List.set_cons_succ])
  refine wpAnyH_done (by kernel_rfl) ?_ _
  refine NoPanic.normal ?_
  clear hS
  go_upto_region 3 with fail
  have PA2 := hid (PA.out.step hq2.out)
  have hen := enters_of Try.func61 (by kernel_rfl) rfl
  refine wp_region_noPanic ?_
  refine wp_region_held_tail 7 (fun W => Below W0.heap.size W0 W ∧ W.cell? ⟨w.heap.size, 0, none⟩ = some (.int .i64 a) ∧ W.cell? ⟨w.heap.size, 1, none⟩ = some (.int .i64 2) ∧ W.cell? ⟨w.heap.size, 2, none⟩ = some (.int .u64 t)) #[false, false, false, false, false, false, false, false, false] (by kernel_rfl) ⟨hq2.out.drew, HS.out _ hq2.out.drew⟩ (by kernel_rfl) (by kernel_rfl) (fun hS => ?_)
  refine wpAnyT_take (i := 1) (v := ?_) (by kernel_rfl) (by simp only [List.getElem?_toArray, List.getElem?_cons_succ, List.getElem?_cons_zero]; rfl) (by kernel_rfl) (fun _ _ _ h => h) (Or.inl ⟨by rfl, ?_⟩) hS ?_
  rotate_left
  · intro w' hSw; (try dsimp only at hSw); go_split_ands; go_simp; (try with_reducible rfl)
  (try simp only [Act.put, List.setIfInBounds_toArray, List.set_cons_zero, List.set_cons_succ])
  refine wpAnyT_take (i := 2) (v := ?_) (by kernel_rfl) (by simp only [List.getElem?_toArray, List.getElem?_cons_succ, List.getElem?_cons_zero]; rfl) (by kernel_rfl) (fun _ _ _ h => h) (Or.inl ⟨by rfl, ?_⟩) hS ?_
  rotate_left
  · intro w' hSw; (try dsimp only at hSw); go_split_ands; go_simp; (try with_reducible rfl)
  (try simp only [Act.put, List.setIfInBounds_toArray, List.set_cons_zero, List.set_cons_succ])
  refine wpAnyT_take (i := 5) (v := ?_) (by kernel_rfl) (by simp only [List.getElem?_toArray, List.getElem?_cons_succ, List.getElem?_cons_zero]; rfl) (by kernel_rfl) (fun _ _ _ h => h) (Or.inl ⟨by rfl, ?_⟩) hS ?_
  rotate_left
  · intro w' hSw; (try dsimp only at hSw); go_split_ands; go_simp; (try with_reducible rfl)
  (try simp only [Act.put, List.setIfInBounds_toArray, List.set_cons_zero, List.set_cons_succ])
  refine wpAnyT_ready [0] (by kernel_rfl) (by simp) ?_
  refine AllReadyT.cons (by simp only [List.getElem?_toArray, List.getElem?_cons_succ, List.getElem?_cons_zero]; rfl) rfl (fun K hK => ?_) AllReadyT.nil
  go_simp
  refine (ways_any _).mono ?_
  rintro e w3 ⟨rfl, hb⟩
  have hq3 := hid (below_then hq2.out.drew hb)
  clear hb
  go_wp2_with fail
  have hS' : (fun W => Below W0.heap.size W0 W ∧ W.cell? ⟨w.heap.size, 0, none⟩ = some (.int .i64 a) ∧ W.cell? ⟨w.heap.size, 1, none⟩ = some (.int .i64 2) ∧ W.cell? ⟨w.heap.size, 2, none⟩ = some (.int .u64 t)) _ := ⟨hq3.out, HS.out _ hq3.out⟩
  refine hK.out _ _ hS' ?_
  clear hK K hS
  have hS := hS'
  clear hS'
  (try simp only [Act.put, List.setIfInBounds_toArray, List.set_cons_zero, List.set_cons_succ])
  refine wpAnyT_take (i := 3) (v := ?_) (by kernel_rfl) (by simp only [List.getElem?_toArray, List.getElem?_cons_succ, List.getElem?_cons_zero]; rfl) (by kernel_rfl) (fun _ _ _ h => h) (Or.inl ⟨by rfl, ?_⟩) hS ?_
  rotate_left
  · intro w' hSw; (try dsimp only at hSw); go_split_ands; go_simp; (try with_reducible rfl)
  (try simp only [Act.put, List.setIfInBounds_toArray, List.set_cons_zero, List.set_cons_succ])
  refine wpAnyT_take (i := 4) (v := ?_) (by kernel_rfl) (by simp only [List.getElem?_toArray, List.getElem?_cons_succ, List.getElem?_cons_zero]; rfl) (by kernel_rfl) (fun _ _ _ h => h) (Or.inl ⟨by rfl, ?_⟩) hS ?_
  rotate_left
  · intro w' hSw; (try dsimp only at hSw); go_split_ands; go_simp; (try with_reducible rfl)
  (try simp only [Act.put, List.setIfInBounds_toArray, List.set_cons_zero, List.set_cons_succ])
  refine wpAnyT_ready [6] (by kernel_rfl) (by simp) ?_
  refine AllReadyT.cons (by simp only [List.getElem?_toArray, List.getElem?_cons_succ, List.getElem?_cons_zero]; rfl) rfl (fun K hK => ?_) AllReadyT.nil
  go_simp
  refine (need2_any a 2 t _).mono ?_
  rintro e w4 ⟨rfl, hb⟩
  have hq4 := hid (below_then hq3.out hb)
  clear hb
  go_wp2_with fail
  have hS' : (fun W => Below W0.heap.size W0 W ∧ W.cell? ⟨w.heap.size, 0, none⟩ = some (.int .i64 a) ∧ W.cell? ⟨w.heap.size, 1, none⟩ = some (.int .i64 2) ∧ W.cell? ⟨w.heap.size, 2, none⟩ = some (.int .u64 t)) _ := ⟨hq4.out, HS.out _ hq4.out⟩
  refine hK.out _ _ hS' ?_
  clear hK K hS
  have hS := hS'
  clear hS'
  (try simp only [Act.put, List.setIfInBounds_toArray, List.set_cons_zero, List.set_cons_succ])
  refine wpAnyT_done (by kernel_rfl) ?_
  simp only [List.drop_succ_cons, List.drop_zero]
  have HB1 := hid (below_then HB.out hq4.out); have PA3 := hid (PA.out.step hq4.out)
  clear hS hix hfl heq hen PA2
  obtain ⟨x0, x1, x2, x3, xf⟩ := PA3.out.cells4
  go_wp2_with fail
  refine NoPanic.normal ?_
  go_wp2
  obtain ⟨q0, q1, q2, q3, qf⟩ := ((((PA3.out.setCell 0 (.int .i64 1)).setCell 1 (.int .i64 (inc64 a))).setCell 2 (.int .u64 0)).setCell 3 (.int .u64 0)).cells4
  refine bodyPost_ret (v := .tuple #[av 1 (inc64 a) 0 0, .bool true]) (by simp [results, Try.results21, go_sem, q0, q1, q2, q3]) rfl ⟨?_, (((HB1.out.setCell (by simp) _).setCell (by simp) _).setCell (by simp) _).setCell (by simp) _⟩
  rw [show spNeedF (a, 2, t) = ((1, (inc64 a), 0, 0), true) from if_pos ⟨HG.out, show (2 : Int) ≠ 3 ∧ (2 : Int) ≠ 5 by decide⟩]
set_option maxRecDepth 100000 in
set_option maxHeartbeats 4000000 in
theorem spneed3 (a t : Int) (w : World) (hg : SpGood (a, 3, t)) : Calls Try.prog 21 #[sv a 3 t] w (NdPost (a, 3, t) w) := by
  have HB := hid (Below.refl w.heap.size w)
  have bx := below_box w (.cells (scs a 3 t) 38)
  replace HB := hid (below_then HB.out bx)
  clear bx
  have PS := hid (Blk.new w 38 (scs a 3 t))
  have bx := below_box (w.alloc (.cells (scs a 3 t) 38)) (.cells (acs 0 0 0 0) 49)
  replace PS := hid (PS.out.step bx); replace HB := hid (below_then HB.out bx)
  clear bx
  have PA := hid (Blk.new2 w 49 (acs 0 0 0 0) (.cells (scs a 3 t) 38))
  have HG := hid hg
  clear hg
  go_enter Try.func21, Try.ntmps21
  go_upto_region 1 with fail
  have hz0 := hid (show ((w.alloc (.cells (scs a 3 t) 38)).alloc (.cells (acs 0 0 0 0) 49)).heap.size = w.heap.size + 2 by simp)
  generalize (w.alloc (.cells (scs a 3 t) 38)).alloc (.cells (acs 0 0 0 0) 49) = W0 at *
  have HS : Hid (∀ W, Below W0.heap.size W0 W → (W.cell? ⟨w.heap.size, 0, none⟩ = some (.int .i64 a) ∧ W.cell? ⟨w.heap.size, 1, none⟩ = some (.int .i64 3) ∧ W.cell? ⟨w.heap.size, 2, none⟩ = some (.int .u64 t))) := hid (fun W hb => ⟨(PS.out.step hb).cells3.1, (PS.out.step hb).cells3.2.1, (PS.out.step hb).cells3.2.2.1⟩)
  have E1 := hid (show spCheckC (a, 3, t) = 0 from if_pos HG.out)
  have hix := widx3; have hfl := wfld30; have heq := weq3
  refine wp_region_noPanic ?_
  refine wp_region_held_drew (S := (fun W => Below W0.heap.size W0 W ∧ W.cell? ⟨w.heap.size, 0, none⟩ = some (.int .i64 a) ∧ W.cell? ⟨w.heap.size, 1, none⟩ = some (.int .i64 3) ∧ W.cell? ⟨w.heap.size, 2, none⟩ = some (.int .u64 t))) (by kernel_rfl) ⟨(Below.refl _ _).drew, HS.out _ (Below.refl _ _).drew⟩ (fun hS => ?_)
  refine wpAnyH_take (i := 0) (v := ?_) (by simp only [List.getElem?_toArray, List.getElem?_cons_succ, List.getElem?_cons_zero]; rfl) (by kernel_rfl) (by kernel_rfl) (by kernel_rfl) (fun _ _ _ h => h) (Or.inl ⟨by rfl, ?_⟩) hS ?_
  rotate_left
  · intro w' hSw; (try dsimp only at hSw); go_split_ands; go_simp; (try with_reducible rfl)
  (try simp only [Act.put, List.setIfInBounds_toArray, List.set_cons_zero, List.set_cons_succ])
  refine wpAnyH_ready (rs := [1]) (by kernel_rfl) (by simp) ?_
  refine AllReadyH.cons (by simp only [List.getElem?_toArray, List.getElem?_cons_succ, List.getElem?_cons_zero]; rfl) (fun K hK => ?_) AllReadyH.nil
  go_simp
  refine (spcheck_any a 3 t _).mono ?_
  rintro e w1 ⟨rfl, hb⟩
  rw [E1.out]
  have hq1 := hid (below_then (Below.refl W0.heap.size W0).drew hb)
  clear hb
  go_wp2_with fail
  refine hK.out _ _ ⟨hq1.out, HS.out _ hq1.out⟩ (fun hS' => ?_)
  clear hK K hS
  have hS := hS'
  clear hS'
  (try simp only [Act.put, List.setIfInBounds_toArray, List.set_cons_zero, List.set_cons_succ])
  refine wpAnyH_take (i := 2) (v := ?_) (by simp only [List.getElem?_toArray, List.getElem?_cons_succ, List.getElem?_cons_zero]; rfl) (by kernel_rfl) (by kernel_rfl) (by kernel_rfl) (fun _ _ _ h => h) (Or.inl ⟨by rfl, ?_⟩) hS ?_
  rotate_left
  · intro w' hSw; (try dsimp only at hSw); go_split_ands; go_simp; (try with_reducible rfl)
  (try simp only [Act.put, List.setIfInBounds_toArray, List.set_cons_zero, List.set_cons_succ])
  refine wpAnyH_take (i := 3) (v := ?_) (by simp only [List.getElem?_toArray, List.getElem?_cons_succ, List.getElem?_cons_zero]; rfl) (by kernel_rfl) (by kernel_rfl) (by kernel_rfl) (fun _ _ _ h => h) (Or.inl ⟨by rfl, ?_⟩) hS ?_
  rotate_left
  · intro w' hSw; (try dsimp only at hSw); go_split_ands; go_simp; (try with_reducible rfl)
  (try simp only [Act.put, List.setIfInBounds_toArray, List.set_cons_zero, List.set_cons_succ])
  refine wpAnyH_take (i := 5) (v := ?_) (by simp only [List.getElem?_toArray, List.getElem?_cons_succ, List.getElem?_cons_zero]; rfl) (by kernel_rfl) (by kernel_rfl) (by kernel_rfl) (fun _ _ _ h => h) (Or.inl ⟨by rfl, ?_⟩) hS ?_
  rotate_left
  · intro w' hSw; (try dsimp only at hSw); go_split_ands; go_simp; (try with_reducible rfl)
  (try simp only [Act.put, List.setIfInBounds_toArray, List.set_cons_zero, List.set_cons_succ])
  refine wpAnyH_take (i := 6) (v := ?_) (by simp only [List.getElem?_toArray, List.getElem?_cons_succ, List.getElem?_cons_zero]; rfl) (by kernel_rfl) (by kernel_rfl) (by kernel_rfl) (fun _ _ _ h => h) (Or.inl ⟨by rfl, ?_⟩) hS ?_
  rotate_left
  · intro w' hSw; (try dsimp only at hSw); go_split_ands; go_simp; (try with_reducible rfl)
  (try simp only [Act.put, List.setIfInBounds_toArray, List.set_cons_zero, List.set_cons_succ])
  refine wpAnyH_ready (rs := [4]) (by kernel_rfl) (by simp) ?_
  refine AllReadyH.cons (by simp only [List.getElem?_toArray, List.getElem?_cons_succ, List.getElem?_cons_zero]; rfl) (fun K hK => ?_) AllReadyH.nil
  go_simp
  refine (ways_any _).mono ?_
  rintro e w2 ⟨rfl, hb⟩
  have hq2 := hid (below_then hq1.out hb)
  clear hb
  go_wp2_with fail
  refine hK.out _ _ ⟨hq2.out, HS.out _ hq2.out⟩ (fun hS' => ?_)
  clear hK K hS
  have hS := hS'
  clear hS'
  (try simp only [Act.put, List.setIfInBounds_toArray, List.set_cons_zero, List.set_cons_succ])
  refine wpAnyH_take (i := 7) (v := ?_) (by simp only [List.getElem?_toArray, List.getElem?_cons_succ, List.getElem?_cons_zero]; rfl) (by kernel_rfl) (by kernel_rfl) (by kernel_rfl) (fun _ _ _ h => h) (Or.inl ⟨by rfl, ?_⟩) hS ?_
  rotate_left
  · intro w' hSw; (try dsimp only at hSw); go_split_ands; go_simp; (try with_reducible rfl)
  (try simp only [Act.put, List.setIfInBounds_toArray, List.set_cons_zero, List.set_cons_succ])
  refine wpAnyH_take (i := 8) (v := ?_) (by simp only [List.getElem?_toArray, List.getElem?_cons_succ, List.getElem?_cons_zero]; rfl) (by kernel_rfl) (by kernel_rfl) (by kernel_rfl) (fun _ _ _ h => h) (Or.inl ⟨by rfl, ?_⟩) hS ?_
  rotate_left
  · intro w' hSw; (try dsimp only at hSw); go_split_ands; go_simp; (try with_reducible rfl)
  (try simp only [Act.put, List.setIfInBounds_toArray, List.set_cons_zero, List.set_cons_succ])
  refine wpAnyH_take (i := 9) (v := ?_) (by simp only [List.getElem?_toArray, List.getElem?_cons_succ, List.getElem?_cons_zero]; rfl) (by kernel_rfl) (by kernel_rfl) (by kernel_rfl) (fun _ _ _ h => h) (Or.inl ⟨by rfl, ?_⟩) hS ?_
  rotate_left
  · intro w' hSw; (try dsimp only at hSw); go_split_ands; go_simp; (try with_reducible rfl)
  (try simp only [Act.put, List.setIfInBounds_toArray, List.set_cons_zero, List.set_cons_succ])
  refine wpAnyH_take (i := 10) (v := ?_) (by simp only [List.getElem?_toArray, List.getElem?_cons_succ, List.getElem?_cons_zero]; rfl) (by kernel_rfl) (by kernel_rfl) (by kernel_rfl) (fun _ _ _ h => h) (Or.inl ⟨by rfl, ?_⟩) hS ?_
  rotate_left
  · intro w' hSw; (try dsimp only at hSw); go_split_ands; go_simp; (try with_reducible rfl)
  (try simp only [Act.put, List.setIfInBounds_toArray, List.set_cons_zero, List.set_cons_succ])
  refine wpAnyH_done (by kernel_rfl) ?_ _
  refine NoPanic.normal ?_
  have HB1 := hid (below_then HB.out hq2.out); have PA1 := hid (PA.out.step hq2.out)
  clear hS
  obtain ⟨x0, x1, x2, x3, xf⟩ := PA1.out.cells4
  go_wp2
  obtain ⟨q0, q1, q2, q3, qf⟩ := ((((PA1.out.setCell 0 (.int .i64 0)).setCell 1 (.int .i64 0)).setCell 2 (.int .u64 0)).setCell 3 (.int .u64 0)).cells4
  refine bodyPost_ret (v := .tuple #[av 0 0 0 0, .bool false]) (by simp [results, Try.results21, go_sem, q0, q1, q2, q3]) rfl ⟨?_, (((HB1.out.setCell (by simp) _).setCell (by simp) _).setCell (by simp) _).setCell (by simp) _⟩
  rw [show spNeedF (a, 3, t) = ((0, 0, 0, 0), false) from if_neg (fun h => h.2.1 rfl)]
set_option maxRecDepth 100000 in
set_option maxHeartbeats 4000000 in
theorem spneed4 (a t : Int) (w : World) (hg : SpGood (a, 4, t)) : Calls Try.prog 21 #[sv a 4 t] w (NdPost (a, 4, t) w) := by
  have HB := hid (Below.refl w.heap.size w)
  have bx := below_box w (.cells (scs a 4 t) 38)
  replace HB := hid (below_then HB.out bx)
  clear bx
  have PS := hid (Blk.new w 38 (scs a 4 t))
  have bx := below_box (w.alloc (.cells (scs a 4 t) 38)) (.cells (acs 0 0 0 0) 49)
  replace PS := hid (PS.out.step bx); replace HB := hid (below_then HB.out bx)
  clear bx
  have PA := hid (Blk.new2 w 49 (acs 0 0 0 0) (.cells (scs a 4 t) 38))
  have HG := hid hg
  clear hg
  go_enter Try.func21, Try.ntmps21
  go_upto_region 1 with fail
  have hz0 := hid (show ((w.alloc (.cells (scs a 4 t) 38)).alloc (.cells (acs 0 0 0 0) 49)).heap.size = w.heap.size + 2 by simp)
  generalize (w.alloc (.cells (scs a 4 t) 38)).alloc (.cells (acs 0 0 0 0) 49) = W0 at *
  have HS : Hid (∀ W, Below W0.heap.size W0 W → (W.cell? ⟨w.heap.size, 0, none⟩ = some (.int .i64 a) ∧ W.cell? ⟨w.heap.size, 1, none⟩ = some (.int .i64 4) ∧ W.cell? ⟨w.heap.size, 2, none⟩ = some (.int .u64 t))) := hid (fun W hb => ⟨(PS.out.step hb).cells3.1, (PS.out.step hb).cells3.2.1, (PS.out.step hb).cells3.2.2.1⟩)
  have E1 := hid (show spCheckC (a, 4, t) = 0 from if_pos HG.out)
  have hix := widx4; have hfl := wfld40; have heq := weq4
  refine wp_region_noPanic ?_
  refine wp_region_held_drew (S := (fun W => Below W0.heap.size W0 W ∧ W.cell? ⟨w.heap.size, 0, none⟩ = some (.int .i64 a) ∧ W.cell? ⟨w.heap.size, 1, none⟩ = some (.int .i64 4) ∧ W.cell? ⟨w.heap.size, 2, none⟩ = some (.int .u64 t))) (by kernel_rfl) ⟨(Below.refl _ _).drew, HS.out _ (Below.refl _ _).drew⟩ (fun hS => ?_)
  refine wpAnyH_take (i := 0) (v := ?_) (by simp only [List.getElem?_toArray, List.getElem?_cons_succ, List.getElem?_cons_zero]; rfl) (by kernel_rfl) (by kernel_rfl) (by kernel_rfl) (fun _ _ _ h => h) (Or.inl ⟨by rfl, ?_⟩) hS ?_
  rotate_left
  · intro w' hSw; (try dsimp only at hSw); go_split_ands; go_simp; (try with_reducible rfl)
  (try simp only [Act.put, List.setIfInBounds_toArray, List.set_cons_zero, List.set_cons_succ])
  refine wpAnyH_ready (rs := [1]) (by kernel_rfl) (by simp) ?_
  refine AllReadyH.cons (by simp only [List.getElem?_toArray, List.getElem?_cons_succ, List.getElem?_cons_zero]; rfl) (fun K hK => ?_) AllReadyH.nil
  go_simp
  refine (spcheck_any a 4 t _).mono ?_
  rintro e w1 ⟨rfl, hb⟩
  rw [E1.out]
  have hq1 := hid (below_then (Below.refl W0.heap.size W0).drew hb)
  clear hb
  go_wp2_with fail
  refine hK.out _ _ ⟨hq1.out, HS.out _ hq1.out⟩ (fun hS' => ?_)
  clear hK K hS
  have hS := hS'
  clear hS'
  (try simp only [Act.put, List.setIfInBounds_toArray, List.set_cons_zero, List.set_cons_succ])
  refine wpAnyH_take (i := 2) (v := ?_) (by simp only [List.getElem?_toArray, List.getElem?_cons_succ, List.getElem?_cons_zero]; rfl) (by kernel_rfl) (by kernel_rfl) (by kernel_rfl) (fun _ _ _ h => h) (Or.inl ⟨by rfl, ?_⟩) hS ?_
  rotate_left
  · intro w' hSw; (try dsimp only at hSw); go_split_ands; go_simp; (try with_reducible rfl)
  (try simp only [Act.put, List.setIfInBounds_toArray, List.set_cons_zero, List.set_cons_succ])
  refine wpAnyH_take (i := 3) (v := ?_) (by simp only [List.getElem?_toArray, List.getElem?_cons_succ, List.getElem?_cons_zero]; rfl) (by kernel_rfl) (by kernel_rfl) (by kernel_rfl) (fun _ _ _ h => h) (Or.inl ⟨by rfl, ?_⟩) hS ?_
  rotate_left
  · intro w' hSw; (try dsimp only at hSw); go_split_ands; go_simp; (try with_reducible rfl)
  (try simp only [Act.put, List.setIfInBounds_toArray, List.set_cons_zero, List.set_cons_succ])
  refine wpAnyH_take (i := 5) (v := ?_) (by simp only [List.getElem?_toArray, List.getElem?_cons_succ, List.getElem?_cons_zero]; rfl) (by kernel_rfl) (by kernel_rfl) (by kernel_rfl) (fun _ _ _ h => h) (Or.inl ⟨by rfl, ?_⟩) hS ?_
  rotate_left
  · intro w' hSw; (try dsimp only at hSw); go_split_ands; go_simp; (try with_reducible rfl)
  (try simp only [Act.put, List.setIfInBounds_toArray, List.set_cons_zero, List.set_cons_succ])
  refine wpAnyH_take (i := 6) (v := ?_) (by simp only [List.getElem?_toArray, List.getElem?_cons_succ, List.getElem?_cons_zero]; rfl) (by kernel_rfl) (by kernel_rfl) (by kernel_rfl) (fun _ _ _ h => h) (Or.inl ⟨by rfl, ?_⟩) hS ?_
  rotate_left
  · intro w' hSw; (try dsimp only at hSw); go_split_ands; go_simp; (try with_reducible rfl)
  (try simp only [Act.put, List.setIfInBounds_toArray, List.set_cons_zero, List.set_cons_succ])
  refine wpAnyH_ready (rs := [4]) (by kernel_rfl) (by simp) ?_
  refine AllReadyH.cons (by simp only [List.getElem?_toArray, List.getElem?_cons_succ, List.getElem?_cons_zero]; rfl) (fun K hK => ?_) AllReadyH.nil
  go_simp
  refine (ways_any _).mono ?_
  rintro e w2 ⟨rfl, hb⟩
  have hq2 := hid (below_then hq1.out hb)
  clear hb
  go_wp2_with fail
  refine hK.out _ _ ⟨hq2.out, HS.out _ hq2.out⟩ (fun hS' => ?_)
  clear hK K hS
  have hS := hS'
  clear hS'
  (try simp only [Act.put, List.setIfInBounds_toArray, List.set_cons_zero, List.set_cons_succ])
  refine wpAnyH_take (i := 7) (v := ?_) (by simp only [List.getElem?_toArray, List.getElem?_cons_succ, List.getElem?_cons_zero]; rfl) (by kernel_rfl) (by kernel_rfl) (by kernel_rfl) (fun _ _ _ h => h) (Or.inl ⟨by rfl, ?_⟩) hS ?_
  rotate_left
  · intro w' hSw; (try dsimp only at hSw); go_split_ands; go_simp; (try with_reducible rfl)
  (try simp only [Act.put, List.setIfInBounds_toArray, List.set_cons_zero, List.set_cons_succ])
  refine wpAnyH_take (i := 8) (v := ?_) (by simp only [List.getElem?_toArray, List.getElem?_cons_succ, List.getElem?_cons_zero]; rfl) (by kernel_rfl) (by kernel_rfl) (by kernel_rfl) (fun _ _ _ h => h) (Or.inl ⟨by rfl, ?_⟩) hS ?_
  rotate_left
  · intro w' hSw; (try dsimp only at hSw); go_split_ands; go_simp; (try with_reducible rfl)
  (try simp only [Act.put, List.setIfInBounds_toArray, List.set_cons_zero, List.set_cons_succ])
  refine wpAnyH_take (i := 9) (v := ?_) (by simp only [List.getElem?_toArray, List.getElem?_cons_succ, List.getElem?_cons_zero]; rfl) (by kernel_rfl) (by kernel_rfl) (by kernel_rfl) (fun _ _ _ h => h) (Or.inl ⟨by rfl, ?_⟩) hS ?_
  rotate_left
  · intro w' hSw; (try dsimp only at hSw); go_split_ands; go_simp; (try with_reducible rfl)
  (try simp only [Act.put, List.setIfInBounds_toArray, List.set_cons_zero, List.set_cons_succ])
  refine wpAnyH_take (i := 10) (v := ?_) (by simp only [List.getElem?_toArray, List.getElem?_cons_succ, List.getElem?_cons_zero]; rfl) (by kernel_rfl) (by kernel_rfl) (by kernel_rfl) (fun _ _ _ h => h) (Or.inl ⟨by rfl, ?_⟩) hS ?_
  rotate_left
  · intro w' hSw; (try dsimp only at hSw); go_split_ands; go_simp; (try with_reducible rfl)
  (try simp only [Act.put, List.setIfInBounds_toArray, List.set_cons_zero, List.set_cons_succ])
  refine wpAnyH_done (by kernel_rfl) ?_ _
  refine NoPanic.normal ?_
  clear hS
  go_upto_region 3 with fail
  have PA2 := hid (PA.out.step hq2.out)
  have hen := enters_of Try.func63 (by kernel_rfl) rfl
  refine wp_region_noPanic ?_
  refine wp_region_held_tail 7 (fun W => Below W0.heap.size W0 W ∧ W.cell? ⟨w.heap.size, 0, none⟩ = some (.int .i64 a) ∧ W.cell? ⟨w.heap.size, 1, none⟩ = some (.int .i64 4) ∧ W.cell? ⟨w.heap.size, 2, none⟩ = some (.int .u64 t)) #[false, false, false, false, false, false, false, false, false] (by kernel_rfl) ⟨hq2.out.drew, HS.out _ hq2.out.drew⟩ (by kernel_rfl) (by kernel_rfl) (fun hS => ?_)
  refine wpAnyT_take (i := 1) (v := ?_) (by kernel_rfl) (by simp only [List.getElem?_toArray, List.getElem?_cons_succ, List.getElem?_cons_zero]; rfl) (by kernel_rfl) (fun _ _ _ h => h) (Or.inl ⟨by rfl, ?_⟩) hS ?_
  rotate_left
  · intro w' hSw; (try dsimp only at hSw); go_split_ands; go_simp; (try with_reducible rfl)
  (try simp only [Act.put, List.setIfInBounds_toArray, List.set_cons_zero, List.set_cons_succ])
  refine wpAnyT_take (i := 2) (v := ?_) (by kernel_rfl) (by simp only [List.getElem?_toArray, List.getElem?_cons_succ, List.getElem?_cons_zero]; rfl) (by kernel_rfl) (fun _ _ _ h => h) (Or.inl ⟨by rfl, ?_⟩) hS ?_
  rotate_left
  · intro w' hSw; (try dsimp only at hSw); go_split_ands; go_simp; (try with_reducible rfl)
  (try simp only [Act.put, List.setIfInBounds_toArray, List.set_cons_zero, List.set_cons_succ])
  refine wpAnyT_take (i := 5) (v := ?_) (by kernel_rfl) (by simp only [List.getElem?_toArray, List.getElem?_cons_succ, List.getElem?_cons_zero]; rfl) (by kernel_rfl) (fun _ _ _ h => h) (Or.inl ⟨by rfl, ?_⟩) hS ?_
  rotate_left
  · intro w' hSw; (try dsimp only at hSw); go_split_ands; go_simp; (try with_reducible rfl)
  (try simp only [Act.put, List.setIfInBounds_toArray, List.set_cons_zero, List.set_cons_succ])
  refine wpAnyT_ready [0] (by kernel_rfl) (by simp) ?_
  refine AllReadyT.cons (by simp only [List.getElem?_toArray, List.getElem?_cons_succ, List.getElem?_cons_zero]; rfl) rfl (fun K hK => ?_) AllReadyT.nil
  go_simp
  refine (ways_any _).mono ?_
  rintro e w3 ⟨rfl, hb⟩
  have hq3 := hid (below_then hq2.out.drew hb)
  clear hb
  go_wp2_with fail
  have hS' : (fun W => Below W0.heap.size W0 W ∧ W.cell? ⟨w.heap.size, 0, none⟩ = some (.int .i64 a) ∧ W.cell? ⟨w.heap.size, 1, none⟩ = some (.int .i64 4) ∧ W.cell? ⟨w.heap.size, 2, none⟩ = some (.int .u64 t)) _ := ⟨hq3.out, HS.out _ hq3.out⟩
  refine hK.out _ _ hS' ?_
  clear hK K hS
  have hS := hS'
  clear hS'
  (try simp only [Act.put, List.setIfInBounds_toArray, List.set_cons_zero, List.set_cons_succ])
  refine wpAnyT_take (i := 3) (v := ?_) (by kernel_rfl) (by simp only [List.getElem?_toArray, List.getElem?_cons_succ, List.getElem?_cons_zero]; rfl) (by kernel_rfl) (fun _ _ _ h => h) (Or.inl ⟨by rfl, ?_⟩) hS ?_
  rotate_left
  · intro w' hSw; (try dsimp only at hSw); go_split_ands; go_simp; (try with_reducible rfl)
  (try simp only [Act.put, List.setIfInBounds_toArray, List.set_cons_zero, List.set_cons_succ])
  refine wpAnyT_take (i := 4) (v := ?_) (by kernel_rfl) (by simp only [List.getElem?_toArray, List.getElem?_cons_succ, List.getElem?_cons_zero]; rfl) (by kernel_rfl) (fun _ _ _ h => h) (Or.inl ⟨by rfl, ?_⟩) hS ?_
  rotate_left
  · intro w' hSw; (try dsimp only at hSw); go_split_ands; go_simp; (try with_reducible rfl)
  (try simp only [Act.put, List.setIfInBounds_toArray, List.set_cons_zero, List.set_cons_succ])
  refine wpAnyT_ready [6] (by kernel_rfl) (by simp) ?_
  refine AllReadyT.cons (by simp only [List.getElem?_toArray, List.getElem?_cons_succ, List.getElem?_cons_zero]; rfl) rfl (fun K hK => ?_) AllReadyT.nil
  go_simp
  refine (need4_any a 4 t _).mono ?_
  rintro e w4 ⟨rfl, hb⟩
  have hq4 := hid (below_then hq3.out hb)
  clear hb
  go_wp2_with fail
  have hS' : (fun W => Below W0.heap.size W0 W ∧ W.cell? ⟨w.heap.size, 0, none⟩ = some (.int .i64 a) ∧ W.cell? ⟨w.heap.size, 1, none⟩ = some (.int .i64 4) ∧ W.cell? ⟨w.heap.size, 2, none⟩ = some (.int .u64 t)) _ := ⟨hq4.out, HS.out _ hq4.out⟩
  refine hK.out _ _ hS' ?_
  clear hK K hS
  have hS := hS'
  clear hS'
  (try simp only [Act.put, List.setIfInBounds_toArray, List.set_cons_zero, List.set_cons_succ])
  refine wpAnyT_done (by kernel_rfl) ?_
  simp only [List.drop_succ_cons, List.drop_zero]
  have HB1 := hid (below_then HB.out hq4.out); have PA3 := hid (PA.out.step hq4.out)
  clear hS hix hfl heq hen PA2
  obtain ⟨x0, x1, x2, x3, xf⟩ := PA3.out.cells4
  go_wp2_with fail
  refine NoPanic.normal ?_
  go_wp2
  obtain ⟨q0, q1, q2, q3, qf⟩ := ((((PA3.out.setCell 0 (.int .i64 2)).setCell 1 (.int .i64 (inc64 a))).setCell 2 (.int .u64 0)).setCell 3 (.int .u64 (incU t))).cells4
  refine bodyPost_ret (v := .tuple #[av 2 (inc64 a) 0 (incU t), .bool true]) (by simp [results, Try.results21, go_sem, q0, q1, q2, q3]) rfl ⟨?_, (((HB1.out.setCell (by simp) _).setCell (by simp) _).setCell (by simp) _).setCell (by simp) _⟩
  rw [show spNeedF (a, 4, t) = ((2, (inc64 a), 0, (incU t)), true) from if_pos ⟨HG.out, show (4 : Int) ≠ 3 ∧ (4 : Int) ≠ 5 by decide⟩]
set_option maxRecDepth 100000 in
set_option maxHeartbeats 4000000 in
theorem spneed5 (a t : Int) (w : World) (hg : SpGood (a, 5, t)) : Calls Try.prog 21 #[sv a 5 t] w (NdPost (a, 5, t) w) := by
  have HB := hid (Below.refl w.heap.size w)
  have bx := below_box w (.cells (scs a 5 t) 38)
  replace HB := hid (below_then HB.out bx)
  clear bx
  have PS := hid (Blk.new w 38 (scs a 5 t))
  have bx := below_box (w.alloc (.cells (scs a 5 t) 38)) (.cells (acs 0 0 0 0) 49)
  replace PS := hid (PS.out.step bx); replace HB := hid (below_then HB.out bx)
  clear bx
  have PA := hid (Blk.new2 w 49 (acs 0 0 0 0) (.cells (scs a 5 t) 38))
  have HG := hid hg
  clear hg
  go_enter Try.func21, Try.ntmps21
  go_upto_region 1 with fail
  have hz0 := hid (show ((w.alloc (.cells (scs a 5 t) 38)).alloc (.cells (acs 0 0 0 0) 49)).heap.size = w.heap.size + 2 by simp)
  generalize (w.alloc (.cells (scs a 5 t) 38)).alloc (.cells (acs 0 0 0 0) 49) = W0 at *
  have HS : Hid (∀ W, Below W0.heap.size W0 W → (W.cell? ⟨w.heap.size, 0, none⟩ = some (.int .i64 a) ∧ W.cell? ⟨w.heap.size, 1, none⟩ = some (.int .i64 5) ∧ W.cell? ⟨w.heap.size, 2, none⟩ = some (.int .u64 t))) := hid (fun W hb => ⟨(PS.out.step hb).cells3.1, (PS.out.step hb).cells3.2.1, (PS.out.step hb).cells3.2.2.1⟩)
  have E1 := hid (show spCheckC (a, 5, t) = 0 from if_pos HG.out)
  have hix := widx5; have hfl := wfld50; have heq := weq5
  refine wp_region_noPanic ?_
  refine wp_region_held_drew (S := (fun W => Below W0.heap.size W0 W ∧ W.cell? ⟨w.heap.size, 0, none⟩ = some (.int .i64 a) ∧ W.cell? ⟨w.heap.size, 1, none⟩ = some (.int .i64 5) ∧ W.cell? ⟨w.heap.size, 2, none⟩ = some (.int .u64 t))) (by kernel_rfl) ⟨(Below.refl _ _).drew, HS.out _ (Below.refl _ _).drew⟩ (fun hS => ?_)
  refine wpAnyH_take (i := 0) (v := ?_) (by simp only [List.getElem?_toArray, List.getElem?_cons_succ, List.getElem?_cons_zero]; rfl) (by kernel_rfl) (by kernel_rfl) (by kernel_rfl) (fun _ _ _ h => h) (Or.inl ⟨by rfl, ?_⟩) hS ?_
  rotate_left
  · intro w' hSw; (try dsimp only at hSw); go_split_ands; go_simp; (try with_reducible rfl)
  (try simp only [Act.put, List.setIfInBounds_toArray, List.set_cons_zero, List.set_cons_succ])
  refine wpAnyH_ready (rs := [1]) (by kernel_rfl) (by simp) ?_
  refine AllReadyH.cons (by simp only [List.getElem?_toArray, List.getElem?_cons_succ, List.getElem?_cons_zero]; rfl) (fun K hK => ?_) AllReadyH.nil
  go_simp
  refine (spcheck_any a 5 t _).mono ?_
  rintro e w1 ⟨rfl, hb⟩
  rw [E1.out]
  have hq1 := hid (below_then (Below.refl W0.heap.size W0).drew hb)
  clear hb
  go_wp2_with fail
  refine hK.out _ _ ⟨hq1.out, HS.out _ hq1.out⟩ (fun hS' => ?_)
  clear hK K hS
  have hS := hS'
  clear hS'
  (try simp only [Act.put, List.setIfInBounds_toArray, List.set_cons_zero, List.set_cons_succ])
  refine wpAnyH_take (i := 2) (v := ?_) (by simp only [List.getElem?_toArray, List.getElem?_cons_succ, List.getElem?_cons_zero]; rfl) (by kernel_rfl) (by kernel_rfl) (by kernel_rfl) (fun _ _ _ h => h) (Or.inl ⟨by rfl, ?_⟩) hS ?_
  rotate_left
  · intro w' hSw; (try dsimp only at hSw); go_split_ands; go_simp; (try with_reducible rfl)
  (try simp only [Act.put, List.setIfInBounds_toArray, List.set_cons_zero, List.set_cons_succ])
  refine wpAnyH_take (i := 3) (v := ?_) (by simp only [List.getElem?_toArray, List.getElem?_cons_succ, List.getElem?_cons_zero]; rfl) (by kernel_rfl) (by kernel_rfl) (by kernel_rfl) (fun _ _ _ h => h) (Or.inl ⟨by rfl, ?_⟩) hS ?_
  rotate_left
  · intro w' hSw; (try dsimp only at hSw); go_split_ands; go_simp; (try with_reducible rfl)
  (try simp only [Act.put, List.setIfInBounds_toArray, List.set_cons_zero, List.set_cons_succ])
  refine wpAnyH_take (i := 5) (v := ?_) (by simp only [List.getElem?_toArray, List.getElem?_cons_succ, List.getElem?_cons_zero]; rfl) (by kernel_rfl) (by kernel_rfl) (by kernel_rfl) (fun _ _ _ h => h) (Or.inl ⟨by rfl, ?_⟩) hS ?_
  rotate_left
  · intro w' hSw; (try dsimp only at hSw); go_split_ands; go_simp; (try with_reducible rfl)
  (try simp only [Act.put, List.setIfInBounds_toArray, List.set_cons_zero, List.set_cons_succ])
  refine wpAnyH_take (i := 6) (v := ?_) (by simp only [List.getElem?_toArray, List.getElem?_cons_succ, List.getElem?_cons_zero]; rfl) (by kernel_rfl) (by kernel_rfl) (by kernel_rfl) (fun _ _ _ h => h) (Or.inl ⟨by rfl, ?_⟩) hS ?_
  rotate_left
  · intro w' hSw; (try dsimp only at hSw); go_split_ands; go_simp; (try with_reducible rfl)
  (try simp only [Act.put, List.setIfInBounds_toArray, List.set_cons_zero, List.set_cons_succ])
  refine wpAnyH_ready (rs := [4]) (by kernel_rfl) (by simp) ?_
  refine AllReadyH.cons (by simp only [List.getElem?_toArray, List.getElem?_cons_succ, List.getElem?_cons_zero]; rfl) (fun K hK => ?_) AllReadyH.nil
  go_simp
  refine (ways_any _).mono ?_
  rintro e w2 ⟨rfl, hb⟩
  have hq2 := hid (below_then hq1.out hb)
  clear hb
  go_wp2_with fail
  refine hK.out _ _ ⟨hq2.out, HS.out _ hq2.out⟩ (fun hS' => ?_)
  clear hK K hS
  have hS := hS'
  clear hS'
  (try simp only [Act.put, List.setIfInBounds_toArray, List.set_cons_zero, List.set_cons_succ])
  refine wpAnyH_take (i := 7) (v := ?_) (by simp only [List.getElem?_toArray, List.getElem?_cons_succ, List.getElem?_cons_zero]; rfl) (by kernel_rfl) (by kernel_rfl) (by kernel_rfl) (fun _ _ _ h => h) (Or.inl ⟨by rfl, ?_⟩) hS ?_
  rotate_left
  · intro w' hSw; (try dsimp only at hSw); go_split_ands; go_simp; (try with_reducible rfl)
  (try simp only [Act.put, List.setIfInBounds_toArray, List.set_cons_zero, List.set_cons_succ])
  refine wpAnyH_take (i := 8) (v := ?_) (by simp only [List.getElem?_toArray, List.getElem?_cons_succ, List.getElem?_cons_zero]; rfl) (by kernel_rfl) (by kernel_rfl) (by kernel_rfl) (fun _ _ _ h => h) (Or.inl ⟨by rfl, ?_⟩) hS ?_
  rotate_left
  · intro w' hSw; (try dsimp only at hSw); go_split_ands; go_simp; (try with_reducible rfl)
  (try simp only [Act.put, List.setIfInBounds_toArray, List.set_cons_zero, List.set_cons_succ])
  refine wpAnyH_take (i := 9) (v := ?_) (by simp only [List.getElem?_toArray, List.getElem?_cons_succ, List.getElem?_cons_zero]; rfl) (by kernel_rfl) (by kernel_rfl) (by kernel_rfl) (fun _ _ _ h => h) (Or.inl ⟨by rfl, ?_⟩) hS ?_
  rotate_left
  · intro w' hSw; (try dsimp only at hSw); go_split_ands; go_simp; (try with_reducible rfl)
  (try simp only [Act.put, List.setIfInBounds_toArray, List.set_cons_zero, List.set_cons_succ])
  refine wpAnyH_take (i := 10) (v := ?_) (by simp only [List.getElem?_toArray, List.getElem?_cons_succ, List.getElem?_cons_zero]; rfl) (by kernel_rfl) (by kernel_rfl) (by kernel_rfl) (fun _ _ _ h => h) (Or.inl ⟨by rfl, ?_⟩) hS ?_
  rotate_left
  · intro w' hSw; (try dsimp only at hSw); go_split_ands; go_simp; (try with_reducible rfl)
  (try simp only [Act.put, List.setIfInBounds_toArray, List.set_cons_zero, List.set_cons_succ])
  refine wpAnyH_done (by kernel_rfl) ?_ _
  refine NoPanic.normal ?_
  have HB1 := hid (below_then HB.out hq2.out); have PA1 := hid (PA.out.step hq2.out)
  clear hS
  obtain ⟨x0, x1, x2, x3, xf⟩ := PA1.out.cells4
  go_wp2
  obtain ⟨q0, q1, q2, q3, qf⟩ := ((((PA1.out.setCell 0 (.int .i64 0)).setCell 1 (.int .i64 0)).setCell 2 (.int .u64 0)).setCell 3 (.int .u64 0)).cells4
  refine bodyPost_ret (v := .tuple #[av 0 0 0 0, .bool false]) (by simp [results, Try.results21, go_sem, q0, q1, q2, q3]) rfl ⟨?_, (((HB1.out.setCell (by simp) _).setCell (by simp) _).setCell (by simp) _).setCell (by simp) _⟩
  rw [show spNeedF (a, 5, t) = ((0, 0, 0, 0), false) from if_neg (fun h => h.2.2 rfl)]
theorem spneed_any (a p t : Int) (w : World) : Calls Try.prog 21 #[sv a p t] w (NdPost (a, p, t) w) := by
  by_cases hg : SpGood (a, p, t)
  · have h := hg
    obtain ⟨_, h1, h2, _⟩ := h
    have hp : p = 0 ∨ p = 1 ∨ p = 2 ∨ p = 3 ∨ p = 4 ∨ p = 5 := by have : 0 ≤ p := h1; have : p ≤ 5 := h2; omega
    rcases hp with rfl | rfl | rfl | rfl | rfl | rfl
    · exact spneed0 a t w hg
    · exact spneed1 a t w hg
    · exact spneed2 a t w hg
    · exact spneed3 a t w hg
    · exact spneed4 a t w hg
    · exact spneed5 a t w hg
  · exact spneed_bad a p t w hg
end Go.Proofs.Ytaeanmkbongfcaa
