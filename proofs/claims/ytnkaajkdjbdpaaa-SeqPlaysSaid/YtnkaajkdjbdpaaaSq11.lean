/- package seq: ownMemory, stepRead, stepWrite. No condition but sizes. -/
import Derived.Test.YtnkaajkdjbdpaaaSq10
import Derived.Test.YtnkaajkdjbdpaaaKitA
namespace Go.Proofs.Ytnkaajkdjbdpaaa
open Go.RowKit
def OmPost (w : World) (f : Bool) (ws : List Int) (ls : List Bool) (e : Ending) (w' : World) : Prop :=
  ∃ A n c B m d, e = .returned (mv A n c B m d f) ∧ Mown w' w.heap.size A n c B m d ws ls ∧ Below w.heap.size w w'
def srun (m : MSt) (s : Srd) : MSt × Bool × Srd := if s.ph = 0 then rbegin m s else if s.ph = 2 then rdata m s else if s.ph = 3 then rclose m s else (m, false, s)
/-- a read's step -/
def sreadF (m : MSt) (s : Srd) : MSt × Srd := ((srun m s).1, if (srun m s).2.1 = true then ⟨(srun m s).2.2.a, (srun m s).2.2.f, (srun m s).2.2.m, 5, (srun m s).2.2.bg, (srun m s).2.2.vs, (srun m s).2.2.tr⟩ else (srun m s).2.2)
def swrun (m : MSt) (s : Swr) : MSt × Bool × Swr := if s.ph = 0 then wbegin m s else if s.ph = 1 then wopen m s else if s.ph = 2 then wdata m s else if s.ph = 3 then wclose m s else (m, false, s)
/-- a write's step -/
def swriteF (m : MSt) (s : Swr) : MSt × Swr := ((swrun m s).1, if (swrun m s).2.1 = true then ⟨(swrun m s).2.2.a, (swrun m s).2.2.f, (swrun m s).2.2.vs, 5, (swrun m s).2.2.bg, (swrun m s).2.2.wr⟩ else (swrun m s).2.2)
theorem zfn : ∀ w, (zeroValue 1).run Try.prog w = .ok .nilFunc w := by intro w; kernel_rfl
theorem ts1 : (29 : TypeId) ≠ 27 := by decide
theorem ts2 : (29 : TypeId) ≠ 4 := by decide
theorem tq1 : (34 : TypeId) ≠ 27 := by decide
theorem tq2 : (34 : TypeId) ≠ 4 := by decide
@[reducible] def wrV (s : Swr) (V : Option Addr) (n c : Nat) : Value := .agg (wrc s.a s.f V n c s.ph s.bg s.wr)
/-- a read, as a value -/
@[reducible] def rdV (s : Srd) (V : Option Addr) (n c : Nat) : Value := .agg (rdc s.a s.f s.m s.ph s.bg V n c s.tr)
def SrdPost (w : World) (lo : Nat) (r : MSt × Srd) (e : Ending) (w' : World) : Prop :=
  ∃ A n c B k d V vn vc, e = .returned (.tuple #[mv A n c B k d r.1.2.2, rdV r.2 V vn vc]) ∧ Mown w' lo A n c B k d r.1.1 r.1.2.1 ∧ Ow u64v w' lo 27 V vn vc r.2.vs ∧ VFar A V ∧ Below w.heap.size w w'
def SwrPost (w : World) (lo : Nat) (r : MSt × Swr) (e : Ending) (w' : World) : Prop :=
  ∃ A n c B k d V vn vc, e = .returned (.tuple #[mv A n c B k d r.1.2.2, wrV r.2 V vn vc]) ∧ Mown w' lo A n c B k d r.1.1 r.1.2.1 ∧ Ow u64v w' lo 27 V vn vc r.2.vs ∧ VFar A V ∧ Below w.heap.size w w'
set_option maxRecDepth 100000 in
set_option maxHeartbeats 8000000 in
theorem ownmem_any (A : Option Addr) (n c : Nat) (B : Option Addr) (m d : Nat) (f : Bool) (ws : List Int) (ls : List Bool) (w : World) (h : Mem w A n c B m d ws ls) :
    Calls Try.prog 45 #[mv A n c B m d f] w (OmPost w f ws ls) := by
  have HM := hid h; have HB := hid (Below.refl w.heap.size w)
  have hn := h.hn; have hm := h.hm
  clear h
  have bx := below_box w (.cells (mcs A n c B m d f) 44)
  replace HM := hid (HM.out.step bx); replace HB := hid (below_then HB.out bx)
  clear bx
  have PM := hid (Blk.new w 44 (mcs A n c B m d f))
  have bx := below_box (w.alloc (.cells (mcs A n c B m d f) 44)) (.cells (mcs none 0 0 none 0 0 false) 44)
  replace HM := hid (HM.out.step bx); replace PM := hid (PM.out.step bx); replace HB := hid (below_then HB.out bx)
  clear bx
  have PZ := hid (Blk.new2 w 44 (mcs none 0 0 none 0 0 false) (.cells (mcs A n c B m d f) 44))
  go_enter Try.func45, Try.ntmps45
  go_upto_region 1 with fail
  have hz0 := hid (show ((w.alloc (.cells (mcs A n c B m d f) 44)).alloc (.cells (mcs none 0 0 none 0 0 false) 44)).heap.size = w.heap.size + 2 by simp)
  generalize (w.alloc (.cells (mcs A n c B m d f) 44)).alloc (.cells (mcs none 0 0 none 0 0 false) 44) = W0 at *
  have bx := (Below.refl W0.heap.size W0).drew
  replace HM := hid (HM.out.step bx); replace PM := hid (PM.out.step bx); replace PZ := hid (PZ.out.step bx); replace HB := hid (below_then HB.out bx)
  clear bx
  have hszd := hid (show W0.drew.heap.size = W0.heap.size from rfl)
  refine wp_region_noPanic ?_
  refine wp_region_held_drew (S := (fun W' : World => W'.cell? ⟨w.heap.size, 0, none⟩ = some (.slice A n c) ∧ W'.cell? ⟨w.heap.size, 1, none⟩ = some (.slice B m d) ∧ W'.cell? ⟨w.heap.size, 2, none⟩ = some (.bool f))) (by kernel_rfl) ⟨PM.out.cells3.1, PM.out.cells3.2.1, PM.out.cells3.2.2.1⟩ (fun hS => ?_)
  generalize W0.drew = Wd at *
  refine wpAnyH_take (i := 0) (v := ?_) (by simp only [List.getElem?_toArray, List.getElem?_cons_succ, List.getElem?_cons_zero]; rfl) (by kernel_rfl) (by kernel_rfl) (by kernel_rfl) (fun _ _ _ h => h) (Or.inl ⟨by rfl, ?_⟩) hS ?_
  rotate_left
  · intro w' hSw; (try dsimp only at hSw); go_split_ands; go_simp; (try with_reducible rfl)
  (try simp only [Act.put, List.setIfInBounds_toArray, List.set_cons_zero, List.set_cons_succ])
  refine wpAnyH_take (i := 1) (v := ?_) (by simp only [List.getElem?_toArray, List.getElem?_cons_succ, List.getElem?_cons_zero]; rfl) (by kernel_rfl) (by kernel_rfl) (by kernel_rfl) (fun _ _ _ h => h) (Or.inl ⟨by rfl, ?_⟩) hS ?_
  rotate_left
  · intro w' hSw; (try dsimp only at hSw); go_split_ands; go_simp; (try with_reducible rfl)
  (try simp only [Act.put, List.setIfInBounds_toArray, List.set_cons_zero, List.set_cons_succ])
  refine wpAnyH_take (i := 3) (v := ?_) (by simp only [List.getElem?_toArray, List.getElem?_cons_succ, List.getElem?_cons_zero]; rfl) (by kernel_rfl) (by kernel_rfl) (by kernel_rfl) (fun _ _ _ h => h) (Or.inl ⟨by rfl, ?_⟩) hS ?_
  rotate_left
  · intro w' hSw; (try dsimp only at hSw); go_split_ands; go_simp; (try with_reducible rfl)
  (try simp only [Act.put, List.setIfInBounds_toArray, List.set_cons_zero, List.set_cons_succ])
  refine wpAnyH_take (i := 4) (v := ?_) (by simp only [List.getElem?_toArray, List.getElem?_cons_succ, List.getElem?_cons_zero]; rfl) (by kernel_rfl) (by kernel_rfl) (by kernel_rfl) (fun _ _ _ h => h) (Or.inl ⟨by rfl, ?_⟩) hS ?_
  rotate_left
  · intro w' hSw; (try dsimp only at hSw); go_split_ands; go_simp; (try with_reducible rfl)
  (try simp only [Act.put, List.setIfInBounds_toArray, List.set_cons_zero, List.set_cons_succ])
  refine wpAnyH_take (i := 6) (v := ?_) (by simp only [List.getElem?_toArray, List.getElem?_cons_succ, List.getElem?_cons_zero]; rfl) (by kernel_rfl) (by kernel_rfl) (by kernel_rfl) (fun _ _ _ h => h) (Or.inl ⟨by rfl, ?_⟩) hS ?_
  rotate_left
  · intro w' hSw; (try dsimp only at hSw); go_split_ands; go_simp; (try with_reducible rfl)
  (try simp only [Act.put, List.setIfInBounds_toArray, List.set_cons_zero, List.set_cons_succ])
  refine wpAnyH_take (i := 7) (v := ?_) (by simp only [List.getElem?_toArray, List.getElem?_cons_succ, List.getElem?_cons_zero]; rfl) (by kernel_rfl) (by kernel_rfl) (by kernel_rfl) (fun _ _ _ h => h) (Or.inl ⟨by rfl, ?_⟩) hS ?_
  rotate_left
  · intro w' hSw; (try dsimp only at hSw); go_split_ands; go_simp; (try with_reducible rfl)
  (try simp only [Act.put, List.setIfInBounds_toArray, List.set_cons_zero, List.set_cons_succ])
  refine wpAnyH_ready (rs := [2]) (by kernel_rfl) (by simp) ?_
  refine AllReadyH.cons (by simp only [List.getElem?_toArray, List.getElem?_cons_succ, List.getElem?_cons_zero]; rfl) (fun K hK => ?_) ?_
  · skip
    go_simp
    refine (clone_u64 A n c 0 ws _ HM.out.hx (by omega)).mono ?_
    rintro e w2 ⟨A2, c2, rfl, oa, hb⟩
    have hsz0 := hid (show Wd.heap.size ≤ w2.heap.size from hb.size)
    replace HM := hid (HM.out.step hb); replace PM := hid (PM.out.step hb); replace PZ := hid (PZ.out.step hb); replace HB := hid (below_then HB.out hb)
    clear hb
    have OA := hid oa
    have HLA := hid (fun a (ha : A2 = some a) => (oa.blk a ha).2.choose_spec.lt)
    clear oa
    go_wp2_with fail
    refine hK.out _ _ ⟨PM.out.cells3.1, PM.out.cells3.2.1, PM.out.cells3.2.2.1⟩ (fun hS' => ?_)
    clear hK K hS
    have hS := hS'
    clear hS'
    (try simp only [Act.put, List.setIfInBounds_toArray, List.set_cons_zero, List.set_cons_succ])
    refine wpAnyH_ready (rs := [5]) (by kernel_rfl) (by simp) ?_
    refine AllReadyH.cons (by simp only [List.getElem?_toArray, List.getElem?_cons_succ, List.getElem?_cons_zero]; rfl) (fun K hK => ?_) ?_
    · skip
      go_simp
      refine (clone_bool B m d 0 ls _ HM.out.hy (by omega)).mono ?_
      rintro e w3 ⟨B3, d3, rfl, ob, hb⟩
      have hsz1 := hid (show w2.heap.size ≤ w3.heap.size from hb.size)
      replace HM := hid (HM.out.step hb); replace PM := hid (PM.out.step hb); replace PZ := hid (PZ.out.step hb); replace OA := hid (OA.out.step hb); replace HB := hid (below_then HB.out hb)
      clear hb
      have OB := hid ob
      clear ob
      go_wp2_with fail
      refine hK.out _ _ ⟨PM.out.cells3.1, PM.out.cells3.2.1, PM.out.cells3.2.2.1⟩ (fun hS' => ?_)
      clear hK K hS
      have hS := hS'
      clear hS'
      (try simp only [Act.put, List.setIfInBounds_toArray, List.set_cons_zero, List.set_cons_succ])
      refine wpAnyH_take (i := 8) (v := ?_) (by simp only [List.getElem?_toArray, List.getElem?_cons_succ, List.getElem?_cons_zero]; rfl) (by kernel_rfl) (by kernel_rfl) (by kernel_rfl) (fun _ _ _ h => h) (Or.inl ⟨by rfl, ?_⟩) hS ?_
      rotate_left
      · intro w' hSw; (try dsimp only at hSw); go_split_ands; go_simp; (try with_reducible rfl)
      (try simp only [Act.put, List.setIfInBounds_toArray, List.set_cons_zero, List.set_cons_succ])
      refine wpAnyH_ready (rs := [9]) (by kernel_rfl) (by simp) ?_
      refine AllReadyH.cons (by simp only [List.getElem?_toArray, List.getElem?_cons_succ, List.getElem?_cons_zero]; rfl) (fun K hK => ?_) ?_
      · skip
        obtain ⟨y00, y01, y02, yf0⟩ := PZ.out.cells3
        go_simp
        clear y00 y01 y02 yf0
        refine named_store3 PZ.out ?_
        intro Ws9 hbk hgr hsz
        have hsz2 := hid hsz
        clear hsz
        replace PM := hid (PM.out.grown hgr (by simp <;> omega))
        replace OA := hid (OA.out.keptG hgr (fun v hv e => OA.out.ne_blk PZ.out tm1 v hv (by simpa using e)))
        replace OB := hid (OB.out.keptG hgr (fun v hv e => OB.out.ne_blk PZ.out tm2 v hv (by simpa using e)))
        replace HB := hid (HB.out.grown hgr HB.out.size (fun r e => by cases e; omega))
        clear HM
        replace PZ := hid hbk
        clear hbk hgr
        refine hK.out _ _ ⟨PM.out.cells3.1, PM.out.cells3.2.1, PM.out.cells3.2.2.1⟩ (fun hS' => ?_)
        clear hK K hS
        have hS := hS'
        clear hS'
        (try simp only [Act.put, List.setIfInBounds_toArray, List.set_cons_zero, List.set_cons_succ])
        refine wpAnyH_done (by kernel_rfl) ?_ _
        refine NoPanic.normal ?_
        clear hS
        obtain ⟨y00, y01, y02, yf0⟩ := PZ.out.cells3
        go_wp2
        obtain ⟨q0, q1, q2, qf⟩ := PZ.out.cells3
        refine bodyPost_ret (v := mv A2 n c2 B3 m d3 f) (by simp [results, Try.results45, go_sem, q0, q1, q2]) rfl ⟨_, _, _, _, _, _, rfl, ?_, HB.out⟩
        refine ⟨OA.out.mono (by have := hz0.out; have := hszd.out; have := hsz0.out; have := hsz1.out; have := hsz2.out; omega), OB.out.mono (by have := hz0.out; have := hszd.out; have := hsz0.out; have := hsz1.out; have := hsz2.out; omega), fun a b ha hb => ?_, hn, hm⟩
        have h1 := HLA.out a ha; have h2 := (OB.out.blk b hb).1; omega
      exact AllReadyH.nil
    exact AllReadyH.nil
  exact AllReadyH.nil
set_option maxRecDepth 100000 in
set_option maxHeartbeats 8000000 in
theorem stepread_any (A : Option Addr) (n c : Nat) (B : Option Addr) (k d : Nat) (m : MSt) (lo : Nat) (s : Srd) (V : Option Addr) (vn vc : Nat) (w : World) (h : Mown w lo A n c B k d m.1 m.2.1) (hlo : lo ≤ w.heap.size) (hv : Sl u64v 0 w 0 w.heap.size V vn s.vs) (hg : MGood m.1 m.2.1) (hvn : vn ≤ 100000) (hok : RdOk s.a s.f s.m s.ph s.bg vn s.tr) :
    Calls Try.prog 49 #[mv A n c B k d m.2.2, rdV s V vn vc] w (SrdPost w lo (sreadF m s)) := by
  obtain ⟨a, f, mn, ph, bg, vs, tr⟩ := s
  obtain ⟨ws, ls, ff⟩ := m
  dsimp only at h hv hg hok
  have HM := hid h; have HV := hid hv; have HG := hid hg; have HB := hid (Below.refl w.heap.size w); have HOK := hid hok; have HLV := hid hv.len
  obtain ⟨⟨m2, l2, s2⟩, hres⟩ : ∃ x, x = srun (ws, ls, ff) ⟨a, f, mn, ph, bg, vs, tr⟩ := ⟨_, rfl⟩
  have HF := hid (show sreadF (ws, ls, ff) ⟨a, f, mn, ph, bg, vs, tr⟩ = (m2, if l2 = true then ⟨s2.a, s2.f, s2.m, 5, s2.bg, s2.vs, s2.tr⟩ else s2) by unfold sreadF; rw [← hres])
  unfold srun at hres
  dsimp only at hres
  have HRES := hid hres
  clear h hv hg hok hres
  have bx := below_box w (.cells (mcs A n c B k d ff) 44)
  replace HM := hid (HM.out.step bx); replace HV := hid (HV.out.step bx); replace HB := hid (below_then HB.out bx)
  clear bx
  have PM := hid (Blk.new w 44 (mcs A n c B k d ff))
  have bx := below_box (w.alloc (.cells (mcs A n c B k d ff) 44)) (.cells (rdc a f mn ph bg V vn vc tr) 29)
  replace HM := hid (HM.out.step bx); replace HV := hid (HV.out.step bx); replace PM := hid (PM.out.step bx); replace HB := hid (below_then HB.out bx)
  clear bx
  have PS := hid (Blk.new2 w 29 (rdc a f mn ph bg V vn vc tr) (.cells (mcs A n c B k d ff) 44))
  have bx := below_box ((w.alloc (.cells (mcs A n c B k d ff) 44)).alloc (.cells (rdc a f mn ph bg V vn vc tr) 29)) (.cells (mcs none 0 0 none 0 0 false) 44)
  replace HM := hid (HM.out.step bx); replace HV := hid (HV.out.step bx); replace PM := hid (PM.out.step bx); replace PS := hid (PS.out.step bx); replace HB := hid (below_then HB.out bx)
  clear bx
  have QM := hid (Blk.new3 w 44 (mcs none 0 0 none 0 0 false) (.cells (mcs A n c B k d ff) 44) (.cells (rdc a f mn ph bg V vn vc tr) 29))
  have bx := below_box (((w.alloc (.cells (mcs A n c B k d ff) 44)).alloc (.cells (rdc a f mn ph bg V vn vc tr) 29)).alloc (.cells (mcs none 0 0 none 0 0 false) 44)) (.cells (rdc 0 0 0 0 0 none 0 0 0) 29)
  replace HM := hid (HM.out.step bx); replace HV := hid (HV.out.step bx); replace PM := hid (PM.out.step bx); replace PS := hid (PS.out.step bx); replace QM := hid (QM.out.step bx); replace HB := hid (below_then HB.out bx)
  clear bx
  have QS := hid (Blk.new4 w 29 (rdc 0 0 0 0 0 none 0 0 0) (.cells (mcs A n c B k d ff) 44) (.cells (rdc a f mn ph bg V vn vc tr) 29) (.cells (mcs none 0 0 none 0 0 false) 44))
  go_enter Try.func49, Try.ntmps49
  obtain ⟨y00, y01, y02, yf0⟩ := PM.out.cells3
  obtain ⟨y10, y11, y12, y13, y14, y15, y16, yf1⟩ := PS.out.cells7
  go_wp2_with fail
  clear y00 y01 y02 yf0 y10 y11 y12 y13 y14 y15 y16 yf1
  have hz0 := hid (show ((((w.alloc (.cells (mcs A n c B k d ff) 44)).alloc (.cells (rdc a f mn ph bg V vn vc tr) 29)).alloc (.cells (mcs none 0 0 none 0 0 false) 44)).alloc (.cells (rdc 0 0 0 0 0 none 0 0 0) 29)).heap.size = w.heap.size + 4 by simp)
  generalize (((w.alloc (.cells (mcs A n c B k d ff) 44)).alloc (.cells (rdc a f mn ph bg V vn vc tr) 29)).alloc (.cells (mcs none 0 0 none 0 0 false) 44)).alloc (.cells (rdc 0 0 0 0 0 none 0 0 0) 29) = W0 at *
  refine (clone_u64 V vn vc 0 vs W0 HV.out (by omega)).mono ?_
  rintro e w1 ⟨V1, c1, rfl, ov, hb⟩
  have hs1 := hid hb.size
  have HFAR := hid (show VFar A V1 from fun a' v' ha hv' => by have h1 := (HM.out.oa.blk a' ha).2.choose_spec.lt; have h2 := (ov.blk v' hv').1; omega)
  replace HM := hid (HM.out.step hb); replace HV := hid (HV.out.step hb); replace PM := hid (PM.out.step hb); replace PS := hid (PS.out.step hb); replace QM := hid (QM.out.step hb); replace QS := hid (QS.out.step hb); replace HB := hid (below_then HB.out hb)
  have OV := hid (ov.mono (show lo ≤ W0.heap.size by have := hz0.out; omega))
  clear hb ov HV
  obtain ⟨y00, y01, y02, yf0⟩ := PM.out.cells3
  obtain ⟨y10, y11, y12, y13, y14, y15, y16, yf1⟩ := PS.out.cells7
  go_upto_region 2 with fail
  clear y00 y01 y02 yf0 y10 y11 y12 y13 y14 y15 y16 yf1
  have PS0 := PS
  have hbk0 : Blk (w1.setCell ⟨w.heap.size + 1, 5, none⟩ (.slice V1 vn c1)) (w.heap.size + 1) 29 #[.int .i64 a, .int .i64 f, .int .i64 mn, .int .i64 ph, .int .u64 bg, .slice V1 vn c1, .int .i64 tr] := PS.out.setCell 5 (.slice V1 vn c1)
  have hgr : w1.grownBy (w1.setCell ⟨w.heap.size + 1, 5, none⟩ (.slice V1 vn c1)) (some (w.heap.size + 1)) := (grown_set (World.grownBy.refl w1 (some (w.heap.size + 1))) 5 (.slice V1 vn c1))
  replace PS := hid hbk0
  clear hbk0
  generalize w1.setCell ⟨w.heap.size + 1, 5, none⟩ (.slice V1 vn c1) = W1 at *
  replace HM := hid (mown_kept HM.out PS0.out ts1 ts2 hgr)
  replace OV := hid (OV.out.keptG hgr (fun v hv e => OV.out.ne_blk PS0.out ts1 v hv (by simpa using e)))
  replace PM := hid (PM.out.grown hgr (by simp <;> omega))
  replace QM := hid (QM.out.grown hgr (by simp <;> omega))
  replace QS := hid (QS.out.grown hgr (by simp <;> omega))
  replace HB := hid (HB.out.grown hgr HB.out.size (fun r e => by cases e; omega))
  have hs2 := hid hgr.size
  clear hgr PS0
  obtain ⟨y00, y01, y02, yf0⟩ := PM.out.cells3
  obtain ⟨y10, y11, y12, y13, y14, y15, y16, yf1⟩ := PS.out.cells7
  have bx := below_box W1 (.cells (cpuc A n c B k d ff false) 102)
  replace HM := hid (HM.out.step bx); replace PM := hid (PM.out.step bx); replace PS := hid (PS.out.step bx); replace QM := hid (QM.out.step bx); replace QS := hid (QS.out.step bx); replace OV := hid (OV.out.step bx); replace HB := hid (below_then HB.out bx)
  clear bx
  have PC := hid (Blk.new W1 102 (cpuc A n c B k d ff false))
  have bx := below_box (W1.alloc (.cells (cpuc A n c B k d ff false) 102)) (.cells (rdrc a f mn ph bg V1 vn c1 tr W1.heap.size) 104)
  replace HM := hid (HM.out.step bx); replace PM := hid (PM.out.step bx); replace PS := hid (PS.out.step bx); replace QM := hid (QM.out.step bx); replace QS := hid (QS.out.step bx); replace OV := hid (OV.out.step bx); replace PC := hid (PC.out.step bx); replace HB := hid (below_then HB.out bx)
  clear bx
  have PR := hid (Blk.new2 W1 104 (rdrc a f mn ph bg V1 vn c1 tr W1.heap.size) (.cells (cpuc A n c B k d ff false) 102))
  go_upto_region 3 with fail
  clear y00 y01 y02 yf0 y10 y11 y12 y13 y14 y15 y16 yf1
  have hz2 := hid (show ((W1.alloc (.cells (cpuc A n c B k d ff false) 102)).alloc (.cells (rdrc a f mn ph bg V1 vn c1 tr W1.heap.size) 104)).heap.size = W1.heap.size + 2 by simp)
  generalize (W1.alloc (.cells (cpuc A n c B k d ff false) 102)).alloc (.cells (rdrc a f mn ph bg V1 vn c1 tr W1.heap.size) 104) = W2 at *
  have hmk := run_mk_new (P := Try.prog) 105
  have hu0 : (Instr.mapUpdate 105 (.map (some W2.heap.size)) (.int .i64 0) (.func (.func 61) #[ptr (W1.heap.size + 1)] #[])).run Try.prog (W2.alloc (.map #[] 0)) = .ok () (W2.alloc (.map #[⟨.int .i64 0, .func (.func 61) #[ptr (W1.heap.size + 1)] #[], 0⟩] 1)) := run_upd_new Try.underlying105 Try.underlying3 W2 _ 0 _ _ rfl
  have hu1 : (Instr.mapUpdate 105 (.map (some W2.heap.size)) (.int .i64 2) (.func (.func 62) #[ptr (W1.heap.size + 1)] #[])).run Try.prog (W2.alloc (.map #[⟨.int .i64 0, .func (.func 61) #[ptr (W1.heap.size + 1)] #[], 0⟩] 1)) = .ok () (W2.alloc (.map #[⟨.int .i64 0, .func (.func 61) #[ptr (W1.heap.size + 1)] #[], 0⟩, ⟨.int .i64 2, .func (.func 62) #[ptr (W1.heap.size + 1)] #[], 1⟩] 2)) := run_upd_new Try.underlying105 Try.underlying3 W2 _ 1 _ _ rfl
  have hu2 : (Instr.mapUpdate 105 (.map (some W2.heap.size)) (.int .i64 3) (.func (.func 63) #[ptr (W1.heap.size + 1)] #[])).run Try.prog (W2.alloc (.map #[⟨.int .i64 0, .func (.func 61) #[ptr (W1.heap.size + 1)] #[], 0⟩, ⟨.int .i64 2, .func (.func 62) #[ptr (W1.heap.size + 1)] #[], 1⟩] 2)) = .ok () (W2.alloc (.map #[⟨.int .i64 0, .func (.func 61) #[ptr (W1.heap.size + 1)] #[], 0⟩, ⟨.int .i64 2, .func (.func 62) #[ptr (W1.heap.size + 1)] #[], 1⟩, ⟨.int .i64 3, .func (.func 63) #[ptr (W1.heap.size + 1)] #[], 2⟩] 3)) := run_upd_new Try.underlying105 Try.underlying3 W2 _ 2 _ _ rfl
  go_upto_region 4 with fail
  clear hmk hu0 hu1 hu2
  have HMP := hid ((MapKept.heap_alloc W2 (.map #[⟨.int .i64 0, .func (.func 61) #[ptr (W1.heap.size + 1)] #[], 0⟩, ⟨.int .i64 2, .func (.func 62) #[ptr (W1.heap.size + 1)] #[], 1⟩, ⟨.int .i64 3, .func (.func 63) #[ptr (W1.heap.size + 1)] #[], 2⟩] 3)).1)
  have bx := below_box W2 (.map #[⟨.int .i64 0, .func (.func 61) #[ptr (W1.heap.size + 1)] #[], 0⟩, ⟨.int .i64 2, .func (.func 62) #[ptr (W1.heap.size + 1)] #[], 1⟩, ⟨.int .i64 3, .func (.func 63) #[ptr (W1.heap.size + 1)] #[], 2⟩] 3)
  replace HM := hid (HM.out.step bx); replace PM := hid (PM.out.step bx); replace PS := hid (PS.out.step bx); replace QM := hid (QM.out.step bx); replace QS := hid (QS.out.step bx); replace OV := hid (OV.out.step bx); replace PC := hid (PC.out.step bx); replace PR := hid (PR.out.step bx); replace HB := hid (below_then HB.out bx)
  clear bx
  have hz3 := hid (show (W2.alloc (.map #[⟨.int .i64 0, .func (.func 61) #[ptr (W1.heap.size + 1)] #[], 0⟩, ⟨.int .i64 2, .func (.func 62) #[ptr (W1.heap.size + 1)] #[], 1⟩, ⟨.int .i64 3, .func (.func 63) #[ptr (W1.heap.size + 1)] #[], 2⟩] 3)).heap.size = W2.heap.size + 1 by simp)
  generalize W2.alloc (.map #[⟨.int .i64 0, .func (.func 61) #[ptr (W1.heap.size + 1)] #[], 0⟩, ⟨.int .i64 2, .func (.func 62) #[ptr (W1.heap.size + 1)] #[], 1⟩, ⟨.int .i64 3, .func (.func 63) #[ptr (W1.heap.size + 1)] #[], 2⟩] 3) = W3 at *
  have HRM := hid (show Rdm W3 (W1.heap.size + 1) W1.heap.size lo (ws, ls, ff) false ⟨a, f, mn, ph, bg, vs, tr⟩ from ⟨⟨_, _, _, _, _, _, _, _, _, PC.out, HM.out, PR.out, OV.out, HFAR.out⟩, by have := hz3.out; have := hz2.out; have := hs2.out; have := hs1.out; have := hz0.out; omega⟩)
  have hz := hid (show w.heap.size + 4 ≤ W1.heap.size by have := hs2.out; have := hs1.out; have := hz0.out; omega)
  by_cases hp0 : ph = 0
  · subst hp0
    have hru := HRES.out
    rw [if_pos rfl] at hru
    have hlk := run_look_yes (P := Try.prog) Try.underlying105 Try.underlying3 HMP.out 0 (i := 0) (v := .func (.func 61) #[ptr (W1.heap.size + 1)] #[]) rfl
    have eg := enters_of Try.func61 (by kernel_rfl) rfl
    have HRU := hid hru
    clear hru HRES
    obtain ⟨y00, y01, y02, y03, y04, y05, y06, y07, yf0⟩ := PR.out.cells8
    obtain ⟨z0, z1, z2, z3, z4, z5, z6, zf⟩ := PS.out.cells7
    go_wp2_with fail
    clear hlk z0 z1 z2 z3 z4 z5 z6 zf
    clear y00 y01 y02 y03 y04 y05 y06 y07 yf0
    refine (rbegin_any (W1.heap.size + 1) W1.heap.size lo (ws, ls, ff) false ⟨a, f, mn, 0, bg, vs, tr⟩ W3 HRM.out HG.out).mono ?_
    rw [← HRU.out]
    rintro e W4 ⟨rfl, hrm, hgp⟩
    dsimp only at hrm
    have hnp : ∀ i, i < W1.heap.size → ¬ (i = W1.heap.size + 1 ∨ i = W1.heap.size) := fun i hi e => by omega
    replace QM := hid (show Blk W4 _ _ _ from (hgp.block _ QM.out.lt (hnp _ (by have := hz.out; omega))).trans QM.out)
    replace QS := hid (show Blk W4 _ _ _ from (hgp.block _ QS.out.lt (hnp _ (by have := hz.out; omega))).trans QS.out)
    replace HB := hid (GrownP.below HB.out hgp (fun i hi => by have := hz.out; omega) HB.out.size)
    clear hnp hgp PM PS PC PR OV HM HRM HMP eg
    obtain ⟨⟨A5, n5, c5, B5, k5, d5, V5, vn5, vc5, h1, h2, h3, h4, h5⟩, h6⟩ := hrm
    have PC5 := hid h1; have PM5 := hid h2; have PR5 := hid h3; have PV5 := hid h4; have PF5 := hid h5
    clear h1 h2 h3 h4 h5 h6
    rcases l2 with _ | _
    · skip
      obtain ⟨y00, y01, y02, y03, y04, y05, y06, y07, yf0⟩ := PR5.out.cells8
      obtain ⟨y10, y11, y12, y13, yf1⟩ := PC5.out.cells4
      go_upto_region 9 with fail
      clear y00 y01 y02 y03 y04 y05 y06 y07 yf0 y10 y11 y12 y13 yf1
      have bx := (Below.refl W4.heap.size W4).drew
      replace PC5 := hid (PC5.out.step bx); replace PM5 := hid (PM5.out.step bx); replace PR5 := hid (PR5.out.step bx); replace PV5 := hid (PV5.out.step bx); replace QM := hid (QM.out.step bx); replace QS := hid (QS.out.step bx); replace HB := hid (below_then HB.out bx)
      clear bx
      have hszd := hid (show W4.drew.heap.size = W4.heap.size from rfl)
      refine wp_region_noPanic ?_
      refine wp_region_held_drew (S := (fun W' : World => W'.cell? ⟨W1.heap.size, 0, none⟩ = some (.slice A5 n5 c5) ∧ W'.cell? ⟨W1.heap.size, 1, none⟩ = some (.slice B5 k5 d5) ∧ W'.cell? ⟨W1.heap.size, 2, none⟩ = some (.bool m2.2.2) ∧ W'.cell? ⟨W1.heap.size + 1, 0, none⟩ = some (.int .i64 s2.a) ∧ W'.cell? ⟨W1.heap.size + 1, 1, none⟩ = some (.int .i64 s2.f) ∧ W'.cell? ⟨W1.heap.size + 1, 2, none⟩ = some (.int .i64 s2.m) ∧ W'.cell? ⟨W1.heap.size + 1, 3, none⟩ = some (.int .i64 s2.ph) ∧ W'.cell? ⟨W1.heap.size + 1, 4, none⟩ = some (.int .u64 s2.bg) ∧ W'.cell? ⟨W1.heap.size + 1, 5, none⟩ = some (.slice V5 vn5 vc5) ∧ W'.cell? ⟨W1.heap.size + 1, 6, none⟩ = some (.int .i64 s2.tr) ∧ W'.cell? ⟨W1.heap.size + 1, 7, none⟩ = some (ptr W1.heap.size))) (by kernel_rfl) ⟨PC5.out.cells4.1, PC5.out.cells4.2.1, PC5.out.cells4.2.2.1, PR5.out.cells8.1, PR5.out.cells8.2.1, PR5.out.cells8.2.2.1, PR5.out.cells8.2.2.2.1, PR5.out.cells8.2.2.2.2.1, PR5.out.cells8.2.2.2.2.2.1, PR5.out.cells8.2.2.2.2.2.2.1, PR5.out.cells8.2.2.2.2.2.2.2.1⟩ (fun hS => ?_)
      generalize W4.drew = Wd at *
      refine wpAnyH_take (i := 0) (v := ?_) (by simp only [List.getElem?_toArray, List.getElem?_cons_succ, List.getElem?_cons_zero]; rfl) (by kernel_rfl) (by kernel_rfl) (by kernel_rfl) (fun _ _ _ h => h) (Or.inl ⟨by rfl, ?_⟩) hS ?_
      rotate_left
      · intro w' hSw; (try dsimp only at hSw); go_split_ands; go_simp; (try with_reducible rfl)
      (try simp only [Act.put, List.setIfInBounds_toArray, List.set_cons_zero, List.set_cons_succ])
      refine wpAnyH_take (i := 1) (v := ?_) (by simp only [List.getElem?_toArray, List.getElem?_cons_succ, List.getElem?_cons_zero]; rfl) (by kernel_rfl) (by kernel_rfl) (by kernel_rfl) (fun _ _ _ h => h) (Or.inl ⟨by rfl, ?_⟩) hS ?_
      rotate_left
      · intro w' hSw; (try dsimp only at hSw); go_split_ands; go_simp; (try with_reducible rfl)
      (try simp only [Act.put, List.setIfInBounds_toArray, List.set_cons_zero, List.set_cons_succ])
      refine wpAnyH_take (i := 2) (v := ?_) (by simp only [List.getElem?_toArray, List.getElem?_cons_succ, List.getElem?_cons_zero]; rfl) (by kernel_rfl) (by kernel_rfl) (by kernel_rfl) (fun _ _ _ h => h) (Or.inl ⟨by rfl, ?_⟩) hS ?_
      rotate_left
      · intro w' hSw; (try dsimp only at hSw); go_split_ands; go_simp; (try with_reducible rfl)
      (try simp only [Act.put, List.setIfInBounds_toArray, List.set_cons_zero, List.set_cons_succ])
      refine wpAnyH_take (i := 3) (v := ?_) (by simp only [List.getElem?_toArray, List.getElem?_cons_succ, List.getElem?_cons_zero]; rfl) (by kernel_rfl) (by kernel_rfl) (by kernel_rfl) (fun _ _ _ h => h) (Or.inl ⟨by rfl, ?_⟩) hS ?_
      rotate_left
      · intro w' hSw; (try dsimp only at hSw); go_split_ands; go_simp; (try with_reducible rfl)
      (try simp only [Act.put, List.setIfInBounds_toArray, List.set_cons_zero, List.set_cons_succ])
      refine wpAnyH_take (i := 4) (v := ?_) (by simp only [List.getElem?_toArray, List.getElem?_cons_succ, List.getElem?_cons_zero]; rfl) (by kernel_rfl) (by kernel_rfl) (by kernel_rfl) (fun _ _ _ h => h) (Or.inl ⟨by rfl, ?_⟩) hS ?_
      rotate_left
      · intro w' hSw; (try dsimp only at hSw); go_split_ands; go_simp; (try with_reducible rfl)
      (try simp only [Act.put, List.setIfInBounds_toArray, List.set_cons_zero, List.set_cons_succ])
      refine wpAnyH_take (i := 5) (v := ?_) (by simp only [List.getElem?_toArray, List.getElem?_cons_succ, List.getElem?_cons_zero]; rfl) (by kernel_rfl) (by kernel_rfl) (by kernel_rfl) (fun _ _ _ h => h) (Or.inl ⟨by rfl, ?_⟩) hS ?_
      rotate_left
      · intro w' hSw; (try dsimp only at hSw); go_split_ands; go_simp; (try with_reducible rfl)
      (try simp only [Act.put, List.setIfInBounds_toArray, List.set_cons_zero, List.set_cons_succ])
      refine wpAnyH_take (i := 6) (v := ?_) (by simp only [List.getElem?_toArray, List.getElem?_cons_succ, List.getElem?_cons_zero]; rfl) (by kernel_rfl) (by kernel_rfl) (by kernel_rfl) (fun _ _ _ h => h) (Or.inl ⟨by rfl, ?_⟩) hS ?_
      rotate_left
      · intro w' hSw; (try dsimp only at hSw); go_split_ands; go_simp; (try with_reducible rfl)
      (try simp only [Act.put, List.setIfInBounds_toArray, List.set_cons_zero, List.set_cons_succ])
      refine wpAnyH_take (i := 7) (v := ?_) (by simp only [List.getElem?_toArray, List.getElem?_cons_succ, List.getElem?_cons_zero]; rfl) (by kernel_rfl) (by kernel_rfl) (by kernel_rfl) (fun _ _ _ h => h) (Or.inl ⟨by rfl, ?_⟩) hS ?_
      rotate_left
      · intro w' hSw; (try dsimp only at hSw); go_split_ands; go_simp; (try with_reducible rfl)
      (try simp only [Act.put, List.setIfInBounds_toArray, List.set_cons_zero, List.set_cons_succ])
      refine wpAnyH_take (i := 8) (v := ?_) (by simp only [List.getElem?_toArray, List.getElem?_cons_succ, List.getElem?_cons_zero]; rfl) (by kernel_rfl) (by kernel_rfl) (by kernel_rfl) (fun _ _ _ h => h) (Or.inl ⟨by rfl, ?_⟩) hS ?_
      rotate_left
      · intro w' hSw; (try dsimp only at hSw); go_split_ands; go_simp; (try with_reducible rfl)
      (try simp only [Act.put, List.setIfInBounds_toArray, List.set_cons_zero, List.set_cons_succ])
      refine wpAnyH_take (i := 9) (v := ?_) (by simp only [List.getElem?_toArray, List.getElem?_cons_succ, List.getElem?_cons_zero]; rfl) (by kernel_rfl) (by kernel_rfl) (by kernel_rfl) (fun _ _ _ h => h) (Or.inl ⟨by rfl, ?_⟩) hS ?_
      rotate_left
      · intro w' hSw; (try dsimp only at hSw); go_split_ands; go_simp; (try with_reducible rfl)
      (try simp only [Act.put, List.setIfInBounds_toArray, List.set_cons_zero, List.set_cons_succ])
      refine wpAnyH_take (i := 10) (v := ?_) (by simp only [List.getElem?_toArray, List.getElem?_cons_succ, List.getElem?_cons_zero]; rfl) (by kernel_rfl) (by kernel_rfl) (by kernel_rfl) (fun _ _ _ h => h) (Or.inl ⟨by rfl, ?_⟩) hS ?_
      rotate_left
      · intro w' hSw; (try dsimp only at hSw); go_split_ands; go_simp; (try with_reducible rfl)
      (try simp only [Act.put, List.setIfInBounds_toArray, List.set_cons_zero, List.set_cons_succ])
      refine wpAnyH_ready (rs := [11]) (by kernel_rfl) (by simp) ?_
      refine AllReadyH.cons (by simp only [List.getElem?_toArray, List.getElem?_cons_succ, List.getElem?_cons_zero]; rfl) (fun K hK => ?_) ?_
      · skip
        obtain ⟨y00, y01, y02, yf0⟩ := QM.out.cells3
        go_simp
        clear y00 y01 y02 yf0
        refine named_store3 QM.out ?_
        intro Ws11 hbk hgr hsz
        have hsz0 := hid hsz
        clear hsz
        replace QS := hid (QS.out.grown hgr (by simp <;> omega))
        replace PC5 := hid (PC5.out.grown hgr (by have := hz.out; simp; omega))
        replace PR5 := hid (PR5.out.grown hgr (by have := hz.out; simp; omega))
        replace PM5 := hid (mown_kept PM5.out QM.out tm1 tm2 hgr)
        replace PV5 := hid (PV5.out.keptG hgr (fun v hv e => PV5.out.ne_blk QM.out tm1 v hv (by simpa using e)))
        replace HB := hid (HB.out.grown hgr HB.out.size (fun r e => by cases e; omega))
        replace QM := hid hbk
        clear hbk hgr
        refine hK.out _ _ ⟨PC5.out.cells4.1, PC5.out.cells4.2.1, PC5.out.cells4.2.2.1, PR5.out.cells8.1, PR5.out.cells8.2.1, PR5.out.cells8.2.2.1, PR5.out.cells8.2.2.2.1, PR5.out.cells8.2.2.2.2.1, PR5.out.cells8.2.2.2.2.2.1, PR5.out.cells8.2.2.2.2.2.2.1, PR5.out.cells8.2.2.2.2.2.2.2.1⟩ (fun hS' => ?_)
        clear hK K hS
        have hS := hS'
        clear hS'
        (try simp only [Act.put, List.setIfInBounds_toArray, List.set_cons_zero, List.set_cons_succ])
        refine wpAnyH_ready (rs := [12]) (by kernel_rfl) (by simp) ?_
        refine AllReadyH.cons (by simp only [List.getElem?_toArray, List.getElem?_cons_succ, List.getElem?_cons_zero]; rfl) (fun K hK => ?_) ?_
        · skip
          obtain ⟨y00, y01, y02, y03, y04, y05, y06, yf0⟩ := QS.out.cells7
          go_simp
          clear y00 y01 y02 y03 y04 y05 y06 yf0
          refine named_store_7_7_0 QS.out ?_
          intro Ws12 hbk hgr hsz
          have hsz1 := hid hsz
          clear hsz
          replace QM := hid (QM.out.grown hgr (by simp <;> omega))
          replace PC5 := hid (PC5.out.grown hgr (by have := hz.out; simp; omega))
          replace PR5 := hid (PR5.out.grown hgr (by have := hz.out; simp; omega))
          replace PM5 := hid (mown_kept PM5.out QS.out ts1 ts2 hgr)
          replace PV5 := hid (PV5.out.keptG hgr (fun v hv e => PV5.out.ne_blk QS.out ts1 v hv (by simpa using e)))
          replace HB := hid (HB.out.grown hgr HB.out.size (fun r e => by cases e; omega))
          replace QS := hid hbk
          clear hbk hgr
          refine hK.out _ _ ⟨PC5.out.cells4.1, PC5.out.cells4.2.1, PC5.out.cells4.2.2.1, PR5.out.cells8.1, PR5.out.cells8.2.1, PR5.out.cells8.2.2.1, PR5.out.cells8.2.2.2.1, PR5.out.cells8.2.2.2.2.1, PR5.out.cells8.2.2.2.2.2.1, PR5.out.cells8.2.2.2.2.2.2.1, PR5.out.cells8.2.2.2.2.2.2.2.1⟩ (fun hS' => ?_)
          clear hK K hS
          have hS := hS'
          clear hS'
          (try simp only [Act.put, List.setIfInBounds_toArray, List.set_cons_zero, List.set_cons_succ])
          refine wpAnyH_done (by kernel_rfl) ?_ _
          refine NoPanic.normal ?_
          clear hS
          go_wp2
          obtain ⟨v0, v1, v2, vf⟩ := QM.out.cells3
          obtain ⟨q0, q1, q2, q3, q4, q5, q6, qf⟩ := QS.out.cells7
          refine bodyPost_ret (v := .tuple #[mv A5 n5 c5 B5 k5 d5 m2.2.2, .agg #[.int .i64 s2.a, .int .i64 s2.f, .int .i64 s2.m, .int .i64 s2.ph, .int .u64 s2.bg, .slice V5 vn5 vc5, .int .i64 s2.tr]]) (by simp [results, Try.results49, go_sem, v0, v1, v2, q0, q1, q2, q3, q4, q5, q6]) rfl ?_
          rw [HF.out]
          exact ⟨_, _, _, _, _, _, _, _, _, rfl, PM5.out, PV5.out, PF5.out, HB.out⟩
        exact AllReadyH.nil
      exact AllReadyH.nil
    · skip
      obtain ⟨y00, y01, y02, y03, y04, y05, y06, y07, yf0⟩ := PR5.out.cells8
      obtain ⟨y10, y11, y12, y13, yf1⟩ := PC5.out.cells4
      go_upto_region 9 with fail
      clear y00 y01 y02 y03 y04 y05 y06 y07 yf0 y10 y11 y12 y13 yf1
      have PR0 := PR5
      have hbk0 : Blk (W4.setCell ⟨W1.heap.size + 1, 3, none⟩ (.int .i64 5)) (W1.heap.size + 1) 104 #[.int .i64 s2.a, .int .i64 s2.f, .int .i64 s2.m, .int .i64 5, .int .u64 s2.bg, .slice V5 vn5 vc5, .int .i64 s2.tr, ptr W1.heap.size] := PR5.out.setCell 3 (.int .i64 5)
      have hgr : W4.grownBy (W4.setCell ⟨W1.heap.size + 1, 3, none⟩ (.int .i64 5)) (some (W1.heap.size + 1)) := (grown_set (World.grownBy.refl W4 (some (W1.heap.size + 1))) 3 (.int .i64 5))
      replace PR5 := hid hbk0
      clear hbk0
      generalize W4.setCell ⟨W1.heap.size + 1, 3, none⟩ (.int .i64 5) = W6 at *
      replace PC5 := hid (PC5.out.grown hgr (by simp <;> omega))
      replace PM5 := hid (mown_kept PM5.out PR0.out tr1 tr2 hgr)
      replace PV5 := hid (PV5.out.keptG hgr (fun v hv e => PV5.out.ne_blk PR0.out tr1 v hv (by simpa using e)))
      replace QM := hid (QM.out.grown hgr (by have := hz.out; simp; omega))
      replace QS := hid (QS.out.grown hgr (by have := hz.out; simp; omega))
      replace HB := hid (HB.out.grown hgr HB.out.size (fun r e => by cases e; have := hz.out; omega))
      clear hgr PR0
      have bx := (Below.refl W6.heap.size W6).drew
      replace PC5 := hid (PC5.out.step bx); replace PM5 := hid (PM5.out.step bx); replace PR5 := hid (PR5.out.step bx); replace PV5 := hid (PV5.out.step bx); replace QM := hid (QM.out.step bx); replace QS := hid (QS.out.step bx); replace HB := hid (below_then HB.out bx)
      clear bx
      have hszd := hid (show W6.drew.heap.size = W6.heap.size from rfl)
      refine wp_region_noPanic ?_
      refine wp_region_held_drew (S := (fun W' : World => W'.cell? ⟨W1.heap.size, 0, none⟩ = some (.slice A5 n5 c5) ∧ W'.cell? ⟨W1.heap.size, 1, none⟩ = some (.slice B5 k5 d5) ∧ W'.cell? ⟨W1.heap.size, 2, none⟩ = some (.bool m2.2.2) ∧ W'.cell? ⟨W1.heap.size + 1, 0, none⟩ = some (.int .i64 s2.a) ∧ W'.cell? ⟨W1.heap.size + 1, 1, none⟩ = some (.int .i64 s2.f) ∧ W'.cell? ⟨W1.heap.size + 1, 2, none⟩ = some (.int .i64 s2.m) ∧ W'.cell? ⟨W1.heap.size + 1, 3, none⟩ = some (.int .i64 5) ∧ W'.cell? ⟨W1.heap.size + 1, 4, none⟩ = some (.int .u64 s2.bg) ∧ W'.cell? ⟨W1.heap.size + 1, 5, none⟩ = some (.slice V5 vn5 vc5) ∧ W'.cell? ⟨W1.heap.size + 1, 6, none⟩ = some (.int .i64 s2.tr) ∧ W'.cell? ⟨W1.heap.size + 1, 7, none⟩ = some (ptr W1.heap.size))) (by kernel_rfl) ⟨PC5.out.cells4.1, PC5.out.cells4.2.1, PC5.out.cells4.2.2.1, PR5.out.cells8.1, PR5.out.cells8.2.1, PR5.out.cells8.2.2.1, PR5.out.cells8.2.2.2.1, PR5.out.cells8.2.2.2.2.1, PR5.out.cells8.2.2.2.2.2.1, PR5.out.cells8.2.2.2.2.2.2.1, PR5.out.cells8.2.2.2.2.2.2.2.1⟩ (fun hS => ?_)
      generalize W6.drew = Wd at *
      refine wpAnyH_take (i := 0) (v := ?_) (by simp only [List.getElem?_toArray, List.getElem?_cons_succ, List.getElem?_cons_zero]; rfl) (by kernel_rfl) (by kernel_rfl) (by kernel_rfl) (fun _ _ _ h => h) (Or.inl ⟨by rfl, ?_⟩) hS ?_
      rotate_left
      · intro w' hSw; (try dsimp only at hSw); go_split_ands; go_simp; (try with_reducible rfl)
      (try simp only [Act.put, List.setIfInBounds_toArray, List.set_cons_zero, List.set_cons_succ])
      refine wpAnyH_take (i := 1) (v := ?_) (by simp only [List.getElem?_toArray, List.getElem?_cons_succ, List.getElem?_cons_zero]; rfl) (by kernel_rfl) (by kernel_rfl) (by kernel_rfl) (fun _ _ _ h => h) (Or.inl ⟨by rfl, ?_⟩) hS ?_
      rotate_left
      · intro w' hSw; (try dsimp only at hSw); go_split_ands; go_simp; (try with_reducible rfl)
      (try simp only [Act.put, List.setIfInBounds_toArray, List.set_cons_zero, List.set_cons_succ])
      refine wpAnyH_take (i := 2) (v := ?_) (by simp only [List.getElem?_toArray, List.getElem?_cons_succ, List.getElem?_cons_zero]; rfl) (by kernel_rfl) (by kernel_rfl) (by kernel_rfl) (fun _ _ _ h => h) (Or.inl ⟨by rfl, ?_⟩) hS ?_
      rotate_left
      · intro w' hSw; (try dsimp only at hSw); go_split_ands; go_simp; (try with_reducible rfl)
      (try simp only [Act.put, List.setIfInBounds_toArray, List.set_cons_zero, List.set_cons_succ])
      refine wpAnyH_take (i := 3) (v := ?_) (by simp only [List.getElem?_toArray, List.getElem?_cons_succ, List.getElem?_cons_zero]; rfl) (by kernel_rfl) (by kernel_rfl) (by kernel_rfl) (fun _ _ _ h => h) (Or.inl ⟨by rfl, ?_⟩) hS ?_
      rotate_left
      · intro w' hSw; (try dsimp only at hSw); go_split_ands; go_simp; (try with_reducible rfl)
      (try simp only [Act.put, List.setIfInBounds_toArray, List.set_cons_zero, List.set_cons_succ])
      refine wpAnyH_take (i := 4) (v := ?_) (by simp only [List.getElem?_toArray, List.getElem?_cons_succ, List.getElem?_cons_zero]; rfl) (by kernel_rfl) (by kernel_rfl) (by kernel_rfl) (fun _ _ _ h => h) (Or.inl ⟨by rfl, ?_⟩) hS ?_
      rotate_left
      · intro w' hSw; (try dsimp only at hSw); go_split_ands; go_simp; (try with_reducible rfl)
      (try simp only [Act.put, List.setIfInBounds_toArray, List.set_cons_zero, List.set_cons_succ])
      refine wpAnyH_take (i := 5) (v := ?_) (by simp only [List.getElem?_toArray, List.getElem?_cons_succ, List.getElem?_cons_zero]; rfl) (by kernel_rfl) (by kernel_rfl) (by kernel_rfl) (fun _ _ _ h => h) (Or.inl ⟨by rfl, ?_⟩) hS ?_
      rotate_left
      · intro w' hSw; (try dsimp only at hSw); go_split_ands; go_simp; (try with_reducible rfl)
      (try simp only [Act.put, List.setIfInBounds_toArray, List.set_cons_zero, List.set_cons_succ])
      refine wpAnyH_take (i := 6) (v := ?_) (by simp only [List.getElem?_toArray, List.getElem?_cons_succ, List.getElem?_cons_zero]; rfl) (by kernel_rfl) (by kernel_rfl) (by kernel_rfl) (fun _ _ _ h => h) (Or.inl ⟨by rfl, ?_⟩) hS ?_
      rotate_left
      · intro w' hSw; (try dsimp only at hSw); go_split_ands; go_simp; (try with_reducible rfl)
      (try simp only [Act.put, List.setIfInBounds_toArray, List.set_cons_zero, List.set_cons_succ])
      refine wpAnyH_take (i := 7) (v := ?_) (by simp only [List.getElem?_toArray, List.getElem?_cons_succ, List.getElem?_cons_zero]; rfl) (by kernel_rfl) (by kernel_rfl) (by kernel_rfl) (fun _ _ _ h => h) (Or.inl ⟨by rfl, ?_⟩) hS ?_
      rotate_left
      · intro w' hSw; (try dsimp only at hSw); go_split_ands; go_simp; (try with_reducible rfl)
      (try simp only [Act.put, List.setIfInBounds_toArray, List.set_cons_zero, List.set_cons_succ])
      refine wpAnyH_take (i := 8) (v := ?_) (by simp only [List.getElem?_toArray, List.getElem?_cons_succ, List.getElem?_cons_zero]; rfl) (by kernel_rfl) (by kernel_rfl) (by kernel_rfl) (fun _ _ _ h => h) (Or.inl ⟨by rfl, ?_⟩) hS ?_
      rotate_left
      · intro w' hSw; (try dsimp only at hSw); go_split_ands; go_simp; (try with_reducible rfl)
      (try simp only [Act.put, List.setIfInBounds_toArray, List.set_cons_zero, List.set_cons_succ])
      refine wpAnyH_take (i := 9) (v := ?_) (by simp only [List.getElem?_toArray, List.getElem?_cons_succ, List.getElem?_cons_zero]; rfl) (by kernel_rfl) (by kernel_rfl) (by kernel_rfl) (fun _ _ _ h => h) (Or.inl ⟨by rfl, ?_⟩) hS ?_
      rotate_left
      · intro w' hSw; (try dsimp only at hSw); go_split_ands; go_simp; (try with_reducible rfl)
      (try simp only [Act.put, List.setIfInBounds_toArray, List.set_cons_zero, List.set_cons_succ])
      refine wpAnyH_take (i := 10) (v := ?_) (by simp only [List.getElem?_toArray, List.getElem?_cons_succ, List.getElem?_cons_zero]; rfl) (by kernel_rfl) (by kernel_rfl) (by kernel_rfl) (fun _ _ _ h => h) (Or.inl ⟨by rfl, ?_⟩) hS ?_
      rotate_left
      · intro w' hSw; (try dsimp only at hSw); go_split_ands; go_simp; (try with_reducible rfl)
      (try simp only [Act.put, List.setIfInBounds_toArray, List.set_cons_zero, List.set_cons_succ])
      refine wpAnyH_ready (rs := [11]) (by kernel_rfl) (by simp) ?_
      refine AllReadyH.cons (by simp only [List.getElem?_toArray, List.getElem?_cons_succ, List.getElem?_cons_zero]; rfl) (fun K hK => ?_) ?_
      · skip
        obtain ⟨y00, y01, y02, yf0⟩ := QM.out.cells3
        go_simp
        clear y00 y01 y02 yf0
        refine named_store3 QM.out ?_
        intro Ws11 hbk hgr hsz
        have hsz0 := hid hsz
        clear hsz
        replace QS := hid (QS.out.grown hgr (by simp <;> omega))
        replace PC5 := hid (PC5.out.grown hgr (by have := hz.out; simp; omega))
        replace PR5 := hid (PR5.out.grown hgr (by have := hz.out; simp; omega))
        replace PM5 := hid (mown_kept PM5.out QM.out tm1 tm2 hgr)
        replace PV5 := hid (PV5.out.keptG hgr (fun v hv e => PV5.out.ne_blk QM.out tm1 v hv (by simpa using e)))
        replace HB := hid (HB.out.grown hgr HB.out.size (fun r e => by cases e; omega))
        replace QM := hid hbk
        clear hbk hgr
        refine hK.out _ _ ⟨PC5.out.cells4.1, PC5.out.cells4.2.1, PC5.out.cells4.2.2.1, PR5.out.cells8.1, PR5.out.cells8.2.1, PR5.out.cells8.2.2.1, PR5.out.cells8.2.2.2.1, PR5.out.cells8.2.2.2.2.1, PR5.out.cells8.2.2.2.2.2.1, PR5.out.cells8.2.2.2.2.2.2.1, PR5.out.cells8.2.2.2.2.2.2.2.1⟩ (fun hS' => ?_)
        clear hK K hS
        have hS := hS'
        clear hS'
        (try simp only [Act.put, List.setIfInBounds_toArray, List.set_cons_zero, List.set_cons_succ])
        refine wpAnyH_ready (rs := [12]) (by kernel_rfl) (by simp) ?_
        refine AllReadyH.cons (by simp only [List.getElem?_toArray, List.getElem?_cons_succ, List.getElem?_cons_zero]; rfl) (fun K hK => ?_) ?_
        · skip
          obtain ⟨y00, y01, y02, y03, y04, y05, y06, yf0⟩ := QS.out.cells7
          go_simp
          clear y00 y01 y02 y03 y04 y05 y06 yf0
          refine named_store_7_7_0 QS.out ?_
          intro Ws12 hbk hgr hsz
          have hsz1 := hid hsz
          clear hsz
          replace QM := hid (QM.out.grown hgr (by simp <;> omega))
          replace PC5 := hid (PC5.out.grown hgr (by have := hz.out; simp; omega))
          replace PR5 := hid (PR5.out.grown hgr (by have := hz.out; simp; omega))
          replace PM5 := hid (mown_kept PM5.out QS.out ts1 ts2 hgr)
          replace PV5 := hid (PV5.out.keptG hgr (fun v hv e => PV5.out.ne_blk QS.out ts1 v hv (by simpa using e)))
          replace HB := hid (HB.out.grown hgr HB.out.size (fun r e => by cases e; omega))
          replace QS := hid hbk
          clear hbk hgr
          refine hK.out _ _ ⟨PC5.out.cells4.1, PC5.out.cells4.2.1, PC5.out.cells4.2.2.1, PR5.out.cells8.1, PR5.out.cells8.2.1, PR5.out.cells8.2.2.1, PR5.out.cells8.2.2.2.1, PR5.out.cells8.2.2.2.2.1, PR5.out.cells8.2.2.2.2.2.1, PR5.out.cells8.2.2.2.2.2.2.1, PR5.out.cells8.2.2.2.2.2.2.2.1⟩ (fun hS' => ?_)
          clear hK K hS
          have hS := hS'
          clear hS'
          (try simp only [Act.put, List.setIfInBounds_toArray, List.set_cons_zero, List.set_cons_succ])
          refine wpAnyH_done (by kernel_rfl) ?_ _
          refine NoPanic.normal ?_
          clear hS
          go_wp2
          obtain ⟨v0, v1, v2, vf⟩ := QM.out.cells3
          obtain ⟨q0, q1, q2, q3, q4, q5, q6, qf⟩ := QS.out.cells7
          refine bodyPost_ret (v := .tuple #[mv A5 n5 c5 B5 k5 d5 m2.2.2, .agg #[.int .i64 s2.a, .int .i64 s2.f, .int .i64 s2.m, .int .i64 5, .int .u64 s2.bg, .slice V5 vn5 vc5, .int .i64 s2.tr]]) (by simp [results, Try.results49, go_sem, v0, v1, v2, q0, q1, q2, q3, q4, q5, q6]) rfl ?_
          rw [HF.out]
          exact ⟨_, _, _, _, _, _, _, _, _, rfl, PM5.out, PV5.out, PF5.out, HB.out⟩
        exact AllReadyH.nil
      exact AllReadyH.nil
  by_cases hp2 : ph = 2
  · subst hp2
    have hru := HRES.out
    rw [if_neg (by decide), if_pos rfl] at hru
    have hlk := run_look_yes (P := Try.prog) Try.underlying105 Try.underlying3 HMP.out 2 (i := 1) (v := .func (.func 62) #[ptr (W1.heap.size + 1)] #[]) rfl
    have eg := enters_of Try.func62 (by kernel_rfl) rfl
    have HRU := hid hru
    clear hru HRES
    obtain ⟨y00, y01, y02, y03, y04, y05, y06, y07, yf0⟩ := PR.out.cells8
    obtain ⟨z0, z1, z2, z3, z4, z5, z6, zf⟩ := PS.out.cells7
    go_wp2_with fail
    clear hlk z0 z1 z2 z3 z4 z5 z6 zf
    clear y00 y01 y02 y03 y04 y05 y06 y07 yf0
    refine (rdata_any (W1.heap.size + 1) W1.heap.size lo (ws, ls, ff) false ⟨a, f, mn, 2, bg, vs, tr⟩ W3 HRM.out HG.out (by have h := HOK.out; obtain ⟨_, ⟨_, _, g1, g2, g3, _⟩, _, _, _, g4⟩ := h; have := HLV.out; dsimp only; omega)).mono ?_
    rw [← HRU.out]
    rintro e W4 ⟨rfl, hrm, hgp⟩
    dsimp only at hrm
    have hnp : ∀ i, i < W1.heap.size → ¬ (i = W1.heap.size + 1 ∨ i = W1.heap.size) := fun i hi e => by omega
    replace QM := hid (show Blk W4 _ _ _ from (hgp.block _ QM.out.lt (hnp _ (by have := hz.out; omega))).trans QM.out)
    replace QS := hid (show Blk W4 _ _ _ from (hgp.block _ QS.out.lt (hnp _ (by have := hz.out; omega))).trans QS.out)
    replace HB := hid (GrownP.below HB.out hgp (fun i hi => by have := hz.out; omega) HB.out.size)
    clear hnp hgp PM PS PC PR OV HM HRM HMP eg
    obtain ⟨⟨A5, n5, c5, B5, k5, d5, V5, vn5, vc5, h1, h2, h3, h4, h5⟩, h6⟩ := hrm
    have PC5 := hid h1; have PM5 := hid h2; have PR5 := hid h3; have PV5 := hid h4; have PF5 := hid h5
    clear h1 h2 h3 h4 h5 h6
    rcases l2 with _ | _
    · skip
      obtain ⟨y00, y01, y02, y03, y04, y05, y06, y07, yf0⟩ := PR5.out.cells8
      obtain ⟨y10, y11, y12, y13, yf1⟩ := PC5.out.cells4
      go_upto_region 9 with fail
      clear y00 y01 y02 y03 y04 y05 y06 y07 yf0 y10 y11 y12 y13 yf1
      have bx := (Below.refl W4.heap.size W4).drew
      replace PC5 := hid (PC5.out.step bx); replace PM5 := hid (PM5.out.step bx); replace PR5 := hid (PR5.out.step bx); replace PV5 := hid (PV5.out.step bx); replace QM := hid (QM.out.step bx); replace QS := hid (QS.out.step bx); replace HB := hid (below_then HB.out bx)
      clear bx
      have hszd := hid (show W4.drew.heap.size = W4.heap.size from rfl)
      refine wp_region_noPanic ?_
      refine wp_region_held_drew (S := (fun W' : World => W'.cell? ⟨W1.heap.size, 0, none⟩ = some (.slice A5 n5 c5) ∧ W'.cell? ⟨W1.heap.size, 1, none⟩ = some (.slice B5 k5 d5) ∧ W'.cell? ⟨W1.heap.size, 2, none⟩ = some (.bool m2.2.2) ∧ W'.cell? ⟨W1.heap.size + 1, 0, none⟩ = some (.int .i64 s2.a) ∧ W'.cell? ⟨W1.heap.size + 1, 1, none⟩ = some (.int .i64 s2.f) ∧ W'.cell? ⟨W1.heap.size + 1, 2, none⟩ = some (.int .i64 s2.m) ∧ W'.cell? ⟨W1.heap.size + 1, 3, none⟩ = some (.int .i64 s2.ph) ∧ W'.cell? ⟨W1.heap.size + 1, 4, none⟩ = some (.int .u64 s2.bg) ∧ W'.cell? ⟨W1.heap.size + 1, 5, none⟩ = some (.slice V5 vn5 vc5) ∧ W'.cell? ⟨W1.heap.size + 1, 6, none⟩ = some (.int .i64 s2.tr) ∧ W'.cell? ⟨W1.heap.size + 1, 7, none⟩ = some (ptr W1.heap.size))) (by kernel_rfl) ⟨PC5.out.cells4.1, PC5.out.cells4.2.1, PC5.out.cells4.2.2.1, PR5.out.cells8.1, PR5.out.cells8.2.1, PR5.out.cells8.2.2.1, PR5.out.cells8.2.2.2.1, PR5.out.cells8.2.2.2.2.1, PR5.out.cells8.2.2.2.2.2.1, PR5.out.cells8.2.2.2.2.2.2.1, PR5.out.cells8.2.2.2.2.2.2.2.1⟩ (fun hS => ?_)
      generalize W4.drew = Wd at *
      refine wpAnyH_take (i := 0) (v := ?_) (by simp only [List.getElem?_toArray, List.getElem?_cons_succ, List.getElem?_cons_zero]; rfl) (by kernel_rfl) (by kernel_rfl) (by kernel_rfl) (fun _ _ _ h => h) (Or.inl ⟨by rfl, ?_⟩) hS ?_
      rotate_left
      · intro w' hSw; (try dsimp only at hSw); go_split_ands; go_simp; (try with_reducible rfl)
      (try simp only [Act.put, List.setIfInBounds_toArray, List.set_cons_zero, List.set_cons_succ])
      refine wpAnyH_take (i := 1) (v := ?_) (by simp only [List.getElem?_toArray, List.getElem?_cons_succ, List.getElem?_cons_zero]; rfl) (by kernel_rfl) (by kernel_rfl) (by kernel_rfl) (fun _ _ _ h => h) (Or.inl ⟨by rfl, ?_⟩) hS ?_
      rotate_left
      · intro w' hSw; (try dsimp only at hSw); go_split_ands; go_simp; (try with_reducible rfl)
      (try simp only [Act.put, List.setIfInBounds_toArray, List.set_cons_zero, List.set_cons_succ])
      refine wpAnyH_take (i := 2) (v := ?_) (by simp only [List.getElem?_toArray, List.getElem?_cons_succ, List.getElem?_cons_zero]; rfl) (by kernel_rfl) (by kernel_rfl) (by kernel_rfl) (fun _ _ _ h => h) (Or.inl ⟨by rfl, ?_⟩) hS ?_
      rotate_left
      · intro w' hSw; (try dsimp only at hSw); go_split_ands; go_simp; (try with_reducible rfl)
      (try simp only [Act.put, List.setIfInBounds_toArray, List.set_cons_zero, List.set_cons_succ])
      refine wpAnyH_take (i := 3) (v := ?_) (by simp only [List.getElem?_toArray, List.getElem?_cons_succ, List.getElem?_cons_zero]; rfl) (by kernel_rfl) (by kernel_rfl) (by kernel_rfl) (fun _ _ _ h => h) (Or.inl ⟨by rfl, ?_⟩) hS ?_
      rotate_left
      · intro w' hSw; (try dsimp only at hSw); go_split_ands; go_simp; (try with_reducible rfl)
      (try simp only [Act.put, List.setIfInBounds_toArray, List.set_cons_zero, List.set_cons_succ])
      refine wpAnyH_take (i := 4) (v := ?_) (by simp only [List.getElem?_toArray, List.getElem?_cons_succ, List.getElem?_cons_zero]; rfl) (by kernel_rfl) (by kernel_rfl) (by kernel_rfl) (fun _ _ _ h => h) (Or.inl ⟨by rfl, ?_⟩) hS ?_
      rotate_left
      · intro w' hSw; (try dsimp only at hSw); go_split_ands; go_simp; (try with_reducible rfl)
      (try simp only [Act.put, List.setIfInBounds_toArray, List.set_cons_zero, List.set_cons_succ])
      refine wpAnyH_take (i := 5) (v := ?_) (by simp only [List.getElem?_toArray, List.getElem?_cons_succ, List.getElem?_cons_zero]; rfl) (by kernel_rfl) (by kernel_rfl) (by kernel_rfl) (fun _ _ _ h => h) (Or.inl ⟨by rfl, ?_⟩) hS ?_
      rotate_left
      · intro w' hSw; (try dsimp only at hSw); go_split_ands; go_simp; (try with_reducible rfl)
      (try simp only [Act.put, List.setIfInBounds_toArray, List.set_cons_zero, List.set_cons_succ])
      refine wpAnyH_take (i := 6) (v := ?_) (by simp only [List.getElem?_toArray, List.getElem?_cons_succ, List.getElem?_cons_zero]; rfl) (by kernel_rfl) (by kernel_rfl) (by kernel_rfl) (fun _ _ _ h => h) (Or.inl ⟨by rfl, ?_⟩) hS ?_
      rotate_left
      · intro w' hSw; (try dsimp only at hSw); go_split_ands; go_simp; (try with_reducible rfl)
      (try simp only [Act.put, List.setIfInBounds_toArray, List.set_cons_zero, List.set_cons_succ])
      refine wpAnyH_take (i := 7) (v := ?_) (by simp only [List.getElem?_toArray, List.getElem?_cons_succ, List.getElem?_cons_zero]; rfl) (by kernel_rfl) (by kernel_rfl) (by kernel_rfl) (fun _ _ _ h => h) (Or.inl ⟨by rfl, ?_⟩) hS ?_
      rotate_left
      · intro w' hSw; (try dsimp only at hSw); go_split_ands; go_simp; (try with_reducible rfl)
      (try simp only [Act.put, List.setIfInBounds_toArray, List.set_cons_zero, List.set_cons_succ])
      refine wpAnyH_take (i := 8) (v := ?_) (by simp only [List.getElem?_toArray, List.getElem?_cons_succ, List.getElem?_cons_zero]; rfl) (by kernel_rfl) (by kernel_rfl) (by kernel_rfl) (fun _ _ _ h => h) (Or.inl ⟨by rfl, ?_⟩) hS ?_
      rotate_left
      · intro w' hSw; (try dsimp only at hSw); go_split_ands; go_simp; (try with_reducible rfl)
      (try simp only [Act.put, List.setIfInBounds_toArray, List.set_cons_zero, List.set_cons_succ])
      refine wpAnyH_take (i := 9) (v := ?_) (by simp only [List.getElem?_toArray, List.getElem?_cons_succ, List.getElem?_cons_zero]; rfl) (by kernel_rfl) (by kernel_rfl) (by kernel_rfl) (fun _ _ _ h => h) (Or.inl ⟨by rfl, ?_⟩) hS ?_
      rotate_left
      · intro w' hSw; (try dsimp only at hSw); go_split_ands; go_simp; (try with_reducible rfl)
      (try simp only [Act.put, List.setIfInBounds_toArray, List.set_cons_zero, List.set_cons_succ])
      refine wpAnyH_take (i := 10) (v := ?_) (by simp only [List.getElem?_toArray, List.getElem?_cons_succ, List.getElem?_cons_zero]; rfl) (by kernel_rfl) (by kernel_rfl) (by kernel_rfl) (fun _ _ _ h => h) (Or.inl ⟨by rfl, ?_⟩) hS ?_
      rotate_left
      · intro w' hSw; (try dsimp only at hSw); go_split_ands; go_simp; (try with_reducible rfl)
      (try simp only [Act.put, List.setIfInBounds_toArray, List.set_cons_zero, List.set_cons_succ])
      refine wpAnyH_ready (rs := [11]) (by kernel_rfl) (by simp) ?_
      refine AllReadyH.cons (by simp only [List.getElem?_toArray, List.getElem?_cons_succ, List.getElem?_cons_zero]; rfl) (fun K hK => ?_) ?_
      · skip
        obtain ⟨y00, y01, y02, yf0⟩ := QM.out.cells3
        go_simp
        clear y00 y01 y02 yf0
        refine named_store3 QM.out ?_
        intro Ws11 hbk hgr hsz
        have hsz0 := hid hsz
        clear hsz
        replace QS := hid (QS.out.grown hgr (by simp <;> omega))
        replace PC5 := hid (PC5.out.grown hgr (by have := hz.out; simp; omega))
        replace PR5 := hid (PR5.out.grown hgr (by have := hz.out; simp; omega))
        replace PM5 := hid (mown_kept PM5.out QM.out tm1 tm2 hgr)
        replace PV5 := hid (PV5.out.keptG hgr (fun v hv e => PV5.out.ne_blk QM.out tm1 v hv (by simpa using e)))
        replace HB := hid (HB.out.grown hgr HB.out.size (fun r e => by cases e; omega))
        replace QM := hid hbk
        clear hbk hgr
        refine hK.out _ _ ⟨PC5.out.cells4.1, PC5.out.cells4.2.1, PC5.out.cells4.2.2.1, PR5.out.cells8.1, PR5.out.cells8.2.1, PR5.out.cells8.2.2.1, PR5.out.cells8.2.2.2.1, PR5.out.cells8.2.2.2.2.1, PR5.out.cells8.2.2.2.2.2.1, PR5.out.cells8.2.2.2.2.2.2.1, PR5.out.cells8.2.2.2.2.2.2.2.1⟩ (fun hS' => ?_)
        clear hK K hS
        have hS := hS'
        clear hS'
        (try simp only [Act.put, List.setIfInBounds_toArray, List.set_cons_zero, List.set_cons_succ])
        refine wpAnyH_ready (rs := [12]) (by kernel_rfl) (by simp) ?_
        refine AllReadyH.cons (by simp only [List.getElem?_toArray, List.getElem?_cons_succ, List.getElem?_cons_zero]; rfl) (fun K hK => ?_) ?_
        · skip
          obtain ⟨y00, y01, y02, y03, y04, y05, y06, yf0⟩ := QS.out.cells7
          go_simp
          clear y00 y01 y02 y03 y04 y05 y06 yf0
          refine named_store_7_7_0 QS.out ?_
          intro Ws12 hbk hgr hsz
          have hsz1 := hid hsz
          clear hsz
          replace QM := hid (QM.out.grown hgr (by simp <;> omega))
          replace PC5 := hid (PC5.out.grown hgr (by have := hz.out; simp; omega))
          replace PR5 := hid (PR5.out.grown hgr (by have := hz.out; simp; omega))
          replace PM5 := hid (mown_kept PM5.out QS.out ts1 ts2 hgr)
          replace PV5 := hid (PV5.out.keptG hgr (fun v hv e => PV5.out.ne_blk QS.out ts1 v hv (by simpa using e)))
          replace HB := hid (HB.out.grown hgr HB.out.size (fun r e => by cases e; omega))
          replace QS := hid hbk
          clear hbk hgr
          refine hK.out _ _ ⟨PC5.out.cells4.1, PC5.out.cells4.2.1, PC5.out.cells4.2.2.1, PR5.out.cells8.1, PR5.out.cells8.2.1, PR5.out.cells8.2.2.1, PR5.out.cells8.2.2.2.1, PR5.out.cells8.2.2.2.2.1, PR5.out.cells8.2.2.2.2.2.1, PR5.out.cells8.2.2.2.2.2.2.1, PR5.out.cells8.2.2.2.2.2.2.2.1⟩ (fun hS' => ?_)
          clear hK K hS
          have hS := hS'
          clear hS'
          (try simp only [Act.put, List.setIfInBounds_toArray, List.set_cons_zero, List.set_cons_succ])
          refine wpAnyH_done (by kernel_rfl) ?_ _
          refine NoPanic.normal ?_
          clear hS
          go_wp2
          obtain ⟨v0, v1, v2, vf⟩ := QM.out.cells3
          obtain ⟨q0, q1, q2, q3, q4, q5, q6, qf⟩ := QS.out.cells7
          refine bodyPost_ret (v := .tuple #[mv A5 n5 c5 B5 k5 d5 m2.2.2, .agg #[.int .i64 s2.a, .int .i64 s2.f, .int .i64 s2.m, .int .i64 s2.ph, .int .u64 s2.bg, .slice V5 vn5 vc5, .int .i64 s2.tr]]) (by simp [results, Try.results49, go_sem, v0, v1, v2, q0, q1, q2, q3, q4, q5, q6]) rfl ?_
          rw [HF.out]
          exact ⟨_, _, _, _, _, _, _, _, _, rfl, PM5.out, PV5.out, PF5.out, HB.out⟩
        exact AllReadyH.nil
      exact AllReadyH.nil
    · skip
      obtain ⟨y00, y01, y02, y03, y04, y05, y06, y07, yf0⟩ := PR5.out.cells8
      obtain ⟨y10, y11, y12, y13, yf1⟩ := PC5.out.cells4
      go_upto_region 9 with fail
      clear y00 y01 y02 y03 y04 y05 y06 y07 yf0 y10 y11 y12 y13 yf1
      have PR0 := PR5
      have hbk0 : Blk (W4.setCell ⟨W1.heap.size + 1, 3, none⟩ (.int .i64 5)) (W1.heap.size + 1) 104 #[.int .i64 s2.a, .int .i64 s2.f, .int .i64 s2.m, .int .i64 5, .int .u64 s2.bg, .slice V5 vn5 vc5, .int .i64 s2.tr, ptr W1.heap.size] := PR5.out.setCell 3 (.int .i64 5)
      have hgr : W4.grownBy (W4.setCell ⟨W1.heap.size + 1, 3, none⟩ (.int .i64 5)) (some (W1.heap.size + 1)) := (grown_set (World.grownBy.refl W4 (some (W1.heap.size + 1))) 3 (.int .i64 5))
      replace PR5 := hid hbk0
      clear hbk0
      generalize W4.setCell ⟨W1.heap.size + 1, 3, none⟩ (.int .i64 5) = W6 at *
      replace PC5 := hid (PC5.out.grown hgr (by simp <;> omega))
      replace PM5 := hid (mown_kept PM5.out PR0.out tr1 tr2 hgr)
      replace PV5 := hid (PV5.out.keptG hgr (fun v hv e => PV5.out.ne_blk PR0.out tr1 v hv (by simpa using e)))
      replace QM := hid (QM.out.grown hgr (by have := hz.out; simp; omega))
      replace QS := hid (QS.out.grown hgr (by have := hz.out; simp; omega))
      replace HB := hid (HB.out.grown hgr HB.out.size (fun r e => by cases e; have := hz.out; omega))
      clear hgr PR0
      have bx := (Below.refl W6.heap.size W6).drew
      replace PC5 := hid (PC5.out.step bx); replace PM5 := hid (PM5.out.step bx); replace PR5 := hid (PR5.out.step bx); replace PV5 := hid (PV5.out.step bx); replace QM := hid (QM.out.step bx); replace QS := hid (QS.out.step bx); replace HB := hid (below_then HB.out bx)
      clear bx
      have hszd := hid (show W6.drew.heap.size = W6.heap.size from rfl)
      refine wp_region_noPanic ?_
      refine wp_region_held_drew (S := (fun W' : World => W'.cell? ⟨W1.heap.size, 0, none⟩ = some (.slice A5 n5 c5) ∧ W'.cell? ⟨W1.heap.size, 1, none⟩ = some (.slice B5 k5 d5) ∧ W'.cell? ⟨W1.heap.size, 2, none⟩ = some (.bool m2.2.2) ∧ W'.cell? ⟨W1.heap.size + 1, 0, none⟩ = some (.int .i64 s2.a) ∧ W'.cell? ⟨W1.heap.size + 1, 1, none⟩ = some (.int .i64 s2.f) ∧ W'.cell? ⟨W1.heap.size + 1, 2, none⟩ = some (.int .i64 s2.m) ∧ W'.cell? ⟨W1.heap.size + 1, 3, none⟩ = some (.int .i64 5) ∧ W'.cell? ⟨W1.heap.size + 1, 4, none⟩ = some (.int .u64 s2.bg) ∧ W'.cell? ⟨W1.heap.size + 1, 5, none⟩ = some (.slice V5 vn5 vc5) ∧ W'.cell? ⟨W1.heap.size + 1, 6, none⟩ = some (.int .i64 s2.tr) ∧ W'.cell? ⟨W1.heap.size + 1, 7, none⟩ = some (ptr W1.heap.size))) (by kernel_rfl) ⟨PC5.out.cells4.1, PC5.out.cells4.2.1, PC5.out.cells4.2.2.1, PR5.out.cells8.1, PR5.out.cells8.2.1, PR5.out.cells8.2.2.1, PR5.out.cells8.2.2.2.1, PR5.out.cells8.2.2.2.2.1, PR5.out.cells8.2.2.2.2.2.1, PR5.out.cells8.2.2.2.2.2.2.1, PR5.out.cells8.2.2.2.2.2.2.2.1⟩ (fun hS => ?_)
      generalize W6.drew = Wd at *
      refine wpAnyH_take (i := 0) (v := ?_) (by simp only [List.getElem?_toArray, List.getElem?_cons_succ, List.getElem?_cons_zero]; rfl) (by kernel_rfl) (by kernel_rfl) (by kernel_rfl) (fun _ _ _ h => h) (Or.inl ⟨by rfl, ?_⟩) hS ?_
      rotate_left
      · intro w' hSw; (try dsimp only at hSw); go_split_ands; go_simp; (try with_reducible rfl)
      (try simp only [Act.put, List.setIfInBounds_toArray, List.set_cons_zero, List.set_cons_succ])
      refine wpAnyH_take (i := 1) (v := ?_) (by simp only [List.getElem?_toArray, List.getElem?_cons_succ, List.getElem?_cons_zero]; rfl) (by kernel_rfl) (by kernel_rfl) (by kernel_rfl) (fun _ _ _ h => h) (Or.inl ⟨by rfl, ?_⟩) hS ?_
      rotate_left
      · intro w' hSw; (try dsimp only at hSw); go_split_ands; go_simp; (try with_reducible rfl)
      (try simp only [Act.put, List.setIfInBounds_toArray, List.set_cons_zero, List.set_cons_succ])
      refine wpAnyH_take (i := 2) (v := ?_) (by simp only [List.getElem?_toArray, List.getElem?_cons_succ, List.getElem?_cons_zero]; rfl) (by kernel_rfl) (by kernel_rfl) (by kernel_rfl) (fun _ _ _ h => h) (Or.inl ⟨by rfl, ?_⟩) hS ?_
      rotate_left
      · intro w' hSw; (try dsimp only at hSw); go_split_ands; go_simp; (try with_reducible rfl)
      (try simp only [Act.put, List.setIfInBounds_toArray, List.set_cons_zero, List.set_cons_succ])
      refine wpAnyH_take (i := 3) (v := ?_) (by simp only [List.getElem?_toArray, List.getElem?_cons_succ, List.getElem?_cons_zero]; rfl) (by kernel_rfl) (by kernel_rfl) (by kernel_rfl) (fun _ _ _ h => h) (Or.inl ⟨by rfl, ?_⟩) hS ?_
      rotate_left
      · intro w' hSw; (try dsimp only at hSw); go_split_ands; go_simp; (try with_reducible rfl)
      (try simp only [Act.put, List.setIfInBounds_toArray, List.set_cons_zero, List.set_cons_succ])
      refine wpAnyH_take (i := 4) (v := ?_) (by simp only [List.getElem?_toArray, List.getElem?_cons_succ, List.getElem?_cons_zero]; rfl) (by kernel_rfl) (by kernel_rfl) (by kernel_rfl) (fun _ _ _ h => h) (Or.inl ⟨by rfl, ?_⟩) hS ?_
      rotate_left
      · intro w' hSw; (try dsimp only at hSw); go_split_ands; go_simp; (try with_reducible rfl)
      (try simp only [Act.put, List.setIfInBounds_toArray, List.set_cons_zero, List.set_cons_succ])
      refine wpAnyH_take (i := 5) (v := ?_) (by simp only [List.getElem?_toArray, List.getElem?_cons_succ, List.getElem?_cons_zero]; rfl) (by kernel_rfl) (by kernel_rfl) (by kernel_rfl) (fun _ _ _ h => h) (Or.inl ⟨by rfl, ?_⟩) hS ?_
      rotate_left
      · intro w' hSw; (try dsimp only at hSw); go_split_ands; go_simp; (try with_reducible rfl)
      (try simp only [Act.put, List.setIfInBounds_toArray, List.set_cons_zero, List.set_cons_succ])
      refine wpAnyH_take (i := 6) (v := ?_) (by simp only [List.getElem?_toArray, List.getElem?_cons_succ, List.getElem?_cons_zero]; rfl) (by kernel_rfl) (by kernel_rfl) (by kernel_rfl) (fun _ _ _ h => h) (Or.inl ⟨by rfl, ?_⟩) hS ?_
      rotate_left
      · intro w' hSw; (try dsimp only at hSw); go_split_ands; go_simp; (try with_reducible rfl)
      (try simp only [Act.put, List.setIfInBounds_toArray, List.set_cons_zero, List.set_cons_succ])
      refine wpAnyH_take (i := 7) (v := ?_) (by simp only [List.getElem?_toArray, List.getElem?_cons_succ, List.getElem?_cons_zero]; rfl) (by kernel_rfl) (by kernel_rfl) (by kernel_rfl) (fun _ _ _ h => h) (Or.inl ⟨by rfl, ?_⟩) hS ?_
      rotate_left
      · intro w' hSw; (try dsimp only at hSw); go_split_ands; go_simp; (try with_reducible rfl)
      (try simp only [Act.put, List.setIfInBounds_toArray, List.set_cons_zero, List.set_cons_succ])
      refine wpAnyH_take (i := 8) (v := ?_) (by simp only [List.getElem?_toArray, List.getElem?_cons_succ, List.getElem?_cons_zero]; rfl) (by kernel_rfl) (by kernel_rfl) (by kernel_rfl) (fun _ _ _ h => h) (Or.inl ⟨by rfl, ?_⟩) hS ?_
      rotate_left
      · intro w' hSw; (try dsimp only at hSw); go_split_ands; go_simp; (try with_reducible rfl)
      (try simp only [Act.put, List.setIfInBounds_toArray, List.set_cons_zero, List.set_cons_succ])
      refine wpAnyH_take (i := 9) (v := ?_) (by simp only [List.getElem?_toArray, List.getElem?_cons_succ, List.getElem?_cons_zero]; rfl) (by kernel_rfl) (by kernel_rfl) (by kernel_rfl) (fun _ _ _ h => h) (Or.inl ⟨by rfl, ?_⟩) hS ?_
      rotate_left
      · intro w' hSw; (try dsimp only at hSw); go_split_ands; go_simp; (try with_reducible rfl)
      (try simp only [Act.put, List.setIfInBounds_toArray, List.set_cons_zero, List.set_cons_succ])
      refine wpAnyH_take (i := 10) (v := ?_) (by simp only [List.getElem?_toArray, List.getElem?_cons_succ, List.getElem?_cons_zero]; rfl) (by kernel_rfl) (by kernel_rfl) (by kernel_rfl) (fun _ _ _ h => h) (Or.inl ⟨by rfl, ?_⟩) hS ?_
      rotate_left
      · intro w' hSw; (try dsimp only at hSw); go_split_ands; go_simp; (try with_reducible rfl)
      (try simp only [Act.put, List.setIfInBounds_toArray, List.set_cons_zero, List.set_cons_succ])
      refine wpAnyH_ready (rs := [11]) (by kernel_rfl) (by simp) ?_
      refine AllReadyH.cons (by simp only [List.getElem?_toArray, List.getElem?_cons_succ, List.getElem?_cons_zero]; rfl) (fun K hK => ?_) ?_
      · skip
        obtain ⟨y00, y01, y02, yf0⟩ := QM.out.cells3
        go_simp
        clear y00 y01 y02 yf0
        refine named_store3 QM.out ?_
        intro Ws11 hbk hgr hsz
        have hsz0 := hid hsz
        clear hsz
        replace QS := hid (QS.out.grown hgr (by simp <;> omega))
        replace PC5 := hid (PC5.out.grown hgr (by have := hz.out; simp; omega))
        replace PR5 := hid (PR5.out.grown hgr (by have := hz.out; simp; omega))
        replace PM5 := hid (mown_kept PM5.out QM.out tm1 tm2 hgr)
        replace PV5 := hid (PV5.out.keptG hgr (fun v hv e => PV5.out.ne_blk QM.out tm1 v hv (by simpa using e)))
        replace HB := hid (HB.out.grown hgr HB.out.size (fun r e => by cases e; omega))
        replace QM := hid hbk
        clear hbk hgr
        refine hK.out _ _ ⟨PC5.out.cells4.1, PC5.out.cells4.2.1, PC5.out.cells4.2.2.1, PR5.out.cells8.1, PR5.out.cells8.2.1, PR5.out.cells8.2.2.1, PR5.out.cells8.2.2.2.1, PR5.out.cells8.2.2.2.2.1, PR5.out.cells8.2.2.2.2.2.1, PR5.out.cells8.2.2.2.2.2.2.1, PR5.out.cells8.2.2.2.2.2.2.2.1⟩ (fun hS' => ?_)
        clear hK K hS
        have hS := hS'
        clear hS'
        (try simp only [Act.put, List.setIfInBounds_toArray, List.set_cons_zero, List.set_cons_succ])
        refine wpAnyH_ready (rs := [12]) (by kernel_rfl) (by simp) ?_
        refine AllReadyH.cons (by simp only [List.getElem?_toArray, List.getElem?_cons_succ, List.getElem?_cons_zero]; rfl) (fun K hK => ?_) ?_
        · skip
          obtain ⟨y00, y01, y02, y03, y04, y05, y06, yf0⟩ := QS.out.cells7
          go_simp
          clear y00 y01 y02 y03 y04 y05 y06 yf0
          refine named_store_7_7_0 QS.out ?_
          intro Ws12 hbk hgr hsz
          have hsz1 := hid hsz
          clear hsz
          replace QM := hid (QM.out.grown hgr (by simp <;> omega))
          replace PC5 := hid (PC5.out.grown hgr (by have := hz.out; simp; omega))
          replace PR5 := hid (PR5.out.grown hgr (by have := hz.out; simp; omega))
          replace PM5 := hid (mown_kept PM5.out QS.out ts1 ts2 hgr)
          replace PV5 := hid (PV5.out.keptG hgr (fun v hv e => PV5.out.ne_blk QS.out ts1 v hv (by simpa using e)))
          replace HB := hid (HB.out.grown hgr HB.out.size (fun r e => by cases e; omega))
          replace QS := hid hbk
          clear hbk hgr
          refine hK.out _ _ ⟨PC5.out.cells4.1, PC5.out.cells4.2.1, PC5.out.cells4.2.2.1, PR5.out.cells8.1, PR5.out.cells8.2.1, PR5.out.cells8.2.2.1, PR5.out.cells8.2.2.2.1, PR5.out.cells8.2.2.2.2.1, PR5.out.cells8.2.2.2.2.2.1, PR5.out.cells8.2.2.2.2.2.2.1, PR5.out.cells8.2.2.2.2.2.2.2.1⟩ (fun hS' => ?_)
          clear hK K hS
          have hS := hS'
          clear hS'
          (try simp only [Act.put, List.setIfInBounds_toArray, List.set_cons_zero, List.set_cons_succ])
          refine wpAnyH_done (by kernel_rfl) ?_ _
          refine NoPanic.normal ?_
          clear hS
          go_wp2
          obtain ⟨v0, v1, v2, vf⟩ := QM.out.cells3
          obtain ⟨q0, q1, q2, q3, q4, q5, q6, qf⟩ := QS.out.cells7
          refine bodyPost_ret (v := .tuple #[mv A5 n5 c5 B5 k5 d5 m2.2.2, .agg #[.int .i64 s2.a, .int .i64 s2.f, .int .i64 s2.m, .int .i64 5, .int .u64 s2.bg, .slice V5 vn5 vc5, .int .i64 s2.tr]]) (by simp [results, Try.results49, go_sem, v0, v1, v2, q0, q1, q2, q3, q4, q5, q6]) rfl ?_
          rw [HF.out]
          exact ⟨_, _, _, _, _, _, _, _, _, rfl, PM5.out, PV5.out, PF5.out, HB.out⟩
        exact AllReadyH.nil
      exact AllReadyH.nil
  by_cases hp3 : ph = 3
  · subst hp3
    have hru := HRES.out
    rw [if_neg (by decide), if_neg (by decide), if_pos rfl] at hru
    have hlk := run_look_yes (P := Try.prog) Try.underlying105 Try.underlying3 HMP.out 3 (i := 2) (v := .func (.func 63) #[ptr (W1.heap.size + 1)] #[]) rfl
    have eg := enters_of Try.func63 (by kernel_rfl) rfl
    have HRU := hid hru
    clear hru HRES
    obtain ⟨y00, y01, y02, y03, y04, y05, y06, y07, yf0⟩ := PR.out.cells8
    obtain ⟨z0, z1, z2, z3, z4, z5, z6, zf⟩ := PS.out.cells7
    go_wp2_with fail
    clear hlk z0 z1 z2 z3 z4 z5 z6 zf
    clear y00 y01 y02 y03 y04 y05 y06 y07 yf0
    refine (rclose_any (W1.heap.size + 1) W1.heap.size lo (ws, ls, ff) false ⟨a, f, mn, 3, bg, vs, tr⟩ W3 HRM.out HG.out (by have h := HOK.out; exact ⟨h.2.2.2.1, h.2.2.2.2.1⟩)).mono ?_
    rw [← HRU.out]
    rintro e W4 ⟨rfl, hrm, hgp⟩
    dsimp only at hrm
    have hnp : ∀ i, i < W1.heap.size → ¬ (i = W1.heap.size + 1 ∨ i = W1.heap.size) := fun i hi e => by omega
    replace QM := hid (show Blk W4 _ _ _ from (hgp.block _ QM.out.lt (hnp _ (by have := hz.out; omega))).trans QM.out)
    replace QS := hid (show Blk W4 _ _ _ from (hgp.block _ QS.out.lt (hnp _ (by have := hz.out; omega))).trans QS.out)
    replace HB := hid (GrownP.below HB.out hgp (fun i hi => by have := hz.out; omega) HB.out.size)
    clear hnp hgp PM PS PC PR OV HM HRM HMP eg
    obtain ⟨⟨A5, n5, c5, B5, k5, d5, V5, vn5, vc5, h1, h2, h3, h4, h5⟩, h6⟩ := hrm
    have PC5 := hid h1; have PM5 := hid h2; have PR5 := hid h3; have PV5 := hid h4; have PF5 := hid h5
    clear h1 h2 h3 h4 h5 h6
    rcases l2 with _ | _
    · skip
      obtain ⟨y00, y01, y02, y03, y04, y05, y06, y07, yf0⟩ := PR5.out.cells8
      obtain ⟨y10, y11, y12, y13, yf1⟩ := PC5.out.cells4
      go_upto_region 9 with fail
      clear y00 y01 y02 y03 y04 y05 y06 y07 yf0 y10 y11 y12 y13 yf1
      have bx := (Below.refl W4.heap.size W4).drew
      replace PC5 := hid (PC5.out.step bx); replace PM5 := hid (PM5.out.step bx); replace PR5 := hid (PR5.out.step bx); replace PV5 := hid (PV5.out.step bx); replace QM := hid (QM.out.step bx); replace QS := hid (QS.out.step bx); replace HB := hid (below_then HB.out bx)
      clear bx
      have hszd := hid (show W4.drew.heap.size = W4.heap.size from rfl)
      refine wp_region_noPanic ?_
      refine wp_region_held_drew (S := (fun W' : World => W'.cell? ⟨W1.heap.size, 0, none⟩ = some (.slice A5 n5 c5) ∧ W'.cell? ⟨W1.heap.size, 1, none⟩ = some (.slice B5 k5 d5) ∧ W'.cell? ⟨W1.heap.size, 2, none⟩ = some (.bool m2.2.2) ∧ W'.cell? ⟨W1.heap.size + 1, 0, none⟩ = some (.int .i64 s2.a) ∧ W'.cell? ⟨W1.heap.size + 1, 1, none⟩ = some (.int .i64 s2.f) ∧ W'.cell? ⟨W1.heap.size + 1, 2, none⟩ = some (.int .i64 s2.m) ∧ W'.cell? ⟨W1.heap.size + 1, 3, none⟩ = some (.int .i64 s2.ph) ∧ W'.cell? ⟨W1.heap.size + 1, 4, none⟩ = some (.int .u64 s2.bg) ∧ W'.cell? ⟨W1.heap.size + 1, 5, none⟩ = some (.slice V5 vn5 vc5) ∧ W'.cell? ⟨W1.heap.size + 1, 6, none⟩ = some (.int .i64 s2.tr) ∧ W'.cell? ⟨W1.heap.size + 1, 7, none⟩ = some (ptr W1.heap.size))) (by kernel_rfl) ⟨PC5.out.cells4.1, PC5.out.cells4.2.1, PC5.out.cells4.2.2.1, PR5.out.cells8.1, PR5.out.cells8.2.1, PR5.out.cells8.2.2.1, PR5.out.cells8.2.2.2.1, PR5.out.cells8.2.2.2.2.1, PR5.out.cells8.2.2.2.2.2.1, PR5.out.cells8.2.2.2.2.2.2.1, PR5.out.cells8.2.2.2.2.2.2.2.1⟩ (fun hS => ?_)
      generalize W4.drew = Wd at *
      refine wpAnyH_take (i := 0) (v := ?_) (by simp only [List.getElem?_toArray, List.getElem?_cons_succ, List.getElem?_cons_zero]; rfl) (by kernel_rfl) (by kernel_rfl) (by kernel_rfl) (fun _ _ _ h => h) (Or.inl ⟨by rfl, ?_⟩) hS ?_
      rotate_left
      · intro w' hSw; (try dsimp only at hSw); go_split_ands; go_simp; (try with_reducible rfl)
      (try simp only [Act.put, List.setIfInBounds_toArray, List.set_cons_zero, List.set_cons_succ])
      refine wpAnyH_take (i := 1) (v := ?_) (by simp only [List.getElem?_toArray, List.getElem?_cons_succ, List.getElem?_cons_zero]; rfl) (by kernel_rfl) (by kernel_rfl) (by kernel_rfl) (fun _ _ _ h => h) (Or.inl ⟨by rfl, ?_⟩) hS ?_
      rotate_left
      · intro w' hSw; (try dsimp only at hSw); go_split_ands; go_simp; (try with_reducible rfl)
      (try simp only [Act.put, List.setIfInBounds_toArray, List.set_cons_zero, List.set_cons_succ])
      refine wpAnyH_take (i := 2) (v := ?_) (by simp only [List.getElem?_toArray, List.getElem?_cons_succ, List.getElem?_cons_zero]; rfl) (by kernel_rfl) (by kernel_rfl) (by kernel_rfl) (fun _ _ _ h => h) (Or.inl ⟨by rfl, ?_⟩) hS ?_
      rotate_left
      · intro w' hSw; (try dsimp only at hSw); go_split_ands; go_simp; (try with_reducible rfl)
      (try simp only [Act.put, List.setIfInBounds_toArray, List.set_cons_zero, List.set_cons_succ])
      refine wpAnyH_take (i := 3) (v := ?_) (by simp only [List.getElem?_toArray, List.getElem?_cons_succ, List.getElem?_cons_zero]; rfl) (by kernel_rfl) (by kernel_rfl) (by kernel_rfl) (fun _ _ _ h => h) (Or.inl ⟨by rfl, ?_⟩) hS ?_
      rotate_left
      · intro w' hSw; (try dsimp only at hSw); go_split_ands; go_simp; (try with_reducible rfl)
      (try simp only [Act.put, List.setIfInBounds_toArray, List.set_cons_zero, List.set_cons_succ])
      refine wpAnyH_take (i := 4) (v := ?_) (by simp only [List.getElem?_toArray, List.getElem?_cons_succ, List.getElem?_cons_zero]; rfl) (by kernel_rfl) (by kernel_rfl) (by kernel_rfl) (fun _ _ _ h => h) (Or.inl ⟨by rfl, ?_⟩) hS ?_
      rotate_left
      · intro w' hSw; (try dsimp only at hSw); go_split_ands; go_simp; (try with_reducible rfl)
      (try simp only [Act.put, List.setIfInBounds_toArray, List.set_cons_zero, List.set_cons_succ])
      refine wpAnyH_take (i := 5) (v := ?_) (by simp only [List.getElem?_toArray, List.getElem?_cons_succ, List.getElem?_cons_zero]; rfl) (by kernel_rfl) (by kernel_rfl) (by kernel_rfl) (fun _ _ _ h => h) (Or.inl ⟨by rfl, ?_⟩) hS ?_
      rotate_left
      · intro w' hSw; (try dsimp only at hSw); go_split_ands; go_simp; (try with_reducible rfl)
      (try simp only [Act.put, List.setIfInBounds_toArray, List.set_cons_zero, List.set_cons_succ])
      refine wpAnyH_take (i := 6) (v := ?_) (by simp only [List.getElem?_toArray, List.getElem?_cons_succ, List.getElem?_cons_zero]; rfl) (by kernel_rfl) (by kernel_rfl) (by kernel_rfl) (fun _ _ _ h => h) (Or.inl ⟨by rfl, ?_⟩) hS ?_
      rotate_left
      · intro w' hSw; (try dsimp only at hSw); go_split_ands; go_simp; (try with_reducible rfl)
      (try simp only [Act.put, List.setIfInBounds_toArray, List.set_cons_zero, List.set_cons_succ])
      refine wpAnyH_take (i := 7) (v := ?_) (by simp only [List.getElem?_toArray, List.getElem?_cons_succ, List.getElem?_cons_zero]; rfl) (by kernel_rfl) (by kernel_rfl) (by kernel_rfl) (fun _ _ _ h => h) (Or.inl ⟨by rfl, ?_⟩) hS ?_
      rotate_left
      · intro w' hSw; (try dsimp only at hSw); go_split_ands; go_simp; (try with_reducible rfl)
      (try simp only [Act.put, List.setIfInBounds_toArray, List.set_cons_zero, List.set_cons_succ])
      refine wpAnyH_take (i := 8) (v := ?_) (by simp only [List.getElem?_toArray, List.getElem?_cons_succ, List.getElem?_cons_zero]; rfl) (by kernel_rfl) (by kernel_rfl) (by kernel_rfl) (fun _ _ _ h => h) (Or.inl ⟨by rfl, ?_⟩) hS ?_
      rotate_left
      · intro w' hSw; (try dsimp only at hSw); go_split_ands; go_simp; (try with_reducible rfl)
      (try simp only [Act.put, List.setIfInBounds_toArray, List.set_cons_zero, List.set_cons_succ])
      refine wpAnyH_take (i := 9) (v := ?_) (by simp only [List.getElem?_toArray, List.getElem?_cons_succ, List.getElem?_cons_zero]; rfl) (by kernel_rfl) (by kernel_rfl) (by kernel_rfl) (fun _ _ _ h => h) (Or.inl ⟨by rfl, ?_⟩) hS ?_
      rotate_left
      · intro w' hSw; (try dsimp only at hSw); go_split_ands; go_simp; (try with_reducible rfl)
      (try simp only [Act.put, List.setIfInBounds_toArray, List.set_cons_zero, List.set_cons_succ])
      refine wpAnyH_take (i := 10) (v := ?_) (by simp only [List.getElem?_toArray, List.getElem?_cons_succ, List.getElem?_cons_zero]; rfl) (by kernel_rfl) (by kernel_rfl) (by kernel_rfl) (fun _ _ _ h => h) (Or.inl ⟨by rfl, ?_⟩) hS ?_
      rotate_left
      · intro w' hSw; (try dsimp only at hSw); go_split_ands; go_simp; (try with_reducible rfl)
      (try simp only [Act.put, List.setIfInBounds_toArray, List.set_cons_zero, List.set_cons_succ])
      refine wpAnyH_ready (rs := [11]) (by kernel_rfl) (by simp) ?_
      refine AllReadyH.cons (by simp only [List.getElem?_toArray, List.getElem?_cons_succ, List.getElem?_cons_zero]; rfl) (fun K hK => ?_) ?_
      · skip
        obtain ⟨y00, y01, y02, yf0⟩ := QM.out.cells3
        go_simp
        clear y00 y01 y02 yf0
        refine named_store3 QM.out ?_
        intro Ws11 hbk hgr hsz
        have hsz0 := hid hsz
        clear hsz
        replace QS := hid (QS.out.grown hgr (by simp <;> omega))
        replace PC5 := hid (PC5.out.grown hgr (by have := hz.out; simp; omega))
        replace PR5 := hid (PR5.out.grown hgr (by have := hz.out; simp; omega))
        replace PM5 := hid (mown_kept PM5.out QM.out tm1 tm2 hgr)
        replace PV5 := hid (PV5.out.keptG hgr (fun v hv e => PV5.out.ne_blk QM.out tm1 v hv (by simpa using e)))
        replace HB := hid (HB.out.grown hgr HB.out.size (fun r e => by cases e; omega))
        replace QM := hid hbk
        clear hbk hgr
        refine hK.out _ _ ⟨PC5.out.cells4.1, PC5.out.cells4.2.1, PC5.out.cells4.2.2.1, PR5.out.cells8.1, PR5.out.cells8.2.1, PR5.out.cells8.2.2.1, PR5.out.cells8.2.2.2.1, PR5.out.cells8.2.2.2.2.1, PR5.out.cells8.2.2.2.2.2.1, PR5.out.cells8.2.2.2.2.2.2.1, PR5.out.cells8.2.2.2.2.2.2.2.1⟩ (fun hS' => ?_)
        clear hK K hS
        have hS := hS'
        clear hS'
        (try simp only [Act.put, List.setIfInBounds_toArray, List.set_cons_zero, List.set_cons_succ])
        refine wpAnyH_ready (rs := [12]) (by kernel_rfl) (by simp) ?_
        refine AllReadyH.cons (by simp only [List.getElem?_toArray, List.getElem?_cons_succ, List.getElem?_cons_zero]; rfl) (fun K hK => ?_) ?_
        · skip
          obtain ⟨y00, y01, y02, y03, y04, y05, y06, yf0⟩ := QS.out.cells7
          go_simp
          clear y00 y01 y02 y03 y04 y05 y06 yf0
          refine named_store_7_7_0 QS.out ?_
          intro Ws12 hbk hgr hsz
          have hsz1 := hid hsz
          clear hsz
          replace QM := hid (QM.out.grown hgr (by simp <;> omega))
          replace PC5 := hid (PC5.out.grown hgr (by have := hz.out; simp; omega))
          replace PR5 := hid (PR5.out.grown hgr (by have := hz.out; simp; omega))
          replace PM5 := hid (mown_kept PM5.out QS.out ts1 ts2 hgr)
          replace PV5 := hid (PV5.out.keptG hgr (fun v hv e => PV5.out.ne_blk QS.out ts1 v hv (by simpa using e)))
          replace HB := hid (HB.out.grown hgr HB.out.size (fun r e => by cases e; omega))
          replace QS := hid hbk
          clear hbk hgr
          refine hK.out _ _ ⟨PC5.out.cells4.1, PC5.out.cells4.2.1, PC5.out.cells4.2.2.1, PR5.out.cells8.1, PR5.out.cells8.2.1, PR5.out.cells8.2.2.1, PR5.out.cells8.2.2.2.1, PR5.out.cells8.2.2.2.2.1, PR5.out.cells8.2.2.2.2.2.1, PR5.out.cells8.2.2.2.2.2.2.1, PR5.out.cells8.2.2.2.2.2.2.2.1⟩ (fun hS' => ?_)
          clear hK K hS
          have hS := hS'
          clear hS'
          (try simp only [Act.put, List.setIfInBounds_toArray, List.set_cons_zero, List.set_cons_succ])
          refine wpAnyH_done (by kernel_rfl) ?_ _
          refine NoPanic.normal ?_
          clear hS
          go_wp2
          obtain ⟨v0, v1, v2, vf⟩ := QM.out.cells3
          obtain ⟨q0, q1, q2, q3, q4, q5, q6, qf⟩ := QS.out.cells7
          refine bodyPost_ret (v := .tuple #[mv A5 n5 c5 B5 k5 d5 m2.2.2, .agg #[.int .i64 s2.a, .int .i64 s2.f, .int .i64 s2.m, .int .i64 s2.ph, .int .u64 s2.bg, .slice V5 vn5 vc5, .int .i64 s2.tr]]) (by simp [results, Try.results49, go_sem, v0, v1, v2, q0, q1, q2, q3, q4, q5, q6]) rfl ?_
          rw [HF.out]
          exact ⟨_, _, _, _, _, _, _, _, _, rfl, PM5.out, PV5.out, PF5.out, HB.out⟩
        exact AllReadyH.nil
      exact AllReadyH.nil
    · skip
      obtain ⟨y00, y01, y02, y03, y04, y05, y06, y07, yf0⟩ := PR5.out.cells8
      obtain ⟨y10, y11, y12, y13, yf1⟩ := PC5.out.cells4
      go_upto_region 9 with fail
      clear y00 y01 y02 y03 y04 y05 y06 y07 yf0 y10 y11 y12 y13 yf1
      have PR0 := PR5
      have hbk0 : Blk (W4.setCell ⟨W1.heap.size + 1, 3, none⟩ (.int .i64 5)) (W1.heap.size + 1) 104 #[.int .i64 s2.a, .int .i64 s2.f, .int .i64 s2.m, .int .i64 5, .int .u64 s2.bg, .slice V5 vn5 vc5, .int .i64 s2.tr, ptr W1.heap.size] := PR5.out.setCell 3 (.int .i64 5)
      have hgr : W4.grownBy (W4.setCell ⟨W1.heap.size + 1, 3, none⟩ (.int .i64 5)) (some (W1.heap.size + 1)) := (grown_set (World.grownBy.refl W4 (some (W1.heap.size + 1))) 3 (.int .i64 5))
      replace PR5 := hid hbk0
      clear hbk0
      generalize W4.setCell ⟨W1.heap.size + 1, 3, none⟩ (.int .i64 5) = W6 at *
      replace PC5 := hid (PC5.out.grown hgr (by simp <;> omega))
      replace PM5 := hid (mown_kept PM5.out PR0.out tr1 tr2 hgr)
      replace PV5 := hid (PV5.out.keptG hgr (fun v hv e => PV5.out.ne_blk PR0.out tr1 v hv (by simpa using e)))
      replace QM := hid (QM.out.grown hgr (by have := hz.out; simp; omega))
      replace QS := hid (QS.out.grown hgr (by have := hz.out; simp; omega))
      replace HB := hid (HB.out.grown hgr HB.out.size (fun r e => by cases e; have := hz.out; omega))
      clear hgr PR0
      have bx := (Below.refl W6.heap.size W6).drew
      replace PC5 := hid (PC5.out.step bx); replace PM5 := hid (PM5.out.step bx); replace PR5 := hid (PR5.out.step bx); replace PV5 := hid (PV5.out.step bx); replace QM := hid (QM.out.step bx); replace QS := hid (QS.out.step bx); replace HB := hid (below_then HB.out bx)
      clear bx
      have hszd := hid (show W6.drew.heap.size = W6.heap.size from rfl)
      refine wp_region_noPanic ?_
      refine wp_region_held_drew (S := (fun W' : World => W'.cell? ⟨W1.heap.size, 0, none⟩ = some (.slice A5 n5 c5) ∧ W'.cell? ⟨W1.heap.size, 1, none⟩ = some (.slice B5 k5 d5) ∧ W'.cell? ⟨W1.heap.size, 2, none⟩ = some (.bool m2.2.2) ∧ W'.cell? ⟨W1.heap.size + 1, 0, none⟩ = some (.int .i64 s2.a) ∧ W'.cell? ⟨W1.heap.size + 1, 1, none⟩ = some (.int .i64 s2.f) ∧ W'.cell? ⟨W1.heap.size + 1, 2, none⟩ = some (.int .i64 s2.m) ∧ W'.cell? ⟨W1.heap.size + 1, 3, none⟩ = some (.int .i64 5) ∧ W'.cell? ⟨W1.heap.size + 1, 4, none⟩ = some (.int .u64 s2.bg) ∧ W'.cell? ⟨W1.heap.size + 1, 5, none⟩ = some (.slice V5 vn5 vc5) ∧ W'.cell? ⟨W1.heap.size + 1, 6, none⟩ = some (.int .i64 s2.tr) ∧ W'.cell? ⟨W1.heap.size + 1, 7, none⟩ = some (ptr W1.heap.size))) (by kernel_rfl) ⟨PC5.out.cells4.1, PC5.out.cells4.2.1, PC5.out.cells4.2.2.1, PR5.out.cells8.1, PR5.out.cells8.2.1, PR5.out.cells8.2.2.1, PR5.out.cells8.2.2.2.1, PR5.out.cells8.2.2.2.2.1, PR5.out.cells8.2.2.2.2.2.1, PR5.out.cells8.2.2.2.2.2.2.1, PR5.out.cells8.2.2.2.2.2.2.2.1⟩ (fun hS => ?_)
      generalize W6.drew = Wd at *
      refine wpAnyH_take (i := 0) (v := ?_) (by simp only [List.getElem?_toArray, List.getElem?_cons_succ, List.getElem?_cons_zero]; rfl) (by kernel_rfl) (by kernel_rfl) (by kernel_rfl) (fun _ _ _ h => h) (Or.inl ⟨by rfl, ?_⟩) hS ?_
      rotate_left
      · intro w' hSw; (try dsimp only at hSw); go_split_ands; go_simp; (try with_reducible rfl)
      (try simp only [Act.put, List.setIfInBounds_toArray, List.set_cons_zero, List.set_cons_succ])
      refine wpAnyH_take (i := 1) (v := ?_) (by simp only [List.getElem?_toArray, List.getElem?_cons_succ, List.getElem?_cons_zero]; rfl) (by kernel_rfl) (by kernel_rfl) (by kernel_rfl) (fun _ _ _ h => h) (Or.inl ⟨by rfl, ?_⟩) hS ?_
      rotate_left
      · intro w' hSw; (try dsimp only at hSw); go_split_ands; go_simp; (try with_reducible rfl)
      (try simp only [Act.put, List.setIfInBounds_toArray, List.set_cons_zero, List.set_cons_succ])
      refine wpAnyH_take (i := 2) (v := ?_) (by simp only [List.getElem?_toArray, List.getElem?_cons_succ, List.getElem?_cons_zero]; rfl) (by kernel_rfl) (by kernel_rfl) (by kernel_rfl) (fun _ _ _ h => h) (Or.inl ⟨by rfl, ?_⟩) hS ?_
      rotate_left
      · intro w' hSw; (try dsimp only at hSw); go_split_ands; go_simp; (try with_reducible rfl)
      (try simp only [Act.put, List.setIfInBounds_toArray, List.set_cons_zero, List.set_cons_succ])
      refine wpAnyH_take (i := 3) (v := ?_) (by simp only [List.getElem?_toArray, List.getElem?_cons_succ, List.getElem?_cons_zero]; rfl) (by kernel_rfl) (by kernel_rfl) (by kernel_rfl) (fun _ _ _ h => h) (Or.inl ⟨by rfl, ?_⟩) hS ?_
      rotate_left
      · intro w' hSw; (try dsimp only at hSw); go_split_ands; go_simp; (try with_reducible rfl)
      (try simp only [Act.put, List.setIfInBounds_toArray, List.set_cons_zero, List.set_cons_succ])
      refine wpAnyH_take (i := 4) (v := ?_) (by simp only [List.getElem?_toArray, List.getElem?_cons_succ, List.getElem?_cons_zero]; rfl) (by kernel_rfl) (by kernel_rfl) (by kernel_rfl) (fun _ _ _ h => h) (Or.inl ⟨by rfl, ?_⟩) hS ?_
      rotate_left
      · intro w' hSw; (try dsimp only at hSw); go_split_ands; go_simp; (try with_reducible rfl)
      (try simp only [Act.put, List.setIfInBounds_toArray, List.set_cons_zero, List.set_cons_succ])
      refine wpAnyH_take (i := 5) (v := ?_) (by simp only [List.getElem?_toArray, List.getElem?_cons_succ, List.getElem?_cons_zero]; rfl) (by kernel_rfl) (by kernel_rfl) (by kernel_rfl) (fun _ _ _ h => h) (Or.inl ⟨by rfl, ?_⟩) hS ?_
      rotate_left
      · intro w' hSw; (try dsimp only at hSw); go_split_ands; go_simp; (try with_reducible rfl)
      (try simp only [Act.put, List.setIfInBounds_toArray, List.set_cons_zero, List.set_cons_succ])
      refine wpAnyH_take (i := 6) (v := ?_) (by simp only [List.getElem?_toArray, List.getElem?_cons_succ, List.getElem?_cons_zero]; rfl) (by kernel_rfl) (by kernel_rfl) (by kernel_rfl) (fun _ _ _ h => h) (Or.inl ⟨by rfl, ?_⟩) hS ?_
      rotate_left
      · intro w' hSw; (try dsimp only at hSw); go_split_ands; go_simp; (try with_reducible rfl)
      (try simp only [Act.put, List.setIfInBounds_toArray, List.set_cons_zero, List.set_cons_succ])
      refine wpAnyH_take (i := 7) (v := ?_) (by simp only [List.getElem?_toArray, List.getElem?_cons_succ, List.getElem?_cons_zero]; rfl) (by kernel_rfl) (by kernel_rfl) (by kernel_rfl) (fun _ _ _ h => h) (Or.inl ⟨by rfl, ?_⟩) hS ?_
      rotate_left
      · intro w' hSw; (try dsimp only at hSw); go_split_ands; go_simp; (try with_reducible rfl)
      (try simp only [Act.put, List.setIfInBounds_toArray, List.set_cons_zero, List.set_cons_succ])
      refine wpAnyH_take (i := 8) (v := ?_) (by simp only [List.getElem?_toArray, List.getElem?_cons_succ, List.getElem?_cons_zero]; rfl) (by kernel_rfl) (by kernel_rfl) (by kernel_rfl) (fun _ _ _ h => h) (Or.inl ⟨by rfl, ?_⟩) hS ?_
      rotate_left
      · intro w' hSw; (try dsimp only at hSw); go_split_ands; go_simp; (try with_reducible rfl)
      (try simp only [Act.put, List.setIfInBounds_toArray, List.set_cons_zero, List.set_cons_succ])
      refine wpAnyH_take (i := 9) (v := ?_) (by simp only [List.getElem?_toArray, List.getElem?_cons_succ, List.getElem?_cons_zero]; rfl) (by kernel_rfl) (by kernel_rfl) (by kernel_rfl) (fun _ _ _ h => h) (Or.inl ⟨by rfl, ?_⟩) hS ?_
      rotate_left
      · intro w' hSw; (try dsimp only at hSw); go_split_ands; go_simp; (try with_reducible rfl)
      (try simp only [Act.put, List.setIfInBounds_toArray, List.set_cons_zero, List.set_cons_succ])
      refine wpAnyH_take (i := 10) (v := ?_) (by simp only [List.getElem?_toArray, List.getElem?_cons_succ, List.getElem?_cons_zero]; rfl) (by kernel_rfl) (by kernel_rfl) (by kernel_rfl) (fun _ _ _ h => h) (Or.inl ⟨by rfl, ?_⟩) hS ?_
      rotate_left
      · intro w' hSw; (try dsimp only at hSw); go_split_ands; go_simp; (try with_reducible rfl)
      (try simp only [Act.put, List.setIfInBounds_toArray, List.set_cons_zero, List.set_cons_succ])
      refine wpAnyH_ready (rs := [11]) (by kernel_rfl) (by simp) ?_
      refine AllReadyH.cons (by simp only [List.getElem?_toArray, List.getElem?_cons_succ, List.getElem?_cons_zero]; rfl) (fun K hK => ?_) ?_
      · skip
        obtain ⟨y00, y01, y02, yf0⟩ := QM.out.cells3
        go_simp
        clear y00 y01 y02 yf0
        refine named_store3 QM.out ?_
        intro Ws11 hbk hgr hsz
        have hsz0 := hid hsz
        clear hsz
        replace QS := hid (QS.out.grown hgr (by simp <;> omega))
        replace PC5 := hid (PC5.out.grown hgr (by have := hz.out; simp; omega))
        replace PR5 := hid (PR5.out.grown hgr (by have := hz.out; simp; omega))
        replace PM5 := hid (mown_kept PM5.out QM.out tm1 tm2 hgr)
        replace PV5 := hid (PV5.out.keptG hgr (fun v hv e => PV5.out.ne_blk QM.out tm1 v hv (by simpa using e)))
        replace HB := hid (HB.out.grown hgr HB.out.size (fun r e => by cases e; omega))
        replace QM := hid hbk
        clear hbk hgr
        refine hK.out _ _ ⟨PC5.out.cells4.1, PC5.out.cells4.2.1, PC5.out.cells4.2.2.1, PR5.out.cells8.1, PR5.out.cells8.2.1, PR5.out.cells8.2.2.1, PR5.out.cells8.2.2.2.1, PR5.out.cells8.2.2.2.2.1, PR5.out.cells8.2.2.2.2.2.1, PR5.out.cells8.2.2.2.2.2.2.1, PR5.out.cells8.2.2.2.2.2.2.2.1⟩ (fun hS' => ?_)
        clear hK K hS
        have hS := hS'
        clear hS'
        (try simp only [Act.put, List.setIfInBounds_toArray, List.set_cons_zero, List.set_cons_succ])
        refine wpAnyH_ready (rs := [12]) (by kernel_rfl) (by simp) ?_
        refine AllReadyH.cons (by simp only [List.getElem?_toArray, List.getElem?_cons_succ, List.getElem?_cons_zero]; rfl) (fun K hK => ?_) ?_
        · skip
          obtain ⟨y00, y01, y02, y03, y04, y05, y06, yf0⟩ := QS.out.cells7
          go_simp
          clear y00 y01 y02 y03 y04 y05 y06 yf0
          refine named_store_7_7_0 QS.out ?_
          intro Ws12 hbk hgr hsz
          have hsz1 := hid hsz
          clear hsz
          replace QM := hid (QM.out.grown hgr (by simp <;> omega))
          replace PC5 := hid (PC5.out.grown hgr (by have := hz.out; simp; omega))
          replace PR5 := hid (PR5.out.grown hgr (by have := hz.out; simp; omega))
          replace PM5 := hid (mown_kept PM5.out QS.out ts1 ts2 hgr)
          replace PV5 := hid (PV5.out.keptG hgr (fun v hv e => PV5.out.ne_blk QS.out ts1 v hv (by simpa using e)))
          replace HB := hid (HB.out.grown hgr HB.out.size (fun r e => by cases e; omega))
          replace QS := hid hbk
          clear hbk hgr
          refine hK.out _ _ ⟨PC5.out.cells4.1, PC5.out.cells4.2.1, PC5.out.cells4.2.2.1, PR5.out.cells8.1, PR5.out.cells8.2.1, PR5.out.cells8.2.2.1, PR5.out.cells8.2.2.2.1, PR5.out.cells8.2.2.2.2.1, PR5.out.cells8.2.2.2.2.2.1, PR5.out.cells8.2.2.2.2.2.2.1, PR5.out.cells8.2.2.2.2.2.2.2.1⟩ (fun hS' => ?_)
          clear hK K hS
          have hS := hS'
          clear hS'
          (try simp only [Act.put, List.setIfInBounds_toArray, List.set_cons_zero, List.set_cons_succ])
          refine wpAnyH_done (by kernel_rfl) ?_ _
          refine NoPanic.normal ?_
          clear hS
          go_wp2
          obtain ⟨v0, v1, v2, vf⟩ := QM.out.cells3
          obtain ⟨q0, q1, q2, q3, q4, q5, q6, qf⟩ := QS.out.cells7
          refine bodyPost_ret (v := .tuple #[mv A5 n5 c5 B5 k5 d5 m2.2.2, .agg #[.int .i64 s2.a, .int .i64 s2.f, .int .i64 s2.m, .int .i64 5, .int .u64 s2.bg, .slice V5 vn5 vc5, .int .i64 s2.tr]]) (by simp [results, Try.results49, go_sem, v0, v1, v2, q0, q1, q2, q3, q4, q5, q6]) rfl ?_
          rw [HF.out]
          exact ⟨_, _, _, _, _, _, _, _, _, rfl, PM5.out, PV5.out, PF5.out, HB.out⟩
        exact AllReadyH.nil
      exact AllReadyH.nil
  have hru := HRES.out
  rw [if_neg hp0, if_neg hp2, if_neg hp3] at hru
  simp only [Prod.mk.injEq] at hru
  obtain ⟨rfl, rfl, rfl⟩ := hru
  have hlk := run_look_no (P := Try.prog) Try.underlying105 Try.underlying3 HMP.out ph (zfn _) (by show Instr.findNow _ _ [_, _, _] 0 = _; rw [find_ne hp0, find_ne hp2, find_ne hp3]; rfl)
  have hrm := HRM.out
  clear HRES
  clear hp0 hp2 hp3
  obtain ⟨z0, z1, z2, z3, z4, z5, z6, zf⟩ := PS.out.cells7
  go_upto_region 7 with fail
  clear hlk z0 z1 z2 z3 z4 z5 z6 zf PM PS PC PR OV HM HRM HMP
  obtain ⟨⟨A5, n5, c5, B5, k5, d5, V5, vn5, vc5, h1, h2, h3, h4, h5⟩, h6⟩ := hrm
  have PC5 := hid h1; have PM5 := hid h2; have PR5 := hid h3; have PV5 := hid h4; have PF5 := hid h5
  clear h1 h2 h3 h4 h5 h6
  obtain ⟨y00, y01, y02, y03, y04, y05, y06, y07, yf0⟩ := PR5.out.cells8
  obtain ⟨y10, y11, y12, y13, yf1⟩ := PC5.out.cells4
  go_upto_region 9 with fail
  clear y00 y01 y02 y03 y04 y05 y06 y07 yf0 y10 y11 y12 y13 yf1
  have bx := (Below.refl W3.heap.size W3).drew
  replace PC5 := hid (PC5.out.step bx); replace PM5 := hid (PM5.out.step bx); replace PR5 := hid (PR5.out.step bx); replace PV5 := hid (PV5.out.step bx); replace QM := hid (QM.out.step bx); replace QS := hid (QS.out.step bx); replace HB := hid (below_then HB.out bx)
  clear bx
  have hszd := hid (show W3.drew.heap.size = W3.heap.size from rfl)
  refine wp_region_noPanic ?_
  refine wp_region_held_drew (S := (fun W' : World => W'.cell? ⟨W1.heap.size, 0, none⟩ = some (.slice A5 n5 c5) ∧ W'.cell? ⟨W1.heap.size, 1, none⟩ = some (.slice B5 k5 d5) ∧ W'.cell? ⟨W1.heap.size, 2, none⟩ = some (.bool ff) ∧ W'.cell? ⟨W1.heap.size + 1, 0, none⟩ = some (.int .i64 a) ∧ W'.cell? ⟨W1.heap.size + 1, 1, none⟩ = some (.int .i64 f) ∧ W'.cell? ⟨W1.heap.size + 1, 2, none⟩ = some (.int .i64 mn) ∧ W'.cell? ⟨W1.heap.size + 1, 3, none⟩ = some (.int .i64 ph) ∧ W'.cell? ⟨W1.heap.size + 1, 4, none⟩ = some (.int .u64 bg) ∧ W'.cell? ⟨W1.heap.size + 1, 5, none⟩ = some (.slice V5 vn5 vc5) ∧ W'.cell? ⟨W1.heap.size + 1, 6, none⟩ = some (.int .i64 tr) ∧ W'.cell? ⟨W1.heap.size + 1, 7, none⟩ = some (ptr W1.heap.size))) (by kernel_rfl) ⟨PC5.out.cells4.1, PC5.out.cells4.2.1, PC5.out.cells4.2.2.1, PR5.out.cells8.1, PR5.out.cells8.2.1, PR5.out.cells8.2.2.1, PR5.out.cells8.2.2.2.1, PR5.out.cells8.2.2.2.2.1, PR5.out.cells8.2.2.2.2.2.1, PR5.out.cells8.2.2.2.2.2.2.1, PR5.out.cells8.2.2.2.2.2.2.2.1⟩ (fun hS => ?_)
  generalize W3.drew = Wd at *
  refine wpAnyH_take (i := 0) (v := ?_) (by simp only [List.getElem?_toArray, List.getElem?_cons_succ, List.getElem?_cons_zero]; rfl) (by kernel_rfl) (by kernel_rfl) (by kernel_rfl) (fun _ _ _ h => h) (Or.inl ⟨by rfl, ?_⟩) hS ?_
  rotate_left
  · intro w' hSw; (try dsimp only at hSw); go_split_ands; go_simp; (try with_reducible rfl)
  (try simp only [Act.put, List.setIfInBounds_toArray, List.set_cons_zero, List.set_cons_succ])
  refine wpAnyH_take (i := 1) (v := ?_) (by simp only [List.getElem?_toArray, List.getElem?_cons_succ, List.getElem?_cons_zero]; rfl) (by kernel_rfl) (by kernel_rfl) (by kernel_rfl) (fun _ _ _ h => h) (Or.inl ⟨by rfl, ?_⟩) hS ?_
  rotate_left
  · intro w' hSw; (try dsimp only at hSw); go_split_ands; go_simp; (try with_reducible rfl)
  (try simp only [Act.put, List.setIfInBounds_toArray, List.set_cons_zero, List.set_cons_succ])
  refine wpAnyH_take (i := 2) (v := ?_) (by simp only [List.getElem?_toArray, List.getElem?_cons_succ, List.getElem?_cons_zero]; rfl) (by kernel_rfl) (by kernel_rfl) (by kernel_rfl) (fun _ _ _ h => h) (Or.inl ⟨by rfl, ?_⟩) hS ?_
  rotate_left
  · intro w' hSw; (try dsimp only at hSw); go_split_ands; go_simp; (try with_reducible rfl)
  (try simp only [Act.put, List.setIfInBounds_toArray, List.set_cons_zero, List.set_cons_succ])
  refine wpAnyH_take (i := 3) (v := ?_) (by simp only [List.getElem?_toArray, List.getElem?_cons_succ, List.getElem?_cons_zero]; rfl) (by kernel_rfl) (by kernel_rfl) (by kernel_rfl) (fun _ _ _ h => h) (Or.inl ⟨by rfl, ?_⟩) hS ?_
  rotate_left
  · intro w' hSw; (try dsimp only at hSw); go_split_ands; go_simp; (try with_reducible rfl)
  (try simp only [Act.put, List.setIfInBounds_toArray, List.set_cons_zero, List.set_cons_succ])
  refine wpAnyH_take (i := 4) (v := ?_) (by simp only [List.getElem?_toArray, List.getElem?_cons_succ, List.getElem?_cons_zero]; rfl) (by kernel_rfl) (by kernel_rfl) (by kernel_rfl) (fun _ _ _ h => h) (Or.inl ⟨by rfl, ?_⟩) hS ?_
  rotate_left
  · intro w' hSw; (try dsimp only at hSw); go_split_ands; go_simp; (try with_reducible rfl)
  (try simp only [Act.put, List.setIfInBounds_toArray, List.set_cons_zero, List.set_cons_succ])
  refine wpAnyH_take (i := 5) (v := ?_) (by simp only [List.getElem?_toArray, List.getElem?_cons_succ, List.getElem?_cons_zero]; rfl) (by kernel_rfl) (by kernel_rfl) (by kernel_rfl) (fun _ _ _ h => h) (Or.inl ⟨by rfl, ?_⟩) hS ?_
  rotate_left
  · intro w' hSw; (try dsimp only at hSw); go_split_ands; go_simp; (try with_reducible rfl)
  (try simp only [Act.put, List.setIfInBounds_toArray, List.set_cons_zero, List.set_cons_succ])
  refine wpAnyH_take (i := 6) (v := ?_) (by simp only [List.getElem?_toArray, List.getElem?_cons_succ, List.getElem?_cons_zero]; rfl) (by kernel_rfl) (by kernel_rfl) (by kernel_rfl) (fun _ _ _ h => h) (Or.inl ⟨by rfl, ?_⟩) hS ?_
  rotate_left
  · intro w' hSw; (try dsimp only at hSw); go_split_ands; go_simp; (try with_reducible rfl)
  (try simp only [Act.put, List.setIfInBounds_toArray, List.set_cons_zero, List.set_cons_succ])
  refine wpAnyH_take (i := 7) (v := ?_) (by simp only [List.getElem?_toArray, List.getElem?_cons_succ, List.getElem?_cons_zero]; rfl) (by kernel_rfl) (by kernel_rfl) (by kernel_rfl) (fun _ _ _ h => h) (Or.inl ⟨by rfl, ?_⟩) hS ?_
  rotate_left
  · intro w' hSw; (try dsimp only at hSw); go_split_ands; go_simp; (try with_reducible rfl)
  (try simp only [Act.put, List.setIfInBounds_toArray, List.set_cons_zero, List.set_cons_succ])
  refine wpAnyH_take (i := 8) (v := ?_) (by simp only [List.getElem?_toArray, List.getElem?_cons_succ, List.getElem?_cons_zero]; rfl) (by kernel_rfl) (by kernel_rfl) (by kernel_rfl) (fun _ _ _ h => h) (Or.inl ⟨by rfl, ?_⟩) hS ?_
  rotate_left
  · intro w' hSw; (try dsimp only at hSw); go_split_ands; go_simp; (try with_reducible rfl)
  (try simp only [Act.put, List.setIfInBounds_toArray, List.set_cons_zero, List.set_cons_succ])
  refine wpAnyH_take (i := 9) (v := ?_) (by simp only [List.getElem?_toArray, List.getElem?_cons_succ, List.getElem?_cons_zero]; rfl) (by kernel_rfl) (by kernel_rfl) (by kernel_rfl) (fun _ _ _ h => h) (Or.inl ⟨by rfl, ?_⟩) hS ?_
  rotate_left
  · intro w' hSw; (try dsimp only at hSw); go_split_ands; go_simp; (try with_reducible rfl)
  (try simp only [Act.put, List.setIfInBounds_toArray, List.set_cons_zero, List.set_cons_succ])
  refine wpAnyH_take (i := 10) (v := ?_) (by simp only [List.getElem?_toArray, List.getElem?_cons_succ, List.getElem?_cons_zero]; rfl) (by kernel_rfl) (by kernel_rfl) (by kernel_rfl) (fun _ _ _ h => h) (Or.inl ⟨by rfl, ?_⟩) hS ?_
  rotate_left
  · intro w' hSw; (try dsimp only at hSw); go_split_ands; go_simp; (try with_reducible rfl)
  (try simp only [Act.put, List.setIfInBounds_toArray, List.set_cons_zero, List.set_cons_succ])
  refine wpAnyH_ready (rs := [11]) (by kernel_rfl) (by simp) ?_
  refine AllReadyH.cons (by simp only [List.getElem?_toArray, List.getElem?_cons_succ, List.getElem?_cons_zero]; rfl) (fun K hK => ?_) ?_
  · skip
    obtain ⟨y00, y01, y02, yf0⟩ := QM.out.cells3
    go_simp
    clear y00 y01 y02 yf0
    refine named_store3 QM.out ?_
    intro Ws11 hbk hgr hsz
    have hsz0 := hid hsz
    clear hsz
    replace QS := hid (QS.out.grown hgr (by simp <;> omega))
    replace PC5 := hid (PC5.out.grown hgr (by have := hz.out; simp; omega))
    replace PR5 := hid (PR5.out.grown hgr (by have := hz.out; simp; omega))
    replace PM5 := hid (mown_kept PM5.out QM.out tm1 tm2 hgr)
    replace PV5 := hid (PV5.out.keptG hgr (fun v hv e => PV5.out.ne_blk QM.out tm1 v hv (by simpa using e)))
    replace HB := hid (HB.out.grown hgr HB.out.size (fun r e => by cases e; omega))
    replace QM := hid hbk
    clear hbk hgr
    refine hK.out _ _ ⟨PC5.out.cells4.1, PC5.out.cells4.2.1, PC5.out.cells4.2.2.1, PR5.out.cells8.1, PR5.out.cells8.2.1, PR5.out.cells8.2.2.1, PR5.out.cells8.2.2.2.1, PR5.out.cells8.2.2.2.2.1, PR5.out.cells8.2.2.2.2.2.1, PR5.out.cells8.2.2.2.2.2.2.1, PR5.out.cells8.2.2.2.2.2.2.2.1⟩ (fun hS' => ?_)
    clear hK K hS
    have hS := hS'
    clear hS'
    (try simp only [Act.put, List.setIfInBounds_toArray, List.set_cons_zero, List.set_cons_succ])
    refine wpAnyH_ready (rs := [12]) (by kernel_rfl) (by simp) ?_
    refine AllReadyH.cons (by simp only [List.getElem?_toArray, List.getElem?_cons_succ, List.getElem?_cons_zero]; rfl) (fun K hK => ?_) ?_
    · skip
      obtain ⟨y00, y01, y02, y03, y04, y05, y06, yf0⟩ := QS.out.cells7
      go_simp
      clear y00 y01 y02 y03 y04 y05 y06 yf0
      refine named_store_7_7_0 QS.out ?_
      intro Ws12 hbk hgr hsz
      have hsz1 := hid hsz
      clear hsz
      replace QM := hid (QM.out.grown hgr (by simp <;> omega))
      replace PC5 := hid (PC5.out.grown hgr (by have := hz.out; simp; omega))
      replace PR5 := hid (PR5.out.grown hgr (by have := hz.out; simp; omega))
      replace PM5 := hid (mown_kept PM5.out QS.out ts1 ts2 hgr)
      replace PV5 := hid (PV5.out.keptG hgr (fun v hv e => PV5.out.ne_blk QS.out ts1 v hv (by simpa using e)))
      replace HB := hid (HB.out.grown hgr HB.out.size (fun r e => by cases e; omega))
      replace QS := hid hbk
      clear hbk hgr
      refine hK.out _ _ ⟨PC5.out.cells4.1, PC5.out.cells4.2.1, PC5.out.cells4.2.2.1, PR5.out.cells8.1, PR5.out.cells8.2.1, PR5.out.cells8.2.2.1, PR5.out.cells8.2.2.2.1, PR5.out.cells8.2.2.2.2.1, PR5.out.cells8.2.2.2.2.2.1, PR5.out.cells8.2.2.2.2.2.2.1, PR5.out.cells8.2.2.2.2.2.2.2.1⟩ (fun hS' => ?_)
      clear hK K hS
      have hS := hS'
      clear hS'
      (try simp only [Act.put, List.setIfInBounds_toArray, List.set_cons_zero, List.set_cons_succ])
      refine wpAnyH_done (by kernel_rfl) ?_ _
      refine NoPanic.normal ?_
      clear hS
      go_wp2
      obtain ⟨v0, v1, v2, vf⟩ := QM.out.cells3
      obtain ⟨q0, q1, q2, q3, q4, q5, q6, qf⟩ := QS.out.cells7
      refine bodyPost_ret (v := .tuple #[mv A5 n5 c5 B5 k5 d5 ff, .agg #[.int .i64 a, .int .i64 f, .int .i64 mn, .int .i64 ph, .int .u64 bg, .slice V5 vn5 vc5, .int .i64 tr]]) (by simp [results, Try.results49, go_sem, v0, v1, v2, q0, q1, q2, q3, q4, q5, q6]) rfl ?_
      rw [HF.out]
      exact ⟨_, _, _, _, _, _, _, _, _, rfl, PM5.out, PV5.out, PF5.out, HB.out⟩
    exact AllReadyH.nil
  exact AllReadyH.nil
set_option maxRecDepth 100000 in
set_option maxHeartbeats 8000000 in
theorem stepwrite_any (A : Option Addr) (n c : Nat) (B : Option Addr) (k d : Nat) (m : MSt) (lo : Nat) (s : Swr) (V : Option Addr) (vn vc : Nat) (w : World) (h : Mown w lo A n c B k d m.1 m.2.1) (hlo : lo ≤ w.heap.size) (hv : Sl u64v 0 w 0 w.heap.size V vn s.vs) (hg : MGood m.1 m.2.1) (hvn : vn ≤ 100000) (hok : WrOk s.a s.f vn s.ph s.bg s.wr) :
    Calls Try.prog 50 #[mv A n c B k d m.2.2, wrV s V vn vc] w (SwrPost w lo (swriteF m s)) := by
  obtain ⟨a, f, vs, ph, bg, wr⟩ := s
  obtain ⟨ws, ls, ff⟩ := m
  dsimp only at h hv hg hok
  have HM := hid h; have HV := hid hv; have HG := hid hg; have HB := hid (Below.refl w.heap.size w); have HOK := hid hok; have HLV := hid hv.len
  obtain ⟨⟨m2, l2, s2⟩, hres⟩ : ∃ x, x = swrun (ws, ls, ff) ⟨a, f, vs, ph, bg, wr⟩ := ⟨_, rfl⟩
  have HF := hid (show swriteF (ws, ls, ff) ⟨a, f, vs, ph, bg, wr⟩ = (m2, if l2 = true then ⟨s2.a, s2.f, s2.vs, 5, s2.bg, s2.wr⟩ else s2) by unfold swriteF; rw [← hres])
  unfold swrun at hres
  dsimp only at hres
  have HRES := hid hres
  clear h hv hg hok hres
  have bx := below_box w (.cells (mcs A n c B k d ff) 44)
  replace HM := hid (HM.out.step bx); replace HV := hid (HV.out.step bx); replace HB := hid (below_then HB.out bx)
  clear bx
  have PM := hid (Blk.new w 44 (mcs A n c B k d ff))
  have bx := below_box (w.alloc (.cells (mcs A n c B k d ff) 44)) (.cells (wrc a f V vn vc ph bg wr) 34)
  replace HM := hid (HM.out.step bx); replace HV := hid (HV.out.step bx); replace PM := hid (PM.out.step bx); replace HB := hid (below_then HB.out bx)
  clear bx
  have PS := hid (Blk.new2 w 34 (wrc a f V vn vc ph bg wr) (.cells (mcs A n c B k d ff) 44))
  have bx := below_box ((w.alloc (.cells (mcs A n c B k d ff) 44)).alloc (.cells (wrc a f V vn vc ph bg wr) 34)) (.cells (mcs none 0 0 none 0 0 false) 44)
  replace HM := hid (HM.out.step bx); replace HV := hid (HV.out.step bx); replace PM := hid (PM.out.step bx); replace PS := hid (PS.out.step bx); replace HB := hid (below_then HB.out bx)
  clear bx
  have QM := hid (Blk.new3 w 44 (mcs none 0 0 none 0 0 false) (.cells (mcs A n c B k d ff) 44) (.cells (wrc a f V vn vc ph bg wr) 34))
  have bx := below_box (((w.alloc (.cells (mcs A n c B k d ff) 44)).alloc (.cells (wrc a f V vn vc ph bg wr) 34)).alloc (.cells (mcs none 0 0 none 0 0 false) 44)) (.cells (wrc 0 0 none 0 0 0 0 0) 34)
  replace HM := hid (HM.out.step bx); replace HV := hid (HV.out.step bx); replace PM := hid (PM.out.step bx); replace PS := hid (PS.out.step bx); replace QM := hid (QM.out.step bx); replace HB := hid (below_then HB.out bx)
  clear bx
  have QS := hid (Blk.new4 w 34 (wrc 0 0 none 0 0 0 0 0) (.cells (mcs A n c B k d ff) 44) (.cells (wrc a f V vn vc ph bg wr) 34) (.cells (mcs none 0 0 none 0 0 false) 44))
  go_enter Try.func50, Try.ntmps50
  obtain ⟨y00, y01, y02, yf0⟩ := PM.out.cells3
  obtain ⟨y10, y11, y12, y13, y14, y15, yf1⟩ := PS.out.cells6
  go_wp2_with fail
  clear y00 y01 y02 yf0 y10 y11 y12 y13 y14 y15 yf1
  have hz0 := hid (show ((((w.alloc (.cells (mcs A n c B k d ff) 44)).alloc (.cells (wrc a f V vn vc ph bg wr) 34)).alloc (.cells (mcs none 0 0 none 0 0 false) 44)).alloc (.cells (wrc 0 0 none 0 0 0 0 0) 34)).heap.size = w.heap.size + 4 by simp)
  generalize (((w.alloc (.cells (mcs A n c B k d ff) 44)).alloc (.cells (wrc a f V vn vc ph bg wr) 34)).alloc (.cells (mcs none 0 0 none 0 0 false) 44)).alloc (.cells (wrc 0 0 none 0 0 0 0 0) 34) = W0 at *
  refine (clone_u64 V vn vc 0 vs W0 HV.out (by omega)).mono ?_
  rintro e w1 ⟨V1, c1, rfl, ov, hb⟩
  have hs1 := hid hb.size
  have HFAR := hid (show VFar A V1 from fun a' v' ha hv' => by have h1 := (HM.out.oa.blk a' ha).2.choose_spec.lt; have h2 := (ov.blk v' hv').1; omega)
  replace HM := hid (HM.out.step hb); replace HV := hid (HV.out.step hb); replace PM := hid (PM.out.step hb); replace PS := hid (PS.out.step hb); replace QM := hid (QM.out.step hb); replace QS := hid (QS.out.step hb); replace HB := hid (below_then HB.out hb)
  have OV := hid (ov.mono (show lo ≤ W0.heap.size by have := hz0.out; omega))
  clear hb ov HV
  obtain ⟨y00, y01, y02, yf0⟩ := PM.out.cells3
  obtain ⟨y10, y11, y12, y13, y14, y15, yf1⟩ := PS.out.cells6
  go_upto_region 2 with fail
  clear y00 y01 y02 yf0 y10 y11 y12 y13 y14 y15 yf1
  have PS0 := PS
  have hbk0 : Blk (w1.setCell ⟨w.heap.size + 1, 2, none⟩ (.slice V1 vn c1)) (w.heap.size + 1) 34 #[.int .i64 a, .int .i64 f, .slice V1 vn c1, .int .i64 ph, .int .u64 bg, .int .i64 wr] := PS.out.setCell 2 (.slice V1 vn c1)
  have hgr : w1.grownBy (w1.setCell ⟨w.heap.size + 1, 2, none⟩ (.slice V1 vn c1)) (some (w.heap.size + 1)) := (grown_set (World.grownBy.refl w1 (some (w.heap.size + 1))) 2 (.slice V1 vn c1))
  replace PS := hid hbk0
  clear hbk0
  generalize w1.setCell ⟨w.heap.size + 1, 2, none⟩ (.slice V1 vn c1) = W1 at *
  replace HM := hid (mown_kept HM.out PS0.out tq1 tq2 hgr)
  replace OV := hid (OV.out.keptG hgr (fun v hv e => OV.out.ne_blk PS0.out tq1 v hv (by simpa using e)))
  replace PM := hid (PM.out.grown hgr (by simp <;> omega))
  replace QM := hid (QM.out.grown hgr (by simp <;> omega))
  replace QS := hid (QS.out.grown hgr (by simp <;> omega))
  replace HB := hid (HB.out.grown hgr HB.out.size (fun r e => by cases e; omega))
  have hs2 := hid hgr.size
  clear hgr PS0
  obtain ⟨y00, y01, y02, yf0⟩ := PM.out.cells3
  obtain ⟨y10, y11, y12, y13, y14, y15, yf1⟩ := PS.out.cells6
  have bx := below_box W1 (.cells (cpuc A n c B k d ff false) 102)
  replace HM := hid (HM.out.step bx); replace PM := hid (PM.out.step bx); replace PS := hid (PS.out.step bx); replace QM := hid (QM.out.step bx); replace QS := hid (QS.out.step bx); replace OV := hid (OV.out.step bx); replace HB := hid (below_then HB.out bx)
  clear bx
  have PC := hid (Blk.new W1 102 (cpuc A n c B k d ff false))
  have bx := below_box (W1.alloc (.cells (cpuc A n c B k d ff false) 102)) (.cells (wrrc a f V1 vn c1 ph bg wr W1.heap.size) 109)
  replace HM := hid (HM.out.step bx); replace PM := hid (PM.out.step bx); replace PS := hid (PS.out.step bx); replace QM := hid (QM.out.step bx); replace QS := hid (QS.out.step bx); replace OV := hid (OV.out.step bx); replace PC := hid (PC.out.step bx); replace HB := hid (below_then HB.out bx)
  clear bx
  have PR := hid (Blk.new2 W1 109 (wrrc a f V1 vn c1 ph bg wr W1.heap.size) (.cells (cpuc A n c B k d ff false) 102))
  go_upto_region 3 with fail
  clear y00 y01 y02 yf0 y10 y11 y12 y13 y14 y15 yf1
  have hz2 := hid (show ((W1.alloc (.cells (cpuc A n c B k d ff false) 102)).alloc (.cells (wrrc a f V1 vn c1 ph bg wr W1.heap.size) 109)).heap.size = W1.heap.size + 2 by simp)
  generalize (W1.alloc (.cells (cpuc A n c B k d ff false) 102)).alloc (.cells (wrrc a f V1 vn c1 ph bg wr W1.heap.size) 109) = W2 at *
  have hmk := run_mk_new (P := Try.prog) 105
  have hu0 : (Instr.mapUpdate 105 (.map (some W2.heap.size)) (.int .i64 0) (.func (.func 64) #[ptr (W1.heap.size + 1)] #[])).run Try.prog (W2.alloc (.map #[] 0)) = .ok () (W2.alloc (.map #[⟨.int .i64 0, .func (.func 64) #[ptr (W1.heap.size + 1)] #[], 0⟩] 1)) := run_upd_new Try.underlying105 Try.underlying3 W2 _ 0 _ _ rfl
  have hu1 : (Instr.mapUpdate 105 (.map (some W2.heap.size)) (.int .i64 1) (.func (.func 65) #[ptr (W1.heap.size + 1)] #[])).run Try.prog (W2.alloc (.map #[⟨.int .i64 0, .func (.func 64) #[ptr (W1.heap.size + 1)] #[], 0⟩] 1)) = .ok () (W2.alloc (.map #[⟨.int .i64 0, .func (.func 64) #[ptr (W1.heap.size + 1)] #[], 0⟩, ⟨.int .i64 1, .func (.func 65) #[ptr (W1.heap.size + 1)] #[], 1⟩] 2)) := run_upd_new Try.underlying105 Try.underlying3 W2 _ 1 _ _ rfl
  have hu2 : (Instr.mapUpdate 105 (.map (some W2.heap.size)) (.int .i64 2) (.func (.func 66) #[ptr (W1.heap.size + 1)] #[])).run Try.prog (W2.alloc (.map #[⟨.int .i64 0, .func (.func 64) #[ptr (W1.heap.size + 1)] #[], 0⟩, ⟨.int .i64 1, .func (.func 65) #[ptr (W1.heap.size + 1)] #[], 1⟩] 2)) = .ok () (W2.alloc (.map #[⟨.int .i64 0, .func (.func 64) #[ptr (W1.heap.size + 1)] #[], 0⟩, ⟨.int .i64 1, .func (.func 65) #[ptr (W1.heap.size + 1)] #[], 1⟩, ⟨.int .i64 2, .func (.func 66) #[ptr (W1.heap.size + 1)] #[], 2⟩] 3)) := run_upd_new Try.underlying105 Try.underlying3 W2 _ 2 _ _ rfl
  have hu3 : (Instr.mapUpdate 105 (.map (some W2.heap.size)) (.int .i64 3) (.func (.func 67) #[ptr (W1.heap.size + 1)] #[])).run Try.prog (W2.alloc (.map #[⟨.int .i64 0, .func (.func 64) #[ptr (W1.heap.size + 1)] #[], 0⟩, ⟨.int .i64 1, .func (.func 65) #[ptr (W1.heap.size + 1)] #[], 1⟩, ⟨.int .i64 2, .func (.func 66) #[ptr (W1.heap.size + 1)] #[], 2⟩] 3)) = .ok () (W2.alloc (.map #[⟨.int .i64 0, .func (.func 64) #[ptr (W1.heap.size + 1)] #[], 0⟩, ⟨.int .i64 1, .func (.func 65) #[ptr (W1.heap.size + 1)] #[], 1⟩, ⟨.int .i64 2, .func (.func 66) #[ptr (W1.heap.size + 1)] #[], 2⟩, ⟨.int .i64 3, .func (.func 67) #[ptr (W1.heap.size + 1)] #[], 3⟩] 4)) := run_upd_new Try.underlying105 Try.underlying3 W2 _ 3 _ _ rfl
  go_upto_region 4 with fail
  clear hmk hu0 hu1 hu2 hu3
  have HMP := hid ((MapKept.heap_alloc W2 (.map #[⟨.int .i64 0, .func (.func 64) #[ptr (W1.heap.size + 1)] #[], 0⟩, ⟨.int .i64 1, .func (.func 65) #[ptr (W1.heap.size + 1)] #[], 1⟩, ⟨.int .i64 2, .func (.func 66) #[ptr (W1.heap.size + 1)] #[], 2⟩, ⟨.int .i64 3, .func (.func 67) #[ptr (W1.heap.size + 1)] #[], 3⟩] 4)).1)
  have bx := below_box W2 (.map #[⟨.int .i64 0, .func (.func 64) #[ptr (W1.heap.size + 1)] #[], 0⟩, ⟨.int .i64 1, .func (.func 65) #[ptr (W1.heap.size + 1)] #[], 1⟩, ⟨.int .i64 2, .func (.func 66) #[ptr (W1.heap.size + 1)] #[], 2⟩, ⟨.int .i64 3, .func (.func 67) #[ptr (W1.heap.size + 1)] #[], 3⟩] 4)
  replace HM := hid (HM.out.step bx); replace PM := hid (PM.out.step bx); replace PS := hid (PS.out.step bx); replace QM := hid (QM.out.step bx); replace QS := hid (QS.out.step bx); replace OV := hid (OV.out.step bx); replace PC := hid (PC.out.step bx); replace PR := hid (PR.out.step bx); replace HB := hid (below_then HB.out bx)
  clear bx
  have hz3 := hid (show (W2.alloc (.map #[⟨.int .i64 0, .func (.func 64) #[ptr (W1.heap.size + 1)] #[], 0⟩, ⟨.int .i64 1, .func (.func 65) #[ptr (W1.heap.size + 1)] #[], 1⟩, ⟨.int .i64 2, .func (.func 66) #[ptr (W1.heap.size + 1)] #[], 2⟩, ⟨.int .i64 3, .func (.func 67) #[ptr (W1.heap.size + 1)] #[], 3⟩] 4)).heap.size = W2.heap.size + 1 by simp)
  generalize W2.alloc (.map #[⟨.int .i64 0, .func (.func 64) #[ptr (W1.heap.size + 1)] #[], 0⟩, ⟨.int .i64 1, .func (.func 65) #[ptr (W1.heap.size + 1)] #[], 1⟩, ⟨.int .i64 2, .func (.func 66) #[ptr (W1.heap.size + 1)] #[], 2⟩, ⟨.int .i64 3, .func (.func 67) #[ptr (W1.heap.size + 1)] #[], 3⟩] 4) = W3 at *
  have HRM := hid (show Wrm W3 (W1.heap.size + 1) W1.heap.size lo (ws, ls, ff) false ⟨a, f, vs, ph, bg, wr⟩ from ⟨⟨_, _, _, _, _, _, _, _, _, PC.out, HM.out, PR.out, OV.out, HFAR.out⟩, by have := hz3.out; have := hz2.out; have := hs2.out; have := hs1.out; have := hz0.out; omega⟩)
  have hz := hid (show w.heap.size + 4 ≤ W1.heap.size by have := hs2.out; have := hs1.out; have := hz0.out; omega)
  by_cases hp0 : ph = 0
  · subst hp0
    have hru := HRES.out
    rw [if_pos rfl] at hru
    have hlk := run_look_yes (P := Try.prog) Try.underlying105 Try.underlying3 HMP.out 0 (i := 0) (v := .func (.func 64) #[ptr (W1.heap.size + 1)] #[]) rfl
    have eg := enters_of Try.func64 (by kernel_rfl) rfl
    have HRU := hid hru
    clear hru HRES
    obtain ⟨y00, y01, y02, y03, y04, y05, y06, yf0⟩ := PR.out.cells7
    obtain ⟨z0, z1, z2, z3, z4, z5, zf⟩ := PS.out.cells6
    go_wp2_with fail
    clear hlk z0 z1 z2 z3 z4 z5 zf
    clear y00 y01 y02 y03 y04 y05 y06 yf0
    refine (wbegin_any (W1.heap.size + 1) W1.heap.size lo (ws, ls, ff) false ⟨a, f, vs, 0, bg, wr⟩ W3 HRM.out HG.out).mono ?_
    rw [← HRU.out]
    rintro e W4 ⟨rfl, hrm, hgp⟩
    dsimp only at hrm
    have hnp : ∀ i, i < W1.heap.size → ¬ (i = W1.heap.size + 1 ∨ i = W1.heap.size) := fun i hi e => by omega
    replace QM := hid (show Blk W4 _ _ _ from (hgp.block _ QM.out.lt (hnp _ (by have := hz.out; omega))).trans QM.out)
    replace QS := hid (show Blk W4 _ _ _ from (hgp.block _ QS.out.lt (hnp _ (by have := hz.out; omega))).trans QS.out)
    replace HB := hid (GrownP.below HB.out hgp (fun i hi => by have := hz.out; omega) HB.out.size)
    clear hnp hgp PM PS PC PR OV HM HRM HMP eg
    obtain ⟨⟨A5, n5, c5, B5, k5, d5, V5, vn5, vc5, h1, h2, h3, h4, h5⟩, h6⟩ := hrm
    have PC5 := hid h1; have PM5 := hid h2; have PR5 := hid h3; have PV5 := hid h4; have PF5 := hid h5
    clear h1 h2 h3 h4 h5 h6
    rcases l2 with _ | _
    · skip
      obtain ⟨y00, y01, y02, y03, y04, y05, y06, yf0⟩ := PR5.out.cells7
      obtain ⟨y10, y11, y12, y13, yf1⟩ := PC5.out.cells4
      go_upto_region 9 with fail
      clear y00 y01 y02 y03 y04 y05 y06 yf0 y10 y11 y12 y13 yf1
      have bx := (Below.refl W4.heap.size W4).drew
      replace PC5 := hid (PC5.out.step bx); replace PM5 := hid (PM5.out.step bx); replace PR5 := hid (PR5.out.step bx); replace PV5 := hid (PV5.out.step bx); replace QM := hid (QM.out.step bx); replace QS := hid (QS.out.step bx); replace HB := hid (below_then HB.out bx)
      clear bx
      have hszd := hid (show W4.drew.heap.size = W4.heap.size from rfl)
      refine wp_region_noPanic ?_
      refine wp_region_held_drew (S := (fun W' : World => W'.cell? ⟨W1.heap.size, 0, none⟩ = some (.slice A5 n5 c5) ∧ W'.cell? ⟨W1.heap.size, 1, none⟩ = some (.slice B5 k5 d5) ∧ W'.cell? ⟨W1.heap.size, 2, none⟩ = some (.bool m2.2.2) ∧ W'.cell? ⟨W1.heap.size + 1, 0, none⟩ = some (.int .i64 s2.a) ∧ W'.cell? ⟨W1.heap.size + 1, 1, none⟩ = some (.int .i64 s2.f) ∧ W'.cell? ⟨W1.heap.size + 1, 2, none⟩ = some (.slice V5 vn5 vc5) ∧ W'.cell? ⟨W1.heap.size + 1, 3, none⟩ = some (.int .i64 s2.ph) ∧ W'.cell? ⟨W1.heap.size + 1, 4, none⟩ = some (.int .u64 s2.bg) ∧ W'.cell? ⟨W1.heap.size + 1, 5, none⟩ = some (.int .i64 s2.wr) ∧ W'.cell? ⟨W1.heap.size + 1, 6, none⟩ = some (ptr W1.heap.size))) (by kernel_rfl) ⟨PC5.out.cells4.1, PC5.out.cells4.2.1, PC5.out.cells4.2.2.1, PR5.out.cells7.1, PR5.out.cells7.2.1, PR5.out.cells7.2.2.1, PR5.out.cells7.2.2.2.1, PR5.out.cells7.2.2.2.2.1, PR5.out.cells7.2.2.2.2.2.1, PR5.out.cells7.2.2.2.2.2.2.1⟩ (fun hS => ?_)
      generalize W4.drew = Wd at *
      refine wpAnyH_take (i := 0) (v := ?_) (by simp only [List.getElem?_toArray, List.getElem?_cons_succ, List.getElem?_cons_zero]; rfl) (by kernel_rfl) (by kernel_rfl) (by kernel_rfl) (fun _ _ _ h => h) (Or.inl ⟨by rfl, ?_⟩) hS ?_
      rotate_left
      · intro w' hSw; (try dsimp only at hSw); go_split_ands; go_simp; (try with_reducible rfl)
      (try simp only [Act.put, List.setIfInBounds_toArray, List.set_cons_zero, List.set_cons_succ])
      refine wpAnyH_take (i := 1) (v := ?_) (by simp only [List.getElem?_toArray, List.getElem?_cons_succ, List.getElem?_cons_zero]; rfl) (by kernel_rfl) (by kernel_rfl) (by kernel_rfl) (fun _ _ _ h => h) (Or.inl ⟨by rfl, ?_⟩) hS ?_
      rotate_left
      · intro w' hSw; (try dsimp only at hSw); go_split_ands; go_simp; (try with_reducible rfl)
      (try simp only [Act.put, List.setIfInBounds_toArray, List.set_cons_zero, List.set_cons_succ])
      refine wpAnyH_take (i := 2) (v := ?_) (by simp only [List.getElem?_toArray, List.getElem?_cons_succ, List.getElem?_cons_zero]; rfl) (by kernel_rfl) (by kernel_rfl) (by kernel_rfl) (fun _ _ _ h => h) (Or.inl ⟨by rfl, ?_⟩) hS ?_
      rotate_left
      · intro w' hSw; (try dsimp only at hSw); go_split_ands; go_simp; (try with_reducible rfl)
      (try simp only [Act.put, List.setIfInBounds_toArray, List.set_cons_zero, List.set_cons_succ])
      refine wpAnyH_take (i := 3) (v := ?_) (by simp only [List.getElem?_toArray, List.getElem?_cons_succ, List.getElem?_cons_zero]; rfl) (by kernel_rfl) (by kernel_rfl) (by kernel_rfl) (fun _ _ _ h => h) (Or.inl ⟨by rfl, ?_⟩) hS ?_
      rotate_left
      · intro w' hSw; (try dsimp only at hSw); go_split_ands; go_simp; (try with_reducible rfl)
      (try simp only [Act.put, List.setIfInBounds_toArray, List.set_cons_zero, List.set_cons_succ])
      refine wpAnyH_take (i := 4) (v := ?_) (by simp only [List.getElem?_toArray, List.getElem?_cons_succ, List.getElem?_cons_zero]; rfl) (by kernel_rfl) (by kernel_rfl) (by kernel_rfl) (fun _ _ _ h => h) (Or.inl ⟨by rfl, ?_⟩) hS ?_
      rotate_left
      · intro w' hSw; (try dsimp only at hSw); go_split_ands; go_simp; (try with_reducible rfl)
      (try simp only [Act.put, List.setIfInBounds_toArray, List.set_cons_zero, List.set_cons_succ])
      refine wpAnyH_take (i := 5) (v := ?_) (by simp only [List.getElem?_toArray, List.getElem?_cons_succ, List.getElem?_cons_zero]; rfl) (by kernel_rfl) (by kernel_rfl) (by kernel_rfl) (fun _ _ _ h => h) (Or.inl ⟨by rfl, ?_⟩) hS ?_
      rotate_left
      · intro w' hSw; (try dsimp only at hSw); go_split_ands; go_simp; (try with_reducible rfl)
      (try simp only [Act.put, List.setIfInBounds_toArray, List.set_cons_zero, List.set_cons_succ])
      refine wpAnyH_take (i := 6) (v := ?_) (by simp only [List.getElem?_toArray, List.getElem?_cons_succ, List.getElem?_cons_zero]; rfl) (by kernel_rfl) (by kernel_rfl) (by kernel_rfl) (fun _ _ _ h => h) (Or.inl ⟨by rfl, ?_⟩) hS ?_
      rotate_left
      · intro w' hSw; (try dsimp only at hSw); go_split_ands; go_simp; (try with_reducible rfl)
      (try simp only [Act.put, List.setIfInBounds_toArray, List.set_cons_zero, List.set_cons_succ])
      refine wpAnyH_take (i := 7) (v := ?_) (by simp only [List.getElem?_toArray, List.getElem?_cons_succ, List.getElem?_cons_zero]; rfl) (by kernel_rfl) (by kernel_rfl) (by kernel_rfl) (fun _ _ _ h => h) (Or.inl ⟨by rfl, ?_⟩) hS ?_
      rotate_left
      · intro w' hSw; (try dsimp only at hSw); go_split_ands; go_simp; (try with_reducible rfl)
      (try simp only [Act.put, List.setIfInBounds_toArray, List.set_cons_zero, List.set_cons_succ])
      refine wpAnyH_take (i := 8) (v := ?_) (by simp only [List.getElem?_toArray, List.getElem?_cons_succ, List.getElem?_cons_zero]; rfl) (by kernel_rfl) (by kernel_rfl) (by kernel_rfl) (fun _ _ _ h => h) (Or.inl ⟨by rfl, ?_⟩) hS ?_
      rotate_left
      · intro w' hSw; (try dsimp only at hSw); go_split_ands; go_simp; (try with_reducible rfl)
      (try simp only [Act.put, List.setIfInBounds_toArray, List.set_cons_zero, List.set_cons_succ])
      refine wpAnyH_take (i := 9) (v := ?_) (by simp only [List.getElem?_toArray, List.getElem?_cons_succ, List.getElem?_cons_zero]; rfl) (by kernel_rfl) (by kernel_rfl) (by kernel_rfl) (fun _ _ _ h => h) (Or.inl ⟨by rfl, ?_⟩) hS ?_
      rotate_left
      · intro w' hSw; (try dsimp only at hSw); go_split_ands; go_simp; (try with_reducible rfl)
      (try simp only [Act.put, List.setIfInBounds_toArray, List.set_cons_zero, List.set_cons_succ])
      refine wpAnyH_take (i := 10) (v := ?_) (by simp only [List.getElem?_toArray, List.getElem?_cons_succ, List.getElem?_cons_zero]; rfl) (by kernel_rfl) (by kernel_rfl) (by kernel_rfl) (fun _ _ _ h => h) (Or.inl ⟨by rfl, ?_⟩) hS ?_
      rotate_left
      · intro w' hSw; (try dsimp only at hSw); go_split_ands; go_simp; (try with_reducible rfl)
      (try simp only [Act.put, List.setIfInBounds_toArray, List.set_cons_zero, List.set_cons_succ])
      refine wpAnyH_ready (rs := [11]) (by kernel_rfl) (by simp) ?_
      refine AllReadyH.cons (by simp only [List.getElem?_toArray, List.getElem?_cons_succ, List.getElem?_cons_zero]; rfl) (fun K hK => ?_) ?_
      · skip
        obtain ⟨y00, y01, y02, yf0⟩ := QM.out.cells3
        go_simp
        clear y00 y01 y02 yf0
        refine named_store3 QM.out ?_
        intro Ws11 hbk hgr hsz
        have hsz0 := hid hsz
        clear hsz
        replace QS := hid (QS.out.grown hgr (by simp <;> omega))
        replace PC5 := hid (PC5.out.grown hgr (by have := hz.out; simp; omega))
        replace PR5 := hid (PR5.out.grown hgr (by have := hz.out; simp; omega))
        replace PM5 := hid (mown_kept PM5.out QM.out tm1 tm2 hgr)
        replace PV5 := hid (PV5.out.keptG hgr (fun v hv e => PV5.out.ne_blk QM.out tm1 v hv (by simpa using e)))
        replace HB := hid (HB.out.grown hgr HB.out.size (fun r e => by cases e; omega))
        replace QM := hid hbk
        clear hbk hgr
        refine hK.out _ _ ⟨PC5.out.cells4.1, PC5.out.cells4.2.1, PC5.out.cells4.2.2.1, PR5.out.cells7.1, PR5.out.cells7.2.1, PR5.out.cells7.2.2.1, PR5.out.cells7.2.2.2.1, PR5.out.cells7.2.2.2.2.1, PR5.out.cells7.2.2.2.2.2.1, PR5.out.cells7.2.2.2.2.2.2.1⟩ (fun hS' => ?_)
        clear hK K hS
        have hS := hS'
        clear hS'
        (try simp only [Act.put, List.setIfInBounds_toArray, List.set_cons_zero, List.set_cons_succ])
        refine wpAnyH_ready (rs := [12]) (by kernel_rfl) (by simp) ?_
        refine AllReadyH.cons (by simp only [List.getElem?_toArray, List.getElem?_cons_succ, List.getElem?_cons_zero]; rfl) (fun K hK => ?_) ?_
        · skip
          obtain ⟨y00, y01, y02, y03, y04, y05, yf0⟩ := QS.out.cells6
          go_simp
          clear y00 y01 y02 y03 y04 y05 yf0
          refine named_store_6_6_0 QS.out ?_
          intro Ws12 hbk hgr hsz
          have hsz1 := hid hsz
          clear hsz
          replace QM := hid (QM.out.grown hgr (by simp <;> omega))
          replace PC5 := hid (PC5.out.grown hgr (by have := hz.out; simp; omega))
          replace PR5 := hid (PR5.out.grown hgr (by have := hz.out; simp; omega))
          replace PM5 := hid (mown_kept PM5.out QS.out tq1 tq2 hgr)
          replace PV5 := hid (PV5.out.keptG hgr (fun v hv e => PV5.out.ne_blk QS.out tq1 v hv (by simpa using e)))
          replace HB := hid (HB.out.grown hgr HB.out.size (fun r e => by cases e; omega))
          replace QS := hid hbk
          clear hbk hgr
          refine hK.out _ _ ⟨PC5.out.cells4.1, PC5.out.cells4.2.1, PC5.out.cells4.2.2.1, PR5.out.cells7.1, PR5.out.cells7.2.1, PR5.out.cells7.2.2.1, PR5.out.cells7.2.2.2.1, PR5.out.cells7.2.2.2.2.1, PR5.out.cells7.2.2.2.2.2.1, PR5.out.cells7.2.2.2.2.2.2.1⟩ (fun hS' => ?_)
          clear hK K hS
          have hS := hS'
          clear hS'
          (try simp only [Act.put, List.setIfInBounds_toArray, List.set_cons_zero, List.set_cons_succ])
          refine wpAnyH_done (by kernel_rfl) ?_ _
          refine NoPanic.normal ?_
          clear hS
          go_wp2
          obtain ⟨v0, v1, v2, vf⟩ := QM.out.cells3
          obtain ⟨q0, q1, q2, q3, q4, q5, qf⟩ := QS.out.cells6
          refine bodyPost_ret (v := .tuple #[mv A5 n5 c5 B5 k5 d5 m2.2.2, .agg #[.int .i64 s2.a, .int .i64 s2.f, .slice V5 vn5 vc5, .int .i64 s2.ph, .int .u64 s2.bg, .int .i64 s2.wr]]) (by simp [results, Try.results50, go_sem, v0, v1, v2, q0, q1, q2, q3, q4, q5]) rfl ?_
          rw [HF.out]
          exact ⟨_, _, _, _, _, _, _, _, _, rfl, PM5.out, PV5.out, PF5.out, HB.out⟩
        exact AllReadyH.nil
      exact AllReadyH.nil
    · skip
      obtain ⟨y00, y01, y02, y03, y04, y05, y06, yf0⟩ := PR5.out.cells7
      obtain ⟨y10, y11, y12, y13, yf1⟩ := PC5.out.cells4
      go_upto_region 9 with fail
      clear y00 y01 y02 y03 y04 y05 y06 yf0 y10 y11 y12 y13 yf1
      have PR0 := PR5
      have hbk0 : Blk (W4.setCell ⟨W1.heap.size + 1, 3, none⟩ (.int .i64 5)) (W1.heap.size + 1) 109 #[.int .i64 s2.a, .int .i64 s2.f, .slice V5 vn5 vc5, .int .i64 5, .int .u64 s2.bg, .int .i64 s2.wr, ptr W1.heap.size] := PR5.out.setCell 3 (.int .i64 5)
      have hgr : W4.grownBy (W4.setCell ⟨W1.heap.size + 1, 3, none⟩ (.int .i64 5)) (some (W1.heap.size + 1)) := (grown_set (World.grownBy.refl W4 (some (W1.heap.size + 1))) 3 (.int .i64 5))
      replace PR5 := hid hbk0
      clear hbk0
      generalize W4.setCell ⟨W1.heap.size + 1, 3, none⟩ (.int .i64 5) = W6 at *
      replace PC5 := hid (PC5.out.grown hgr (by simp <;> omega))
      replace PM5 := hid (mown_kept PM5.out PR0.out tw1 tw2 hgr)
      replace PV5 := hid (PV5.out.keptG hgr (fun v hv e => PV5.out.ne_blk PR0.out tw1 v hv (by simpa using e)))
      replace QM := hid (QM.out.grown hgr (by have := hz.out; simp; omega))
      replace QS := hid (QS.out.grown hgr (by have := hz.out; simp; omega))
      replace HB := hid (HB.out.grown hgr HB.out.size (fun r e => by cases e; have := hz.out; omega))
      clear hgr PR0
      have bx := (Below.refl W6.heap.size W6).drew
      replace PC5 := hid (PC5.out.step bx); replace PM5 := hid (PM5.out.step bx); replace PR5 := hid (PR5.out.step bx); replace PV5 := hid (PV5.out.step bx); replace QM := hid (QM.out.step bx); replace QS := hid (QS.out.step bx); replace HB := hid (below_then HB.out bx)
      clear bx
      have hszd := hid (show W6.drew.heap.size = W6.heap.size from rfl)
      refine wp_region_noPanic ?_
      refine wp_region_held_drew (S := (fun W' : World => W'.cell? ⟨W1.heap.size, 0, none⟩ = some (.slice A5 n5 c5) ∧ W'.cell? ⟨W1.heap.size, 1, none⟩ = some (.slice B5 k5 d5) ∧ W'.cell? ⟨W1.heap.size, 2, none⟩ = some (.bool m2.2.2) ∧ W'.cell? ⟨W1.heap.size + 1, 0, none⟩ = some (.int .i64 s2.a) ∧ W'.cell? ⟨W1.heap.size + 1, 1, none⟩ = some (.int .i64 s2.f) ∧ W'.cell? ⟨W1.heap.size + 1, 2, none⟩ = some (.slice V5 vn5 vc5) ∧ W'.cell? ⟨W1.heap.size + 1, 3, none⟩ = some (.int .i64 5) ∧ W'.cell? ⟨W1.heap.size + 1, 4, none⟩ = some (.int .u64 s2.bg) ∧ W'.cell? ⟨W1.heap.size + 1, 5, none⟩ = some (.int .i64 s2.wr) ∧ W'.cell? ⟨W1.heap.size + 1, 6, none⟩ = some (ptr W1.heap.size))) (by kernel_rfl) ⟨PC5.out.cells4.1, PC5.out.cells4.2.1, PC5.out.cells4.2.2.1, PR5.out.cells7.1, PR5.out.cells7.2.1, PR5.out.cells7.2.2.1, PR5.out.cells7.2.2.2.1, PR5.out.cells7.2.2.2.2.1, PR5.out.cells7.2.2.2.2.2.1, PR5.out.cells7.2.2.2.2.2.2.1⟩ (fun hS => ?_)
      generalize W6.drew = Wd at *
      refine wpAnyH_take (i := 0) (v := ?_) (by simp only [List.getElem?_toArray, List.getElem?_cons_succ, List.getElem?_cons_zero]; rfl) (by kernel_rfl) (by kernel_rfl) (by kernel_rfl) (fun _ _ _ h => h) (Or.inl ⟨by rfl, ?_⟩) hS ?_
      rotate_left
      · intro w' hSw; (try dsimp only at hSw); go_split_ands; go_simp; (try with_reducible rfl)
      (try simp only [Act.put, List.setIfInBounds_toArray, List.set_cons_zero, List.set_cons_succ])
      refine wpAnyH_take (i := 1) (v := ?_) (by simp only [List.getElem?_toArray, List.getElem?_cons_succ, List.getElem?_cons_zero]; rfl) (by kernel_rfl) (by kernel_rfl) (by kernel_rfl) (fun _ _ _ h => h) (Or.inl ⟨by rfl, ?_⟩) hS ?_
      rotate_left
      · intro w' hSw; (try dsimp only at hSw); go_split_ands; go_simp; (try with_reducible rfl)
      (try simp only [Act.put, List.setIfInBounds_toArray, List.set_cons_zero, List.set_cons_succ])
      refine wpAnyH_take (i := 2) (v := ?_) (by simp only [List.getElem?_toArray, List.getElem?_cons_succ, List.getElem?_cons_zero]; rfl) (by kernel_rfl) (by kernel_rfl) (by kernel_rfl) (fun _ _ _ h => h) (Or.inl ⟨by rfl, ?_⟩) hS ?_
      rotate_left
      · intro w' hSw; (try dsimp only at hSw); go_split_ands; go_simp; (try with_reducible rfl)
      (try simp only [Act.put, List.setIfInBounds_toArray, List.set_cons_zero, List.set_cons_succ])
      refine wpAnyH_take (i := 3) (v := ?_) (by simp only [List.getElem?_toArray, List.getElem?_cons_succ, List.getElem?_cons_zero]; rfl) (by kernel_rfl) (by kernel_rfl) (by kernel_rfl) (fun _ _ _ h => h) (Or.inl ⟨by rfl, ?_⟩) hS ?_
      rotate_left
      · intro w' hSw; (try dsimp only at hSw); go_split_ands; go_simp; (try with_reducible rfl)
      (try simp only [Act.put, List.setIfInBounds_toArray, List.set_cons_zero, List.set_cons_succ])
      refine wpAnyH_take (i := 4) (v := ?_) (by simp only [List.getElem?_toArray, List.getElem?_cons_succ, List.getElem?_cons_zero]; rfl) (by kernel_rfl) (by kernel_rfl) (by kernel_rfl) (fun _ _ _ h => h) (Or.inl ⟨by rfl, ?_⟩) hS ?_
      rotate_left
      · intro w' hSw; (try dsimp only at hSw); go_split_ands; go_simp; (try with_reducible rfl)
      (try simp only [Act.put, List.setIfInBounds_toArray, List.set_cons_zero, List.set_cons_succ])
      refine wpAnyH_take (i := 5) (v := ?_) (by simp only [List.getElem?_toArray, List.getElem?_cons_succ, List.getElem?_cons_zero]; rfl) (by kernel_rfl) (by kernel_rfl) (by kernel_rfl) (fun _ _ _ h => h) (Or.inl ⟨by rfl, ?_⟩) hS ?_
      rotate_left
      · intro w' hSw; (try dsimp only at hSw); go_split_ands; go_simp; (try with_reducible rfl)
      (try simp only [Act.put, List.setIfInBounds_toArray, List.set_cons_zero, List.set_cons_succ])
      refine wpAnyH_take (i := 6) (v := ?_) (by simp only [List.getElem?_toArray, List.getElem?_cons_succ, List.getElem?_cons_zero]; rfl) (by kernel_rfl) (by kernel_rfl) (by kernel_rfl) (fun _ _ _ h => h) (Or.inl ⟨by rfl, ?_⟩) hS ?_
      rotate_left
      · intro w' hSw; (try dsimp only at hSw); go_split_ands; go_simp; (try with_reducible rfl)
      (try simp only [Act.put, List.setIfInBounds_toArray, List.set_cons_zero, List.set_cons_succ])
      refine wpAnyH_take (i := 7) (v := ?_) (by simp only [List.getElem?_toArray, List.getElem?_cons_succ, List.getElem?_cons_zero]; rfl) (by kernel_rfl) (by kernel_rfl) (by kernel_rfl) (fun _ _ _ h => h) (Or.inl ⟨by rfl, ?_⟩) hS ?_
      rotate_left
      · intro w' hSw; (try dsimp only at hSw); go_split_ands; go_simp; (try with_reducible rfl)
      (try simp only [Act.put, List.setIfInBounds_toArray, List.set_cons_zero, List.set_cons_succ])
      refine wpAnyH_take (i := 8) (v := ?_) (by simp only [List.getElem?_toArray, List.getElem?_cons_succ, List.getElem?_cons_zero]; rfl) (by kernel_rfl) (by kernel_rfl) (by kernel_rfl) (fun _ _ _ h => h) (Or.inl ⟨by rfl, ?_⟩) hS ?_
      rotate_left
      · intro w' hSw; (try dsimp only at hSw); go_split_ands; go_simp; (try with_reducible rfl)
      (try simp only [Act.put, List.setIfInBounds_toArray, List.set_cons_zero, List.set_cons_succ])
      refine wpAnyH_take (i := 9) (v := ?_) (by simp only [List.getElem?_toArray, List.getElem?_cons_succ, List.getElem?_cons_zero]; rfl) (by kernel_rfl) (by kernel_rfl) (by kernel_rfl) (fun _ _ _ h => h) (Or.inl ⟨by rfl, ?_⟩) hS ?_
      rotate_left
      · intro w' hSw; (try dsimp only at hSw); go_split_ands; go_simp; (try with_reducible rfl)
      (try simp only [Act.put, List.setIfInBounds_toArray, List.set_cons_zero, List.set_cons_succ])
      refine wpAnyH_take (i := 10) (v := ?_) (by simp only [List.getElem?_toArray, List.getElem?_cons_succ, List.getElem?_cons_zero]; rfl) (by kernel_rfl) (by kernel_rfl) (by kernel_rfl) (fun _ _ _ h => h) (Or.inl ⟨by rfl, ?_⟩) hS ?_
      rotate_left
      · intro w' hSw; (try dsimp only at hSw); go_split_ands; go_simp; (try with_reducible rfl)
      (try simp only [Act.put, List.setIfInBounds_toArray, List.set_cons_zero, List.set_cons_succ])
      refine wpAnyH_ready (rs := [11]) (by kernel_rfl) (by simp) ?_
      refine AllReadyH.cons (by simp only [List.getElem?_toArray, List.getElem?_cons_succ, List.getElem?_cons_zero]; rfl) (fun K hK => ?_) ?_
      · skip
        obtain ⟨y00, y01, y02, yf0⟩ := QM.out.cells3
        go_simp
        clear y00 y01 y02 yf0
        refine named_store3 QM.out ?_
        intro Ws11 hbk hgr hsz
        have hsz0 := hid hsz
        clear hsz
        replace QS := hid (QS.out.grown hgr (by simp <;> omega))
        replace PC5 := hid (PC5.out.grown hgr (by have := hz.out; simp; omega))
        replace PR5 := hid (PR5.out.grown hgr (by have := hz.out; simp; omega))
        replace PM5 := hid (mown_kept PM5.out QM.out tm1 tm2 hgr)
        replace PV5 := hid (PV5.out.keptG hgr (fun v hv e => PV5.out.ne_blk QM.out tm1 v hv (by simpa using e)))
        replace HB := hid (HB.out.grown hgr HB.out.size (fun r e => by cases e; omega))
        replace QM := hid hbk
        clear hbk hgr
        refine hK.out _ _ ⟨PC5.out.cells4.1, PC5.out.cells4.2.1, PC5.out.cells4.2.2.1, PR5.out.cells7.1, PR5.out.cells7.2.1, PR5.out.cells7.2.2.1, PR5.out.cells7.2.2.2.1, PR5.out.cells7.2.2.2.2.1, PR5.out.cells7.2.2.2.2.2.1, PR5.out.cells7.2.2.2.2.2.2.1⟩ (fun hS' => ?_)
        clear hK K hS
        have hS := hS'
        clear hS'
        (try simp only [Act.put, List.setIfInBounds_toArray, List.set_cons_zero, List.set_cons_succ])
        refine wpAnyH_ready (rs := [12]) (by kernel_rfl) (by simp) ?_
        refine AllReadyH.cons (by simp only [List.getElem?_toArray, List.getElem?_cons_succ, List.getElem?_cons_zero]; rfl) (fun K hK => ?_) ?_
        · skip
          obtain ⟨y00, y01, y02, y03, y04, y05, yf0⟩ := QS.out.cells6
          go_simp
          clear y00 y01 y02 y03 y04 y05 yf0
          refine named_store_6_6_0 QS.out ?_
          intro Ws12 hbk hgr hsz
          have hsz1 := hid hsz
          clear hsz
          replace QM := hid (QM.out.grown hgr (by simp <;> omega))
          replace PC5 := hid (PC5.out.grown hgr (by have := hz.out; simp; omega))
          replace PR5 := hid (PR5.out.grown hgr (by have := hz.out; simp; omega))
          replace PM5 := hid (mown_kept PM5.out QS.out tq1 tq2 hgr)
          replace PV5 := hid (PV5.out.keptG hgr (fun v hv e => PV5.out.ne_blk QS.out tq1 v hv (by simpa using e)))
          replace HB := hid (HB.out.grown hgr HB.out.size (fun r e => by cases e; omega))
          replace QS := hid hbk
          clear hbk hgr
          refine hK.out _ _ ⟨PC5.out.cells4.1, PC5.out.cells4.2.1, PC5.out.cells4.2.2.1, PR5.out.cells7.1, PR5.out.cells7.2.1, PR5.out.cells7.2.2.1, PR5.out.cells7.2.2.2.1, PR5.out.cells7.2.2.2.2.1, PR5.out.cells7.2.2.2.2.2.1, PR5.out.cells7.2.2.2.2.2.2.1⟩ (fun hS' => ?_)
          clear hK K hS
          have hS := hS'
          clear hS'
          (try simp only [Act.put, List.setIfInBounds_toArray, List.set_cons_zero, List.set_cons_succ])
          refine wpAnyH_done (by kernel_rfl) ?_ _
          refine NoPanic.normal ?_
          clear hS
          go_wp2
          obtain ⟨v0, v1, v2, vf⟩ := QM.out.cells3
          obtain ⟨q0, q1, q2, q3, q4, q5, qf⟩ := QS.out.cells6
          refine bodyPost_ret (v := .tuple #[mv A5 n5 c5 B5 k5 d5 m2.2.2, .agg #[.int .i64 s2.a, .int .i64 s2.f, .slice V5 vn5 vc5, .int .i64 5, .int .u64 s2.bg, .int .i64 s2.wr]]) (by simp [results, Try.results50, go_sem, v0, v1, v2, q0, q1, q2, q3, q4, q5]) rfl ?_
          rw [HF.out]
          exact ⟨_, _, _, _, _, _, _, _, _, rfl, PM5.out, PV5.out, PF5.out, HB.out⟩
        exact AllReadyH.nil
      exact AllReadyH.nil
  by_cases hp1 : ph = 1
  · subst hp1
    have hru := HRES.out
    rw [if_neg (by decide), if_pos rfl] at hru
    have hlk := run_look_yes (P := Try.prog) Try.underlying105 Try.underlying3 HMP.out 1 (i := 1) (v := .func (.func 65) #[ptr (W1.heap.size + 1)] #[]) rfl
    have eg := enters_of Try.func65 (by kernel_rfl) rfl
    have HRU := hid hru
    clear hru HRES
    obtain ⟨y00, y01, y02, y03, y04, y05, y06, yf0⟩ := PR.out.cells7
    obtain ⟨z0, z1, z2, z3, z4, z5, zf⟩ := PS.out.cells6
    go_wp2_with fail
    clear hlk z0 z1 z2 z3 z4 z5 zf
    clear y00 y01 y02 y03 y04 y05 y06 yf0
    refine (wopen_any (W1.heap.size + 1) W1.heap.size lo (ws, ls, ff) false ⟨a, f, vs, 1, bg, wr⟩ W3 HRM.out HG.out).mono ?_
    rw [← HRU.out]
    rintro e W4 ⟨rfl, hrm, hgp⟩
    dsimp only at hrm
    have hnp : ∀ i, i < W1.heap.size → ¬ (i = W1.heap.size + 1 ∨ i = W1.heap.size) := fun i hi e => by omega
    replace QM := hid (show Blk W4 _ _ _ from (hgp.block _ QM.out.lt (hnp _ (by have := hz.out; omega))).trans QM.out)
    replace QS := hid (show Blk W4 _ _ _ from (hgp.block _ QS.out.lt (hnp _ (by have := hz.out; omega))).trans QS.out)
    replace HB := hid (GrownP.below HB.out hgp (fun i hi => by have := hz.out; omega) HB.out.size)
    clear hnp hgp PM PS PC PR OV HM HRM HMP eg
    obtain ⟨⟨A5, n5, c5, B5, k5, d5, V5, vn5, vc5, h1, h2, h3, h4, h5⟩, h6⟩ := hrm
    have PC5 := hid h1; have PM5 := hid h2; have PR5 := hid h3; have PV5 := hid h4; have PF5 := hid h5
    clear h1 h2 h3 h4 h5 h6
    rcases l2 with _ | _
    · skip
      obtain ⟨y00, y01, y02, y03, y04, y05, y06, yf0⟩ := PR5.out.cells7
      obtain ⟨y10, y11, y12, y13, yf1⟩ := PC5.out.cells4
      go_upto_region 9 with fail
      clear y00 y01 y02 y03 y04 y05 y06 yf0 y10 y11 y12 y13 yf1
      have bx := (Below.refl W4.heap.size W4).drew
      replace PC5 := hid (PC5.out.step bx); replace PM5 := hid (PM5.out.step bx); replace PR5 := hid (PR5.out.step bx); replace PV5 := hid (PV5.out.step bx); replace QM := hid (QM.out.step bx); replace QS := hid (QS.out.step bx); replace HB := hid (below_then HB.out bx)
      clear bx
      have hszd := hid (show W4.drew.heap.size = W4.heap.size from rfl)
      refine wp_region_noPanic ?_
      refine wp_region_held_drew (S := (fun W' : World => W'.cell? ⟨W1.heap.size, 0, none⟩ = some (.slice A5 n5 c5) ∧ W'.cell? ⟨W1.heap.size, 1, none⟩ = some (.slice B5 k5 d5) ∧ W'.cell? ⟨W1.heap.size, 2, none⟩ = some (.bool m2.2.2) ∧ W'.cell? ⟨W1.heap.size + 1, 0, none⟩ = some (.int .i64 s2.a) ∧ W'.cell? ⟨W1.heap.size + 1, 1, none⟩ = some (.int .i64 s2.f) ∧ W'.cell? ⟨W1.heap.size + 1, 2, none⟩ = some (.slice V5 vn5 vc5) ∧ W'.cell? ⟨W1.heap.size + 1, 3, none⟩ = some (.int .i64 s2.ph) ∧ W'.cell? ⟨W1.heap.size + 1, 4, none⟩ = some (.int .u64 s2.bg) ∧ W'.cell? ⟨W1.heap.size + 1, 5, none⟩ = some (.int .i64 s2.wr) ∧ W'.cell? ⟨W1.heap.size + 1, 6, none⟩ = some (ptr W1.heap.size))) (by kernel_rfl) ⟨PC5.out.cells4.1, PC5.out.cells4.2.1, PC5.out.cells4.2.2.1, PR5.out.cells7.1, PR5.out.cells7.2.1, PR5.out.cells7.2.2.1, PR5.out.cells7.2.2.2.1, PR5.out.cells7.2.2.2.2.1, PR5.out.cells7.2.2.2.2.2.1, PR5.out.cells7.2.2.2.2.2.2.1⟩ (fun hS => ?_)
      generalize W4.drew = Wd at *
      refine wpAnyH_take (i := 0) (v := ?_) (by simp only [List.getElem?_toArray, List.getElem?_cons_succ, List.getElem?_cons_zero]; rfl) (by kernel_rfl) (by kernel_rfl) (by kernel_rfl) (fun _ _ _ h => h) (Or.inl ⟨by rfl, ?_⟩) hS ?_
      rotate_left
      · intro w' hSw; (try dsimp only at hSw); go_split_ands; go_simp; (try with_reducible rfl)
      (try simp only [Act.put, List.setIfInBounds_toArray, List.set_cons_zero, List.set_cons_succ])
      refine wpAnyH_take (i := 1) (v := ?_) (by simp only [List.getElem?_toArray, List.getElem?_cons_succ, List.getElem?_cons_zero]; rfl) (by kernel_rfl) (by kernel_rfl) (by kernel_rfl) (fun _ _ _ h => h) (Or.inl ⟨by rfl, ?_⟩) hS ?_
      rotate_left
      · intro w' hSw; (try dsimp only at hSw); go_split_ands; go_simp; (try with_reducible rfl)
      (try simp only [Act.put, List.setIfInBounds_toArray, List.set_cons_zero, List.set_cons_succ])
      refine wpAnyH_take (i := 2) (v := ?_) (by simp only [List.getElem?_toArray, List.getElem?_cons_succ, List.getElem?_cons_zero]; rfl) (by kernel_rfl) (by kernel_rfl) (by kernel_rfl) (fun _ _ _ h => h) (Or.inl ⟨by rfl, ?_⟩) hS ?_
      rotate_left
      · intro w' hSw; (try dsimp only at hSw); go_split_ands; go_simp; (try with_reducible rfl)
      (try simp only [Act.put, List.setIfInBounds_toArray, List.set_cons_zero, List.set_cons_succ])
      refine wpAnyH_take (i := 3) (v := ?_) (by simp only [List.getElem?_toArray, List.getElem?_cons_succ, List.getElem?_cons_zero]; rfl) (by kernel_rfl) (by kernel_rfl) (by kernel_rfl) (fun _ _ _ h => h) (Or.inl ⟨by rfl, ?_⟩) hS ?_
      rotate_left
      · intro w' hSw; (try dsimp only at hSw); go_split_ands; go_simp; (try with_reducible rfl)
      (try simp only [Act.put, List.setIfInBounds_toArray, List.set_cons_zero, List.set_cons_succ])
      refine wpAnyH_take (i := 4) (v := ?_) (by simp only [List.getElem?_toArray, List.getElem?_cons_succ, List.getElem?_cons_zero]; rfl) (by kernel_rfl) (by kernel_rfl) (by kernel_rfl) (fun _ _ _ h => h) (Or.inl ⟨by rfl, ?_⟩) hS ?_
      rotate_left
      · intro w' hSw; (try dsimp only at hSw); go_split_ands; go_simp; (try with_reducible rfl)
      (try simp only [Act.put, List.setIfInBounds_toArray, List.set_cons_zero, List.set_cons_succ])
      refine wpAnyH_take (i := 5) (v := ?_) (by simp only [List.getElem?_toArray, List.getElem?_cons_succ, List.getElem?_cons_zero]; rfl) (by kernel_rfl) (by kernel_rfl) (by kernel_rfl) (fun _ _ _ h => h) (Or.inl ⟨by rfl, ?_⟩) hS ?_
      rotate_left
      · intro w' hSw; (try dsimp only at hSw); go_split_ands; go_simp; (try with_reducible rfl)
      (try simp only [Act.put, List.setIfInBounds_toArray, List.set_cons_zero, List.set_cons_succ])
      refine wpAnyH_take (i := 6) (v := ?_) (by simp only [List.getElem?_toArray, List.getElem?_cons_succ, List.getElem?_cons_zero]; rfl) (by kernel_rfl) (by kernel_rfl) (by kernel_rfl) (fun _ _ _ h => h) (Or.inl ⟨by rfl, ?_⟩) hS ?_
      rotate_left
      · intro w' hSw; (try dsimp only at hSw); go_split_ands; go_simp; (try with_reducible rfl)
      (try simp only [Act.put, List.setIfInBounds_toArray, List.set_cons_zero, List.set_cons_succ])
      refine wpAnyH_take (i := 7) (v := ?_) (by simp only [List.getElem?_toArray, List.getElem?_cons_succ, List.getElem?_cons_zero]; rfl) (by kernel_rfl) (by kernel_rfl) (by kernel_rfl) (fun _ _ _ h => h) (Or.inl ⟨by rfl, ?_⟩) hS ?_
      rotate_left
      · intro w' hSw; (try dsimp only at hSw); go_split_ands; go_simp; (try with_reducible rfl)
      (try simp only [Act.put, List.setIfInBounds_toArray, List.set_cons_zero, List.set_cons_succ])
      refine wpAnyH_take (i := 8) (v := ?_) (by simp only [List.getElem?_toArray, List.getElem?_cons_succ, List.getElem?_cons_zero]; rfl) (by kernel_rfl) (by kernel_rfl) (by kernel_rfl) (fun _ _ _ h => h) (Or.inl ⟨by rfl, ?_⟩) hS ?_
      rotate_left
      · intro w' hSw; (try dsimp only at hSw); go_split_ands; go_simp; (try with_reducible rfl)
      (try simp only [Act.put, List.setIfInBounds_toArray, List.set_cons_zero, List.set_cons_succ])
      refine wpAnyH_take (i := 9) (v := ?_) (by simp only [List.getElem?_toArray, List.getElem?_cons_succ, List.getElem?_cons_zero]; rfl) (by kernel_rfl) (by kernel_rfl) (by kernel_rfl) (fun _ _ _ h => h) (Or.inl ⟨by rfl, ?_⟩) hS ?_
      rotate_left
      · intro w' hSw; (try dsimp only at hSw); go_split_ands; go_simp; (try with_reducible rfl)
      (try simp only [Act.put, List.setIfInBounds_toArray, List.set_cons_zero, List.set_cons_succ])
      refine wpAnyH_take (i := 10) (v := ?_) (by simp only [List.getElem?_toArray, List.getElem?_cons_succ, List.getElem?_cons_zero]; rfl) (by kernel_rfl) (by kernel_rfl) (by kernel_rfl) (fun _ _ _ h => h) (Or.inl ⟨by rfl, ?_⟩) hS ?_
      rotate_left
      · intro w' hSw; (try dsimp only at hSw); go_split_ands; go_simp; (try with_reducible rfl)
      (try simp only [Act.put, List.setIfInBounds_toArray, List.set_cons_zero, List.set_cons_succ])
      refine wpAnyH_ready (rs := [11]) (by kernel_rfl) (by simp) ?_
      refine AllReadyH.cons (by simp only [List.getElem?_toArray, List.getElem?_cons_succ, List.getElem?_cons_zero]; rfl) (fun K hK => ?_) ?_
      · skip
        obtain ⟨y00, y01, y02, yf0⟩ := QM.out.cells3
        go_simp
        clear y00 y01 y02 yf0
        refine named_store3 QM.out ?_
        intro Ws11 hbk hgr hsz
        have hsz0 := hid hsz
        clear hsz
        replace QS := hid (QS.out.grown hgr (by simp <;> omega))
        replace PC5 := hid (PC5.out.grown hgr (by have := hz.out; simp; omega))
        replace PR5 := hid (PR5.out.grown hgr (by have := hz.out; simp; omega))
        replace PM5 := hid (mown_kept PM5.out QM.out tm1 tm2 hgr)
        replace PV5 := hid (PV5.out.keptG hgr (fun v hv e => PV5.out.ne_blk QM.out tm1 v hv (by simpa using e)))
        replace HB := hid (HB.out.grown hgr HB.out.size (fun r e => by cases e; omega))
        replace QM := hid hbk
        clear hbk hgr
        refine hK.out _ _ ⟨PC5.out.cells4.1, PC5.out.cells4.2.1, PC5.out.cells4.2.2.1, PR5.out.cells7.1, PR5.out.cells7.2.1, PR5.out.cells7.2.2.1, PR5.out.cells7.2.2.2.1, PR5.out.cells7.2.2.2.2.1, PR5.out.cells7.2.2.2.2.2.1, PR5.out.cells7.2.2.2.2.2.2.1⟩ (fun hS' => ?_)
        clear hK K hS
        have hS := hS'
        clear hS'
        (try simp only [Act.put, List.setIfInBounds_toArray, List.set_cons_zero, List.set_cons_succ])
        refine wpAnyH_ready (rs := [12]) (by kernel_rfl) (by simp) ?_
        refine AllReadyH.cons (by simp only [List.getElem?_toArray, List.getElem?_cons_succ, List.getElem?_cons_zero]; rfl) (fun K hK => ?_) ?_
        · skip
          obtain ⟨y00, y01, y02, y03, y04, y05, yf0⟩ := QS.out.cells6
          go_simp
          clear y00 y01 y02 y03 y04 y05 yf0
          refine named_store_6_6_0 QS.out ?_
          intro Ws12 hbk hgr hsz
          have hsz1 := hid hsz
          clear hsz
          replace QM := hid (QM.out.grown hgr (by simp <;> omega))
          replace PC5 := hid (PC5.out.grown hgr (by have := hz.out; simp; omega))
          replace PR5 := hid (PR5.out.grown hgr (by have := hz.out; simp; omega))
          replace PM5 := hid (mown_kept PM5.out QS.out tq1 tq2 hgr)
          replace PV5 := hid (PV5.out.keptG hgr (fun v hv e => PV5.out.ne_blk QS.out tq1 v hv (by simpa using e)))
          replace HB := hid (HB.out.grown hgr HB.out.size (fun r e => by cases e; omega))
          replace QS := hid hbk
          clear hbk hgr
          refine hK.out _ _ ⟨PC5.out.cells4.1, PC5.out.cells4.2.1, PC5.out.cells4.2.2.1, PR5.out.cells7.1, PR5.out.cells7.2.1, PR5.out.cells7.2.2.1, PR5.out.cells7.2.2.2.1, PR5.out.cells7.2.2.2.2.1, PR5.out.cells7.2.2.2.2.2.1, PR5.out.cells7.2.2.2.2.2.2.1⟩ (fun hS' => ?_)
          clear hK K hS
          have hS := hS'
          clear hS'
          (try simp only [Act.put, List.setIfInBounds_toArray, List.set_cons_zero, List.set_cons_succ])
          refine wpAnyH_done (by kernel_rfl) ?_ _
          refine NoPanic.normal ?_
          clear hS
          go_wp2
          obtain ⟨v0, v1, v2, vf⟩ := QM.out.cells3
          obtain ⟨q0, q1, q2, q3, q4, q5, qf⟩ := QS.out.cells6
          refine bodyPost_ret (v := .tuple #[mv A5 n5 c5 B5 k5 d5 m2.2.2, .agg #[.int .i64 s2.a, .int .i64 s2.f, .slice V5 vn5 vc5, .int .i64 s2.ph, .int .u64 s2.bg, .int .i64 s2.wr]]) (by simp [results, Try.results50, go_sem, v0, v1, v2, q0, q1, q2, q3, q4, q5]) rfl ?_
          rw [HF.out]
          exact ⟨_, _, _, _, _, _, _, _, _, rfl, PM5.out, PV5.out, PF5.out, HB.out⟩
        exact AllReadyH.nil
      exact AllReadyH.nil
    · skip
      obtain ⟨y00, y01, y02, y03, y04, y05, y06, yf0⟩ := PR5.out.cells7
      obtain ⟨y10, y11, y12, y13, yf1⟩ := PC5.out.cells4
      go_upto_region 9 with fail
      clear y00 y01 y02 y03 y04 y05 y06 yf0 y10 y11 y12 y13 yf1
      have PR0 := PR5
      have hbk0 : Blk (W4.setCell ⟨W1.heap.size + 1, 3, none⟩ (.int .i64 5)) (W1.heap.size + 1) 109 #[.int .i64 s2.a, .int .i64 s2.f, .slice V5 vn5 vc5, .int .i64 5, .int .u64 s2.bg, .int .i64 s2.wr, ptr W1.heap.size] := PR5.out.setCell 3 (.int .i64 5)
      have hgr : W4.grownBy (W4.setCell ⟨W1.heap.size + 1, 3, none⟩ (.int .i64 5)) (some (W1.heap.size + 1)) := (grown_set (World.grownBy.refl W4 (some (W1.heap.size + 1))) 3 (.int .i64 5))
      replace PR5 := hid hbk0
      clear hbk0
      generalize W4.setCell ⟨W1.heap.size + 1, 3, none⟩ (.int .i64 5) = W6 at *
      replace PC5 := hid (PC5.out.grown hgr (by simp <;> omega))
      replace PM5 := hid (mown_kept PM5.out PR0.out tw1 tw2 hgr)
      replace PV5 := hid (PV5.out.keptG hgr (fun v hv e => PV5.out.ne_blk PR0.out tw1 v hv (by simpa using e)))
      replace QM := hid (QM.out.grown hgr (by have := hz.out; simp; omega))
      replace QS := hid (QS.out.grown hgr (by have := hz.out; simp; omega))
      replace HB := hid (HB.out.grown hgr HB.out.size (fun r e => by cases e; have := hz.out; omega))
      clear hgr PR0
      have bx := (Below.refl W6.heap.size W6).drew
      replace PC5 := hid (PC5.out.step bx); replace PM5 := hid (PM5.out.step bx); replace PR5 := hid (PR5.out.step bx); replace PV5 := hid (PV5.out.step bx); replace QM := hid (QM.out.step bx); replace QS := hid (QS.out.step bx); replace HB := hid (below_then HB.out bx)
      clear bx
      have hszd := hid (show W6.drew.heap.size = W6.heap.size from rfl)
      refine wp_region_noPanic ?_
      refine wp_region_held_drew (S := (fun W' : World => W'.cell? ⟨W1.heap.size, 0, none⟩ = some (.slice A5 n5 c5) ∧ W'.cell? ⟨W1.heap.size, 1, none⟩ = some (.slice B5 k5 d5) ∧ W'.cell? ⟨W1.heap.size, 2, none⟩ = some (.bool m2.2.2) ∧ W'.cell? ⟨W1.heap.size + 1, 0, none⟩ = some (.int .i64 s2.a) ∧ W'.cell? ⟨W1.heap.size + 1, 1, none⟩ = some (.int .i64 s2.f) ∧ W'.cell? ⟨W1.heap.size + 1, 2, none⟩ = some (.slice V5 vn5 vc5) ∧ W'.cell? ⟨W1.heap.size + 1, 3, none⟩ = some (.int .i64 5) ∧ W'.cell? ⟨W1.heap.size + 1, 4, none⟩ = some (.int .u64 s2.bg) ∧ W'.cell? ⟨W1.heap.size + 1, 5, none⟩ = some (.int .i64 s2.wr) ∧ W'.cell? ⟨W1.heap.size + 1, 6, none⟩ = some (ptr W1.heap.size))) (by kernel_rfl) ⟨PC5.out.cells4.1, PC5.out.cells4.2.1, PC5.out.cells4.2.2.1, PR5.out.cells7.1, PR5.out.cells7.2.1, PR5.out.cells7.2.2.1, PR5.out.cells7.2.2.2.1, PR5.out.cells7.2.2.2.2.1, PR5.out.cells7.2.2.2.2.2.1, PR5.out.cells7.2.2.2.2.2.2.1⟩ (fun hS => ?_)
      generalize W6.drew = Wd at *
      refine wpAnyH_take (i := 0) (v := ?_) (by simp only [List.getElem?_toArray, List.getElem?_cons_succ, List.getElem?_cons_zero]; rfl) (by kernel_rfl) (by kernel_rfl) (by kernel_rfl) (fun _ _ _ h => h) (Or.inl ⟨by rfl, ?_⟩) hS ?_
      rotate_left
      · intro w' hSw; (try dsimp only at hSw); go_split_ands; go_simp; (try with_reducible rfl)
      (try simp only [Act.put, List.setIfInBounds_toArray, List.set_cons_zero, List.set_cons_succ])
      refine wpAnyH_take (i := 1) (v := ?_) (by simp only [List.getElem?_toArray, List.getElem?_cons_succ, List.getElem?_cons_zero]; rfl) (by kernel_rfl) (by kernel_rfl) (by kernel_rfl) (fun _ _ _ h => h) (Or.inl ⟨by rfl, ?_⟩) hS ?_
      rotate_left
      · intro w' hSw; (try dsimp only at hSw); go_split_ands; go_simp; (try with_reducible rfl)
      (try simp only [Act.put, List.setIfInBounds_toArray, List.set_cons_zero, List.set_cons_succ])
      refine wpAnyH_take (i := 2) (v := ?_) (by simp only [List.getElem?_toArray, List.getElem?_cons_succ, List.getElem?_cons_zero]; rfl) (by kernel_rfl) (by kernel_rfl) (by kernel_rfl) (fun _ _ _ h => h) (Or.inl ⟨by rfl, ?_⟩) hS ?_
      rotate_left
      · intro w' hSw; (try dsimp only at hSw); go_split_ands; go_simp; (try with_reducible rfl)
      (try simp only [Act.put, List.setIfInBounds_toArray, List.set_cons_zero, List.set_cons_succ])
      refine wpAnyH_take (i := 3) (v := ?_) (by simp only [List.getElem?_toArray, List.getElem?_cons_succ, List.getElem?_cons_zero]; rfl) (by kernel_rfl) (by kernel_rfl) (by kernel_rfl) (fun _ _ _ h => h) (Or.inl ⟨by rfl, ?_⟩) hS ?_
      rotate_left
      · intro w' hSw; (try dsimp only at hSw); go_split_ands; go_simp; (try with_reducible rfl)
      (try simp only [Act.put, List.setIfInBounds_toArray, List.set_cons_zero, List.set_cons_succ])
      refine wpAnyH_take (i := 4) (v := ?_) (by simp only [List.getElem?_toArray, List.getElem?_cons_succ, List.getElem?_cons_zero]; rfl) (by kernel_rfl) (by kernel_rfl) (by kernel_rfl) (fun _ _ _ h => h) (Or.inl ⟨by rfl, ?_⟩) hS ?_
      rotate_left
      · intro w' hSw; (try dsimp only at hSw); go_split_ands; go_simp; (try with_reducible rfl)
      (try simp only [Act.put, List.setIfInBounds_toArray, List.set_cons_zero, List.set_cons_succ])
      refine wpAnyH_take (i := 5) (v := ?_) (by simp only [List.getElem?_toArray, List.getElem?_cons_succ, List.getElem?_cons_zero]; rfl) (by kernel_rfl) (by kernel_rfl) (by kernel_rfl) (fun _ _ _ h => h) (Or.inl ⟨by rfl, ?_⟩) hS ?_
      rotate_left
      · intro w' hSw; (try dsimp only at hSw); go_split_ands; go_simp; (try with_reducible rfl)
      (try simp only [Act.put, List.setIfInBounds_toArray, List.set_cons_zero, List.set_cons_succ])
      refine wpAnyH_take (i := 6) (v := ?_) (by simp only [List.getElem?_toArray, List.getElem?_cons_succ, List.getElem?_cons_zero]; rfl) (by kernel_rfl) (by kernel_rfl) (by kernel_rfl) (fun _ _ _ h => h) (Or.inl ⟨by rfl, ?_⟩) hS ?_
      rotate_left
      · intro w' hSw; (try dsimp only at hSw); go_split_ands; go_simp; (try with_reducible rfl)
      (try simp only [Act.put, List.setIfInBounds_toArray, List.set_cons_zero, List.set_cons_succ])
      refine wpAnyH_take (i := 7) (v := ?_) (by simp only [List.getElem?_toArray, List.getElem?_cons_succ, List.getElem?_cons_zero]; rfl) (by kernel_rfl) (by kernel_rfl) (by kernel_rfl) (fun _ _ _ h => h) (Or.inl ⟨by rfl, ?_⟩) hS ?_
      rotate_left
      · intro w' hSw; (try dsimp only at hSw); go_split_ands; go_simp; (try with_reducible rfl)
      (try simp only [Act.put, List.setIfInBounds_toArray, List.set_cons_zero, List.set_cons_succ])
      refine wpAnyH_take (i := 8) (v := ?_) (by simp only [List.getElem?_toArray, List.getElem?_cons_succ, List.getElem?_cons_zero]; rfl) (by kernel_rfl) (by kernel_rfl) (by kernel_rfl) (fun _ _ _ h => h) (Or.inl ⟨by rfl, ?_⟩) hS ?_
      rotate_left
      · intro w' hSw; (try dsimp only at hSw); go_split_ands; go_simp; (try with_reducible rfl)
      (try simp only [Act.put, List.setIfInBounds_toArray, List.set_cons_zero, List.set_cons_succ])
      refine wpAnyH_take (i := 9) (v := ?_) (by simp only [List.getElem?_toArray, List.getElem?_cons_succ, List.getElem?_cons_zero]; rfl) (by kernel_rfl) (by kernel_rfl) (by kernel_rfl) (fun _ _ _ h => h) (Or.inl ⟨by rfl, ?_⟩) hS ?_
      rotate_left
      · intro w' hSw; (try dsimp only at hSw); go_split_ands; go_simp; (try with_reducible rfl)
      (try simp only [Act.put, List.setIfInBounds_toArray, List.set_cons_zero, List.set_cons_succ])
      refine wpAnyH_take (i := 10) (v := ?_) (by simp only [List.getElem?_toArray, List.getElem?_cons_succ, List.getElem?_cons_zero]; rfl) (by kernel_rfl) (by kernel_rfl) (by kernel_rfl) (fun _ _ _ h => h) (Or.inl ⟨by rfl, ?_⟩) hS ?_
      rotate_left
      · intro w' hSw; (try dsimp only at hSw); go_split_ands; go_simp; (try with_reducible rfl)
      (try simp only [Act.put, List.setIfInBounds_toArray, List.set_cons_zero, List.set_cons_succ])
      refine wpAnyH_ready (rs := [11]) (by kernel_rfl) (by simp) ?_
      refine AllReadyH.cons (by simp only [List.getElem?_toArray, List.getElem?_cons_succ, List.getElem?_cons_zero]; rfl) (fun K hK => ?_) ?_
      · skip
        obtain ⟨y00, y01, y02, yf0⟩ := QM.out.cells3
        go_simp
        clear y00 y01 y02 yf0
        refine named_store3 QM.out ?_
        intro Ws11 hbk hgr hsz
        have hsz0 := hid hsz
        clear hsz
        replace QS := hid (QS.out.grown hgr (by simp <;> omega))
        replace PC5 := hid (PC5.out.grown hgr (by have := hz.out; simp; omega))
        replace PR5 := hid (PR5.out.grown hgr (by have := hz.out; simp; omega))
        replace PM5 := hid (mown_kept PM5.out QM.out tm1 tm2 hgr)
        replace PV5 := hid (PV5.out.keptG hgr (fun v hv e => PV5.out.ne_blk QM.out tm1 v hv (by simpa using e)))
        replace HB := hid (HB.out.grown hgr HB.out.size (fun r e => by cases e; omega))
        replace QM := hid hbk
        clear hbk hgr
        refine hK.out _ _ ⟨PC5.out.cells4.1, PC5.out.cells4.2.1, PC5.out.cells4.2.2.1, PR5.out.cells7.1, PR5.out.cells7.2.1, PR5.out.cells7.2.2.1, PR5.out.cells7.2.2.2.1, PR5.out.cells7.2.2.2.2.1, PR5.out.cells7.2.2.2.2.2.1, PR5.out.cells7.2.2.2.2.2.2.1⟩ (fun hS' => ?_)
        clear hK K hS
        have hS := hS'
        clear hS'
        (try simp only [Act.put, List.setIfInBounds_toArray, List.set_cons_zero, List.set_cons_succ])
        refine wpAnyH_ready (rs := [12]) (by kernel_rfl) (by simp) ?_
        refine AllReadyH.cons (by simp only [List.getElem?_toArray, List.getElem?_cons_succ, List.getElem?_cons_zero]; rfl) (fun K hK => ?_) ?_
        · skip
          obtain ⟨y00, y01, y02, y03, y04, y05, yf0⟩ := QS.out.cells6
          go_simp
          clear y00 y01 y02 y03 y04 y05 yf0
          refine named_store_6_6_0 QS.out ?_
          intro Ws12 hbk hgr hsz
          have hsz1 := hid hsz
          clear hsz
          replace QM := hid (QM.out.grown hgr (by simp <;> omega))
          replace PC5 := hid (PC5.out.grown hgr (by have := hz.out; simp; omega))
          replace PR5 := hid (PR5.out.grown hgr (by have := hz.out; simp; omega))
          replace PM5 := hid (mown_kept PM5.out QS.out tq1 tq2 hgr)
          replace PV5 := hid (PV5.out.keptG hgr (fun v hv e => PV5.out.ne_blk QS.out tq1 v hv (by simpa using e)))
          replace HB := hid (HB.out.grown hgr HB.out.size (fun r e => by cases e; omega))
          replace QS := hid hbk
          clear hbk hgr
          refine hK.out _ _ ⟨PC5.out.cells4.1, PC5.out.cells4.2.1, PC5.out.cells4.2.2.1, PR5.out.cells7.1, PR5.out.cells7.2.1, PR5.out.cells7.2.2.1, PR5.out.cells7.2.2.2.1, PR5.out.cells7.2.2.2.2.1, PR5.out.cells7.2.2.2.2.2.1, PR5.out.cells7.2.2.2.2.2.2.1⟩ (fun hS' => ?_)
          clear hK K hS
          have hS := hS'
          clear hS'
          (try simp only [Act.put, List.setIfInBounds_toArray, List.set_cons_zero, List.set_cons_succ])
          refine wpAnyH_done (by kernel_rfl) ?_ _
          refine NoPanic.normal ?_
          clear hS
          go_wp2
          obtain ⟨v0, v1, v2, vf⟩ := QM.out.cells3
          obtain ⟨q0, q1, q2, q3, q4, q5, qf⟩ := QS.out.cells6
          refine bodyPost_ret (v := .tuple #[mv A5 n5 c5 B5 k5 d5 m2.2.2, .agg #[.int .i64 s2.a, .int .i64 s2.f, .slice V5 vn5 vc5, .int .i64 5, .int .u64 s2.bg, .int .i64 s2.wr]]) (by simp [results, Try.results50, go_sem, v0, v1, v2, q0, q1, q2, q3, q4, q5]) rfl ?_
          rw [HF.out]
          exact ⟨_, _, _, _, _, _, _, _, _, rfl, PM5.out, PV5.out, PF5.out, HB.out⟩
        exact AllReadyH.nil
      exact AllReadyH.nil
  by_cases hp2 : ph = 2
  · subst hp2
    have hru := HRES.out
    rw [if_neg (by decide), if_neg (by decide), if_pos rfl] at hru
    have hlk := run_look_yes (P := Try.prog) Try.underlying105 Try.underlying3 HMP.out 2 (i := 2) (v := .func (.func 66) #[ptr (W1.heap.size + 1)] #[]) rfl
    have eg := enters_of Try.func66 (by kernel_rfl) rfl
    have HRU := hid hru
    clear hru HRES
    obtain ⟨y00, y01, y02, y03, y04, y05, y06, yf0⟩ := PR.out.cells7
    obtain ⟨z0, z1, z2, z3, z4, z5, zf⟩ := PS.out.cells6
    go_wp2_with fail
    clear hlk z0 z1 z2 z3 z4 z5 zf
    clear y00 y01 y02 y03 y04 y05 y06 yf0
    refine (wdata_any (W1.heap.size + 1) W1.heap.size lo (ws, ls, ff) false ⟨a, f, vs, 2, bg, wr⟩ W3 HRM.out HG.out (by have h := HOK.out; obtain ⟨_, ⟨_, _, g1, g2, g3, _⟩, _, g4⟩ := h; have := HLV.out; dsimp only; omega)).mono ?_
    rw [← HRU.out]
    rintro e W4 ⟨rfl, hrm, hgp⟩
    dsimp only at hrm
    have hnp : ∀ i, i < W1.heap.size → ¬ (i = W1.heap.size + 1 ∨ i = W1.heap.size) := fun i hi e => by omega
    replace QM := hid (show Blk W4 _ _ _ from (hgp.block _ QM.out.lt (hnp _ (by have := hz.out; omega))).trans QM.out)
    replace QS := hid (show Blk W4 _ _ _ from (hgp.block _ QS.out.lt (hnp _ (by have := hz.out; omega))).trans QS.out)
    replace HB := hid (GrownP.below HB.out hgp (fun i hi => by have := hz.out; omega) HB.out.size)
    clear hnp hgp PM PS PC PR OV HM HRM HMP eg
    obtain ⟨⟨A5, n5, c5, B5, k5, d5, V5, vn5, vc5, h1, h2, h3, h4, h5⟩, h6⟩ := hrm
    have PC5 := hid h1; have PM5 := hid h2; have PR5 := hid h3; have PV5 := hid h4; have PF5 := hid h5
    clear h1 h2 h3 h4 h5 h6
    rcases l2 with _ | _
    · skip
      obtain ⟨y00, y01, y02, y03, y04, y05, y06, yf0⟩ := PR5.out.cells7
      obtain ⟨y10, y11, y12, y13, yf1⟩ := PC5.out.cells4
      go_upto_region 9 with fail
      clear y00 y01 y02 y03 y04 y05 y06 yf0 y10 y11 y12 y13 yf1
      have bx := (Below.refl W4.heap.size W4).drew
      replace PC5 := hid (PC5.out.step bx); replace PM5 := hid (PM5.out.step bx); replace PR5 := hid (PR5.out.step bx); replace PV5 := hid (PV5.out.step bx); replace QM := hid (QM.out.step bx); replace QS := hid (QS.out.step bx); replace HB := hid (below_then HB.out bx)
      clear bx
      have hszd := hid (show W4.drew.heap.size = W4.heap.size from rfl)
      refine wp_region_noPanic ?_
      refine wp_region_held_drew (S := (fun W' : World => W'.cell? ⟨W1.heap.size, 0, none⟩ = some (.slice A5 n5 c5) ∧ W'.cell? ⟨W1.heap.size, 1, none⟩ = some (.slice B5 k5 d5) ∧ W'.cell? ⟨W1.heap.size, 2, none⟩ = some (.bool m2.2.2) ∧ W'.cell? ⟨W1.heap.size + 1, 0, none⟩ = some (.int .i64 s2.a) ∧ W'.cell? ⟨W1.heap.size + 1, 1, none⟩ = some (.int .i64 s2.f) ∧ W'.cell? ⟨W1.heap.size + 1, 2, none⟩ = some (.slice V5 vn5 vc5) ∧ W'.cell? ⟨W1.heap.size + 1, 3, none⟩ = some (.int .i64 s2.ph) ∧ W'.cell? ⟨W1.heap.size + 1, 4, none⟩ = some (.int .u64 s2.bg) ∧ W'.cell? ⟨W1.heap.size + 1, 5, none⟩ = some (.int .i64 s2.wr) ∧ W'.cell? ⟨W1.heap.size + 1, 6, none⟩ = some (ptr W1.heap.size))) (by kernel_rfl) ⟨PC5.out.cells4.1, PC5.out.cells4.2.1, PC5.out.cells4.2.2.1, PR5.out.cells7.1, PR5.out.cells7.2.1, PR5.out.cells7.2.2.1, PR5.out.cells7.2.2.2.1, PR5.out.cells7.2.2.2.2.1, PR5.out.cells7.2.2.2.2.2.1, PR5.out.cells7.2.2.2.2.2.2.1⟩ (fun hS => ?_)
      generalize W4.drew = Wd at *
      refine wpAnyH_take (i := 0) (v := ?_) (by simp only [List.getElem?_toArray, List.getElem?_cons_succ, List.getElem?_cons_zero]; rfl) (by kernel_rfl) (by kernel_rfl) (by kernel_rfl) (fun _ _ _ h => h) (Or.inl ⟨by rfl, ?_⟩) hS ?_
      rotate_left
      · intro w' hSw; (try dsimp only at hSw); go_split_ands; go_simp; (try with_reducible rfl)
      (try simp only [Act.put, List.setIfInBounds_toArray, List.set_cons_zero, List.set_cons_succ])
      refine wpAnyH_take (i := 1) (v := ?_) (by simp only [List.getElem?_toArray, List.getElem?_cons_succ, List.getElem?_cons_zero]; rfl) (by kernel_rfl) (by kernel_rfl) (by kernel_rfl) (fun _ _ _ h => h) (Or.inl ⟨by rfl, ?_⟩) hS ?_
      rotate_left
      · intro w' hSw; (try dsimp only at hSw); go_split_ands; go_simp; (try with_reducible rfl)
      (try simp only [Act.put, List.setIfInBounds_toArray, List.set_cons_zero, List.set_cons_succ])
      refine wpAnyH_take (i := 2) (v := ?_) (by simp only [List.getElem?_toArray, List.getElem?_cons_succ, List.getElem?_cons_zero]; rfl) (by kernel_rfl) (by kernel_rfl) (by kernel_rfl) (fun _ _ _ h => h) (Or.inl ⟨by rfl, ?_⟩) hS ?_
      rotate_left
      · intro w' hSw; (try dsimp only at hSw); go_split_ands; go_simp; (try with_reducible rfl)
      (try simp only [Act.put, List.setIfInBounds_toArray, List.set_cons_zero, List.set_cons_succ])
      refine wpAnyH_take (i := 3) (v := ?_) (by simp only [List.getElem?_toArray, List.getElem?_cons_succ, List.getElem?_cons_zero]; rfl) (by kernel_rfl) (by kernel_rfl) (by kernel_rfl) (fun _ _ _ h => h) (Or.inl ⟨by rfl, ?_⟩) hS ?_
      rotate_left
      · intro w' hSw; (try dsimp only at hSw); go_split_ands; go_simp; (try with_reducible rfl)
      (try simp only [Act.put, List.setIfInBounds_toArray, List.set_cons_zero, List.set_cons_succ])
      refine wpAnyH_take (i := 4) (v := ?_) (by simp only [List.getElem?_toArray, List.getElem?_cons_succ, List.getElem?_cons_zero]; rfl) (by kernel_rfl) (by kernel_rfl) (by kernel_rfl) (fun _ _ _ h => h) (Or.inl ⟨by rfl, ?_⟩) hS ?_
      rotate_left
      · intro w' hSw; (try dsimp only at hSw); go_split_ands; go_simp; (try with_reducible rfl)
      (try simp only [Act.put, List.setIfInBounds_toArray, List.set_cons_zero, List.set_cons_succ])
      refine wpAnyH_take (i := 5) (v := ?_) (by simp only [List.getElem?_toArray, List.getElem?_cons_succ, List.getElem?_cons_zero]; rfl) (by kernel_rfl) (by kernel_rfl) (by kernel_rfl) (fun _ _ _ h => h) (Or.inl ⟨by rfl, ?_⟩) hS ?_
      rotate_left
      · intro w' hSw; (try dsimp only at hSw); go_split_ands; go_simp; (try with_reducible rfl)
      (try simp only [Act.put, List.setIfInBounds_toArray, List.set_cons_zero, List.set_cons_succ])
      refine wpAnyH_take (i := 6) (v := ?_) (by simp only [List.getElem?_toArray, List.getElem?_cons_succ, List.getElem?_cons_zero]; rfl) (by kernel_rfl) (by kernel_rfl) (by kernel_rfl) (fun _ _ _ h => h) (Or.inl ⟨by rfl, ?_⟩) hS ?_
      rotate_left
      · intro w' hSw; (try dsimp only at hSw); go_split_ands; go_simp; (try with_reducible rfl)
      (try simp only [Act.put, List.setIfInBounds_toArray, List.set_cons_zero, List.set_cons_succ])
      refine wpAnyH_take (i := 7) (v := ?_) (by simp only [List.getElem?_toArray, List.getElem?_cons_succ, List.getElem?_cons_zero]; rfl) (by kernel_rfl) (by kernel_rfl) (by kernel_rfl) (fun _ _ _ h => h) (Or.inl ⟨by rfl, ?_⟩) hS ?_
      rotate_left
      · intro w' hSw; (try dsimp only at hSw); go_split_ands; go_simp; (try with_reducible rfl)
      (try simp only [Act.put, List.setIfInBounds_toArray, List.set_cons_zero, List.set_cons_succ])
      refine wpAnyH_take (i := 8) (v := ?_) (by simp only [List.getElem?_toArray, List.getElem?_cons_succ, List.getElem?_cons_zero]; rfl) (by kernel_rfl) (by kernel_rfl) (by kernel_rfl) (fun _ _ _ h => h) (Or.inl ⟨by rfl, ?_⟩) hS ?_
      rotate_left
      · intro w' hSw; (try dsimp only at hSw); go_split_ands; go_simp; (try with_reducible rfl)
      (try simp only [Act.put, List.setIfInBounds_toArray, List.set_cons_zero, List.set_cons_succ])
      refine wpAnyH_take (i := 9) (v := ?_) (by simp only [List.getElem?_toArray, List.getElem?_cons_succ, List.getElem?_cons_zero]; rfl) (by kernel_rfl) (by kernel_rfl) (by kernel_rfl) (fun _ _ _ h => h) (Or.inl ⟨by rfl, ?_⟩) hS ?_
      rotate_left
      · intro w' hSw; (try dsimp only at hSw); go_split_ands; go_simp; (try with_reducible rfl)
      (try simp only [Act.put, List.setIfInBounds_toArray, List.set_cons_zero, List.set_cons_succ])
      refine wpAnyH_take (i := 10) (v := ?_) (by simp only [List.getElem?_toArray, List.getElem?_cons_succ, List.getElem?_cons_zero]; rfl) (by kernel_rfl) (by kernel_rfl) (by kernel_rfl) (fun _ _ _ h => h) (Or.inl ⟨by rfl, ?_⟩) hS ?_
      rotate_left
      · intro w' hSw; (try dsimp only at hSw); go_split_ands; go_simp; (try with_reducible rfl)
      (try simp only [Act.put, List.setIfInBounds_toArray, List.set_cons_zero, List.set_cons_succ])
      refine wpAnyH_ready (rs := [11]) (by kernel_rfl) (by simp) ?_
      refine AllReadyH.cons (by simp only [List.getElem?_toArray, List.getElem?_cons_succ, List.getElem?_cons_zero]; rfl) (fun K hK => ?_) ?_
      · skip
        obtain ⟨y00, y01, y02, yf0⟩ := QM.out.cells3
        go_simp
        clear y00 y01 y02 yf0
        refine named_store3 QM.out ?_
        intro Ws11 hbk hgr hsz
        have hsz0 := hid hsz
        clear hsz
        replace QS := hid (QS.out.grown hgr (by simp <;> omega))
        replace PC5 := hid (PC5.out.grown hgr (by have := hz.out; simp; omega))
        replace PR5 := hid (PR5.out.grown hgr (by have := hz.out; simp; omega))
        replace PM5 := hid (mown_kept PM5.out QM.out tm1 tm2 hgr)
        replace PV5 := hid (PV5.out.keptG hgr (fun v hv e => PV5.out.ne_blk QM.out tm1 v hv (by simpa using e)))
        replace HB := hid (HB.out.grown hgr HB.out.size (fun r e => by cases e; omega))
        replace QM := hid hbk
        clear hbk hgr
        refine hK.out _ _ ⟨PC5.out.cells4.1, PC5.out.cells4.2.1, PC5.out.cells4.2.2.1, PR5.out.cells7.1, PR5.out.cells7.2.1, PR5.out.cells7.2.2.1, PR5.out.cells7.2.2.2.1, PR5.out.cells7.2.2.2.2.1, PR5.out.cells7.2.2.2.2.2.1, PR5.out.cells7.2.2.2.2.2.2.1⟩ (fun hS' => ?_)
        clear hK K hS
        have hS := hS'
        clear hS'
        (try simp only [Act.put, List.setIfInBounds_toArray, List.set_cons_zero, List.set_cons_succ])
        refine wpAnyH_ready (rs := [12]) (by kernel_rfl) (by simp) ?_
        refine AllReadyH.cons (by simp only [List.getElem?_toArray, List.getElem?_cons_succ, List.getElem?_cons_zero]; rfl) (fun K hK => ?_) ?_
        · skip
          obtain ⟨y00, y01, y02, y03, y04, y05, yf0⟩ := QS.out.cells6
          go_simp
          clear y00 y01 y02 y03 y04 y05 yf0
          refine named_store_6_6_0 QS.out ?_
          intro Ws12 hbk hgr hsz
          have hsz1 := hid hsz
          clear hsz
          replace QM := hid (QM.out.grown hgr (by simp <;> omega))
          replace PC5 := hid (PC5.out.grown hgr (by have := hz.out; simp; omega))
          replace PR5 := hid (PR5.out.grown hgr (by have := hz.out; simp; omega))
          replace PM5 := hid (mown_kept PM5.out QS.out tq1 tq2 hgr)
          replace PV5 := hid (PV5.out.keptG hgr (fun v hv e => PV5.out.ne_blk QS.out tq1 v hv (by simpa using e)))
          replace HB := hid (HB.out.grown hgr HB.out.size (fun r e => by cases e; omega))
          replace QS := hid hbk
          clear hbk hgr
          refine hK.out _ _ ⟨PC5.out.cells4.1, PC5.out.cells4.2.1, PC5.out.cells4.2.2.1, PR5.out.cells7.1, PR5.out.cells7.2.1, PR5.out.cells7.2.2.1, PR5.out.cells7.2.2.2.1, PR5.out.cells7.2.2.2.2.1, PR5.out.cells7.2.2.2.2.2.1, PR5.out.cells7.2.2.2.2.2.2.1⟩ (fun hS' => ?_)
          clear hK K hS
          have hS := hS'
          clear hS'
          (try simp only [Act.put, List.setIfInBounds_toArray, List.set_cons_zero, List.set_cons_succ])
          refine wpAnyH_done (by kernel_rfl) ?_ _
          refine NoPanic.normal ?_
          clear hS
          go_wp2
          obtain ⟨v0, v1, v2, vf⟩ := QM.out.cells3
          obtain ⟨q0, q1, q2, q3, q4, q5, qf⟩ := QS.out.cells6
          refine bodyPost_ret (v := .tuple #[mv A5 n5 c5 B5 k5 d5 m2.2.2, .agg #[.int .i64 s2.a, .int .i64 s2.f, .slice V5 vn5 vc5, .int .i64 s2.ph, .int .u64 s2.bg, .int .i64 s2.wr]]) (by simp [results, Try.results50, go_sem, v0, v1, v2, q0, q1, q2, q3, q4, q5]) rfl ?_
          rw [HF.out]
          exact ⟨_, _, _, _, _, _, _, _, _, rfl, PM5.out, PV5.out, PF5.out, HB.out⟩
        exact AllReadyH.nil
      exact AllReadyH.nil
    · skip
      obtain ⟨y00, y01, y02, y03, y04, y05, y06, yf0⟩ := PR5.out.cells7
      obtain ⟨y10, y11, y12, y13, yf1⟩ := PC5.out.cells4
      go_upto_region 9 with fail
      clear y00 y01 y02 y03 y04 y05 y06 yf0 y10 y11 y12 y13 yf1
      have PR0 := PR5
      have hbk0 : Blk (W4.setCell ⟨W1.heap.size + 1, 3, none⟩ (.int .i64 5)) (W1.heap.size + 1) 109 #[.int .i64 s2.a, .int .i64 s2.f, .slice V5 vn5 vc5, .int .i64 5, .int .u64 s2.bg, .int .i64 s2.wr, ptr W1.heap.size] := PR5.out.setCell 3 (.int .i64 5)
      have hgr : W4.grownBy (W4.setCell ⟨W1.heap.size + 1, 3, none⟩ (.int .i64 5)) (some (W1.heap.size + 1)) := (grown_set (World.grownBy.refl W4 (some (W1.heap.size + 1))) 3 (.int .i64 5))
      replace PR5 := hid hbk0
      clear hbk0
      generalize W4.setCell ⟨W1.heap.size + 1, 3, none⟩ (.int .i64 5) = W6 at *
      replace PC5 := hid (PC5.out.grown hgr (by simp <;> omega))
      replace PM5 := hid (mown_kept PM5.out PR0.out tw1 tw2 hgr)
      replace PV5 := hid (PV5.out.keptG hgr (fun v hv e => PV5.out.ne_blk PR0.out tw1 v hv (by simpa using e)))
      replace QM := hid (QM.out.grown hgr (by have := hz.out; simp; omega))
      replace QS := hid (QS.out.grown hgr (by have := hz.out; simp; omega))
      replace HB := hid (HB.out.grown hgr HB.out.size (fun r e => by cases e; have := hz.out; omega))
      clear hgr PR0
      have bx := (Below.refl W6.heap.size W6).drew
      replace PC5 := hid (PC5.out.step bx); replace PM5 := hid (PM5.out.step bx); replace PR5 := hid (PR5.out.step bx); replace PV5 := hid (PV5.out.step bx); replace QM := hid (QM.out.step bx); replace QS := hid (QS.out.step bx); replace HB := hid (below_then HB.out bx)
      clear bx
      have hszd := hid (show W6.drew.heap.size = W6.heap.size from rfl)
      refine wp_region_noPanic ?_
      refine wp_region_held_drew (S := (fun W' : World => W'.cell? ⟨W1.heap.size, 0, none⟩ = some (.slice A5 n5 c5) ∧ W'.cell? ⟨W1.heap.size, 1, none⟩ = some (.slice B5 k5 d5) ∧ W'.cell? ⟨W1.heap.size, 2, none⟩ = some (.bool m2.2.2) ∧ W'.cell? ⟨W1.heap.size + 1, 0, none⟩ = some (.int .i64 s2.a) ∧ W'.cell? ⟨W1.heap.size + 1, 1, none⟩ = some (.int .i64 s2.f) ∧ W'.cell? ⟨W1.heap.size + 1, 2, none⟩ = some (.slice V5 vn5 vc5) ∧ W'.cell? ⟨W1.heap.size + 1, 3, none⟩ = some (.int .i64 5) ∧ W'.cell? ⟨W1.heap.size + 1, 4, none⟩ = some (.int .u64 s2.bg) ∧ W'.cell? ⟨W1.heap.size + 1, 5, none⟩ = some (.int .i64 s2.wr) ∧ W'.cell? ⟨W1.heap.size + 1, 6, none⟩ = some (ptr W1.heap.size))) (by kernel_rfl) ⟨PC5.out.cells4.1, PC5.out.cells4.2.1, PC5.out.cells4.2.2.1, PR5.out.cells7.1, PR5.out.cells7.2.1, PR5.out.cells7.2.2.1, PR5.out.cells7.2.2.2.1, PR5.out.cells7.2.2.2.2.1, PR5.out.cells7.2.2.2.2.2.1, PR5.out.cells7.2.2.2.2.2.2.1⟩ (fun hS => ?_)
      generalize W6.drew = Wd at *
      refine wpAnyH_take (i := 0) (v := ?_) (by simp only [List.getElem?_toArray, List.getElem?_cons_succ, List.getElem?_cons_zero]; rfl) (by kernel_rfl) (by kernel_rfl) (by kernel_rfl) (fun _ _ _ h => h) (Or.inl ⟨by rfl, ?_⟩) hS ?_
      rotate_left
      · intro w' hSw; (try dsimp only at hSw); go_split_ands; go_simp; (try with_reducible rfl)
      (try simp only [Act.put, List.setIfInBounds_toArray, List.set_cons_zero, List.set_cons_succ])
      refine wpAnyH_take (i := 1) (v := ?_) (by simp only [List.getElem?_toArray, List.getElem?_cons_succ, List.getElem?_cons_zero]; rfl) (by kernel_rfl) (by kernel_rfl) (by kernel_rfl) (fun _ _ _ h => h) (Or.inl ⟨by rfl, ?_⟩) hS ?_
      rotate_left
      · intro w' hSw; (try dsimp only at hSw); go_split_ands; go_simp; (try with_reducible rfl)
      (try simp only [Act.put, List.setIfInBounds_toArray, List.set_cons_zero, List.set_cons_succ])
      refine wpAnyH_take (i := 2) (v := ?_) (by simp only [List.getElem?_toArray, List.getElem?_cons_succ, List.getElem?_cons_zero]; rfl) (by kernel_rfl) (by kernel_rfl) (by kernel_rfl) (fun _ _ _ h => h) (Or.inl ⟨by rfl, ?_⟩) hS ?_
      rotate_left
      · intro w' hSw; (try dsimp only at hSw); go_split_ands; go_simp; (try with_reducible rfl)
      (try simp only [Act.put, List.setIfInBounds_toArray, List.set_cons_zero, List.set_cons_succ])
      refine wpAnyH_take (i := 3) (v := ?_) (by simp only [List.getElem?_toArray, List.getElem?_cons_succ, List.getElem?_cons_zero]; rfl) (by kernel_rfl) (by kernel_rfl) (by kernel_rfl) (fun _ _ _ h => h) (Or.inl ⟨by rfl, ?_⟩) hS ?_
      rotate_left
      · intro w' hSw; (try dsimp only at hSw); go_split_ands; go_simp; (try with_reducible rfl)
      (try simp only [Act.put, List.setIfInBounds_toArray, List.set_cons_zero, List.set_cons_succ])
      refine wpAnyH_take (i := 4) (v := ?_) (by simp only [List.getElem?_toArray, List.getElem?_cons_succ, List.getElem?_cons_zero]; rfl) (by kernel_rfl) (by kernel_rfl) (by kernel_rfl) (fun _ _ _ h => h) (Or.inl ⟨by rfl, ?_⟩) hS ?_
      rotate_left
      · intro w' hSw; (try dsimp only at hSw); go_split_ands; go_simp; (try with_reducible rfl)
      (try simp only [Act.put, List.setIfInBounds_toArray, List.set_cons_zero, List.set_cons_succ])
      refine wpAnyH_take (i := 5) (v := ?_) (by simp only [List.getElem?_toArray, List.getElem?_cons_succ, List.getElem?_cons_zero]; rfl) (by kernel_rfl) (by kernel_rfl) (by kernel_rfl) (fun _ _ _ h => h) (Or.inl ⟨by rfl, ?_⟩) hS ?_
      rotate_left
      · intro w' hSw; (try dsimp only at hSw); go_split_ands; go_simp; (try with_reducible rfl)
      (try simp only [Act.put, List.setIfInBounds_toArray, List.set_cons_zero, List.set_cons_succ])
      refine wpAnyH_take (i := 6) (v := ?_) (by simp only [List.getElem?_toArray, List.getElem?_cons_succ, List.getElem?_cons_zero]; rfl) (by kernel_rfl) (by kernel_rfl) (by kernel_rfl) (fun _ _ _ h => h) (Or.inl ⟨by rfl, ?_⟩) hS ?_
      rotate_left
      · intro w' hSw; (try dsimp only at hSw); go_split_ands; go_simp; (try with_reducible rfl)
      (try simp only [Act.put, List.setIfInBounds_toArray, List.set_cons_zero, List.set_cons_succ])
      refine wpAnyH_take (i := 7) (v := ?_) (by simp only [List.getElem?_toArray, List.getElem?_cons_succ, List.getElem?_cons_zero]; rfl) (by kernel_rfl) (by kernel_rfl) (by kernel_rfl) (fun _ _ _ h => h) (Or.inl ⟨by rfl, ?_⟩) hS ?_
      rotate_left
      · intro w' hSw; (try dsimp only at hSw); go_split_ands; go_simp; (try with_reducible rfl)
      (try simp only [Act.put, List.setIfInBounds_toArray, List.set_cons_zero, List.set_cons_succ])
      refine wpAnyH_take (i := 8) (v := ?_) (by simp only [List.getElem?_toArray, List.getElem?_cons_succ, List.getElem?_cons_zero]; rfl) (by kernel_rfl) (by kernel_rfl) (by kernel_rfl) (fun _ _ _ h => h) (Or.inl ⟨by rfl, ?_⟩) hS ?_
      rotate_left
      · intro w' hSw; (try dsimp only at hSw); go_split_ands; go_simp; (try with_reducible rfl)
      (try simp only [Act.put, List.setIfInBounds_toArray, List.set_cons_zero, List.set_cons_succ])
      refine wpAnyH_take (i := 9) (v := ?_) (by simp only [List.getElem?_toArray, List.getElem?_cons_succ, List.getElem?_cons_zero]; rfl) (by kernel_rfl) (by kernel_rfl) (by kernel_rfl) (fun _ _ _ h => h) (Or.inl ⟨by rfl, ?_⟩) hS ?_
      rotate_left
      · intro w' hSw; (try dsimp only at hSw); go_split_ands; go_simp; (try with_reducible rfl)
      (try simp only [Act.put, List.setIfInBounds_toArray, List.set_cons_zero, List.set_cons_succ])
      refine wpAnyH_take (i := 10) (v := ?_) (by simp only [List.getElem?_toArray, List.getElem?_cons_succ, List.getElem?_cons_zero]; rfl) (by kernel_rfl) (by kernel_rfl) (by kernel_rfl) (fun _ _ _ h => h) (Or.inl ⟨by rfl, ?_⟩) hS ?_
      rotate_left
      · intro w' hSw; (try dsimp only at hSw); go_split_ands; go_simp; (try with_reducible rfl)
      (try simp only [Act.put, List.setIfInBounds_toArray, List.set_cons_zero, List.set_cons_succ])
      refine wpAnyH_ready (rs := [11]) (by kernel_rfl) (by simp) ?_
      refine AllReadyH.cons (by simp only [List.getElem?_toArray, List.getElem?_cons_succ, List.getElem?_cons_zero]; rfl) (fun K hK => ?_) ?_
      · skip
        obtain ⟨y00, y01, y02, yf0⟩ := QM.out.cells3
        go_simp
        clear y00 y01 y02 yf0
        refine named_store3 QM.out ?_
        intro Ws11 hbk hgr hsz
        have hsz0 := hid hsz
        clear hsz
        replace QS := hid (QS.out.grown hgr (by simp <;> omega))
        replace PC5 := hid (PC5.out.grown hgr (by have := hz.out; simp; omega))
        replace PR5 := hid (PR5.out.grown hgr (by have := hz.out; simp; omega))
        replace PM5 := hid (mown_kept PM5.out QM.out tm1 tm2 hgr)
        replace PV5 := hid (PV5.out.keptG hgr (fun v hv e => PV5.out.ne_blk QM.out tm1 v hv (by simpa using e)))
        replace HB := hid (HB.out.grown hgr HB.out.size (fun r e => by cases e; omega))
        replace QM := hid hbk
        clear hbk hgr
        refine hK.out _ _ ⟨PC5.out.cells4.1, PC5.out.cells4.2.1, PC5.out.cells4.2.2.1, PR5.out.cells7.1, PR5.out.cells7.2.1, PR5.out.cells7.2.2.1, PR5.out.cells7.2.2.2.1, PR5.out.cells7.2.2.2.2.1, PR5.out.cells7.2.2.2.2.2.1, PR5.out.cells7.2.2.2.2.2.2.1⟩ (fun hS' => ?_)
        clear hK K hS
        have hS := hS'
        clear hS'
        (try simp only [Act.put, List.setIfInBounds_toArray, List.set_cons_zero, List.set_cons_succ])
        refine wpAnyH_ready (rs := [12]) (by kernel_rfl) (by simp) ?_
        refine AllReadyH.cons (by simp only [List.getElem?_toArray, List.getElem?_cons_succ, List.getElem?_cons_zero]; rfl) (fun K hK => ?_) ?_
        · skip
          obtain ⟨y00, y01, y02, y03, y04, y05, yf0⟩ := QS.out.cells6
          go_simp
          clear y00 y01 y02 y03 y04 y05 yf0
          refine named_store_6_6_0 QS.out ?_
          intro Ws12 hbk hgr hsz
          have hsz1 := hid hsz
          clear hsz
          replace QM := hid (QM.out.grown hgr (by simp <;> omega))
          replace PC5 := hid (PC5.out.grown hgr (by have := hz.out; simp; omega))
          replace PR5 := hid (PR5.out.grown hgr (by have := hz.out; simp; omega))
          replace PM5 := hid (mown_kept PM5.out QS.out tq1 tq2 hgr)
          replace PV5 := hid (PV5.out.keptG hgr (fun v hv e => PV5.out.ne_blk QS.out tq1 v hv (by simpa using e)))
          replace HB := hid (HB.out.grown hgr HB.out.size (fun r e => by cases e; omega))
          replace QS := hid hbk
          clear hbk hgr
          refine hK.out _ _ ⟨PC5.out.cells4.1, PC5.out.cells4.2.1, PC5.out.cells4.2.2.1, PR5.out.cells7.1, PR5.out.cells7.2.1, PR5.out.cells7.2.2.1, PR5.out.cells7.2.2.2.1, PR5.out.cells7.2.2.2.2.1, PR5.out.cells7.2.2.2.2.2.1, PR5.out.cells7.2.2.2.2.2.2.1⟩ (fun hS' => ?_)
          clear hK K hS
          have hS := hS'
          clear hS'
          (try simp only [Act.put, List.setIfInBounds_toArray, List.set_cons_zero, List.set_cons_succ])
          refine wpAnyH_done (by kernel_rfl) ?_ _
          refine NoPanic.normal ?_
          clear hS
          go_wp2
          obtain ⟨v0, v1, v2, vf⟩ := QM.out.cells3
          obtain ⟨q0, q1, q2, q3, q4, q5, qf⟩ := QS.out.cells6
          refine bodyPost_ret (v := .tuple #[mv A5 n5 c5 B5 k5 d5 m2.2.2, .agg #[.int .i64 s2.a, .int .i64 s2.f, .slice V5 vn5 vc5, .int .i64 5, .int .u64 s2.bg, .int .i64 s2.wr]]) (by simp [results, Try.results50, go_sem, v0, v1, v2, q0, q1, q2, q3, q4, q5]) rfl ?_
          rw [HF.out]
          exact ⟨_, _, _, _, _, _, _, _, _, rfl, PM5.out, PV5.out, PF5.out, HB.out⟩
        exact AllReadyH.nil
      exact AllReadyH.nil
  by_cases hp3 : ph = 3
  · subst hp3
    have hru := HRES.out
    rw [if_neg (by decide), if_neg (by decide), if_neg (by decide), if_pos rfl] at hru
    have hlk := run_look_yes (P := Try.prog) Try.underlying105 Try.underlying3 HMP.out 3 (i := 3) (v := .func (.func 67) #[ptr (W1.heap.size + 1)] #[]) rfl
    have eg := enters_of Try.func67 (by kernel_rfl) rfl
    have HRU := hid hru
    clear hru HRES
    obtain ⟨y00, y01, y02, y03, y04, y05, y06, yf0⟩ := PR.out.cells7
    obtain ⟨z0, z1, z2, z3, z4, z5, zf⟩ := PS.out.cells6
    go_wp2_with fail
    clear hlk z0 z1 z2 z3 z4 z5 zf
    clear y00 y01 y02 y03 y04 y05 y06 yf0
    refine (wclose_any (W1.heap.size + 1) W1.heap.size lo (ws, ls, ff) false ⟨a, f, vs, 3, bg, wr⟩ W3 HRM.out HG.out).mono ?_
    rw [← HRU.out]
    rintro e W4 ⟨rfl, hrm, hgp⟩
    dsimp only at hrm
    have hnp : ∀ i, i < W1.heap.size → ¬ (i = W1.heap.size + 1 ∨ i = W1.heap.size) := fun i hi e => by omega
    replace QM := hid (show Blk W4 _ _ _ from (hgp.block _ QM.out.lt (hnp _ (by have := hz.out; omega))).trans QM.out)
    replace QS := hid (show Blk W4 _ _ _ from (hgp.block _ QS.out.lt (hnp _ (by have := hz.out; omega))).trans QS.out)
    replace HB := hid (GrownP.below HB.out hgp (fun i hi => by have := hz.out; omega) HB.out.size)
    clear hnp hgp PM PS PC PR OV HM HRM HMP eg
    obtain ⟨⟨A5, n5, c5, B5, k5, d5, V5, vn5, vc5, h1, h2, h3, h4, h5⟩, h6⟩ := hrm
    have PC5 := hid h1; have PM5 := hid h2; have PR5 := hid h3; have PV5 := hid h4; have PF5 := hid h5
    clear h1 h2 h3 h4 h5 h6
    rcases l2 with _ | _
    · skip
      obtain ⟨y00, y01, y02, y03, y04, y05, y06, yf0⟩ := PR5.out.cells7
      obtain ⟨y10, y11, y12, y13, yf1⟩ := PC5.out.cells4
      go_upto_region 9 with fail
      clear y00 y01 y02 y03 y04 y05 y06 yf0 y10 y11 y12 y13 yf1
      have bx := (Below.refl W4.heap.size W4).drew
      replace PC5 := hid (PC5.out.step bx); replace PM5 := hid (PM5.out.step bx); replace PR5 := hid (PR5.out.step bx); replace PV5 := hid (PV5.out.step bx); replace QM := hid (QM.out.step bx); replace QS := hid (QS.out.step bx); replace HB := hid (below_then HB.out bx)
      clear bx
      have hszd := hid (show W4.drew.heap.size = W4.heap.size from rfl)
      refine wp_region_noPanic ?_
      refine wp_region_held_drew (S := (fun W' : World => W'.cell? ⟨W1.heap.size, 0, none⟩ = some (.slice A5 n5 c5) ∧ W'.cell? ⟨W1.heap.size, 1, none⟩ = some (.slice B5 k5 d5) ∧ W'.cell? ⟨W1.heap.size, 2, none⟩ = some (.bool m2.2.2) ∧ W'.cell? ⟨W1.heap.size + 1, 0, none⟩ = some (.int .i64 s2.a) ∧ W'.cell? ⟨W1.heap.size + 1, 1, none⟩ = some (.int .i64 s2.f) ∧ W'.cell? ⟨W1.heap.size + 1, 2, none⟩ = some (.slice V5 vn5 vc5) ∧ W'.cell? ⟨W1.heap.size + 1, 3, none⟩ = some (.int .i64 s2.ph) ∧ W'.cell? ⟨W1.heap.size + 1, 4, none⟩ = some (.int .u64 s2.bg) ∧ W'.cell? ⟨W1.heap.size + 1, 5, none⟩ = some (.int .i64 s2.wr) ∧ W'.cell? ⟨W1.heap.size + 1, 6, none⟩ = some (ptr W1.heap.size))) (by kernel_rfl) ⟨PC5.out.cells4.1, PC5.out.cells4.2.1, PC5.out.cells4.2.2.1, PR5.out.cells7.1, PR5.out.cells7.2.1, PR5.out.cells7.2.2.1, PR5.out.cells7.2.2.2.1, PR5.out.cells7.2.2.2.2.1, PR5.out.cells7.2.2.2.2.2.1, PR5.out.cells7.2.2.2.2.2.2.1⟩ (fun hS => ?_)
      generalize W4.drew = Wd at *
      refine wpAnyH_take (i := 0) (v := ?_) (by simp only [List.getElem?_toArray, List.getElem?_cons_succ, List.getElem?_cons_zero]; rfl) (by kernel_rfl) (by kernel_rfl) (by kernel_rfl) (fun _ _ _ h => h) (Or.inl ⟨by rfl, ?_⟩) hS ?_
      rotate_left
      · intro w' hSw; (try dsimp only at hSw); go_split_ands; go_simp; (try with_reducible rfl)
      (try simp only [Act.put, List.setIfInBounds_toArray, List.set_cons_zero, List.set_cons_succ])
      refine wpAnyH_take (i := 1) (v := ?_) (by simp only [List.getElem?_toArray, List.getElem?_cons_succ, List.getElem?_cons_zero]; rfl) (by kernel_rfl) (by kernel_rfl) (by kernel_rfl) (fun _ _ _ h => h) (Or.inl ⟨by rfl, ?_⟩) hS ?_
      rotate_left
      · intro w' hSw; (try dsimp only at hSw); go_split_ands; go_simp; (try with_reducible rfl)
      (try simp only [Act.put, List.setIfInBounds_toArray, List.set_cons_zero, List.set_cons_succ])
      refine wpAnyH_take (i := 2) (v := ?_) (by simp only [List.getElem?_toArray, List.getElem?_cons_succ, List.getElem?_cons_zero]; rfl) (by kernel_rfl) (by kernel_rfl) (by kernel_rfl) (fun _ _ _ h => h) (Or.inl ⟨by rfl, ?_⟩) hS ?_
      rotate_left
      · intro w' hSw; (try dsimp only at hSw); go_split_ands; go_simp; (try with_reducible rfl)
      (try simp only [Act.put, List.setIfInBounds_toArray, List.set_cons_zero, List.set_cons_succ])
      refine wpAnyH_take (i := 3) (v := ?_) (by simp only [List.getElem?_toArray, List.getElem?_cons_succ, List.getElem?_cons_zero]; rfl) (by kernel_rfl) (by kernel_rfl) (by kernel_rfl) (fun _ _ _ h => h) (Or.inl ⟨by rfl, ?_⟩) hS ?_
      rotate_left
      · intro w' hSw; (try dsimp only at hSw); go_split_ands; go_simp; (try with_reducible rfl)
      (try simp only [Act.put, List.setIfInBounds_toArray, List.set_cons_zero, List.set_cons_succ])
      refine wpAnyH_take (i := 4) (v := ?_) (by simp only [List.getElem?_toArray, List.getElem?_cons_succ, List.getElem?_cons_zero]; rfl) (by kernel_rfl) (by kernel_rfl) (by kernel_rfl) (fun _ _ _ h => h) (Or.inl ⟨by rfl, ?_⟩) hS ?_
      rotate_left
      · intro w' hSw; (try dsimp only at hSw); go_split_ands; go_simp; (try with_reducible rfl)
      (try simp only [Act.put, List.setIfInBounds_toArray, List.set_cons_zero, List.set_cons_succ])
      refine wpAnyH_take (i := 5) (v := ?_) (by simp only [List.getElem?_toArray, List.getElem?_cons_succ, List.getElem?_cons_zero]; rfl) (by kernel_rfl) (by kernel_rfl) (by kernel_rfl) (fun _ _ _ h => h) (Or.inl ⟨by rfl, ?_⟩) hS ?_
      rotate_left
      · intro w' hSw; (try dsimp only at hSw); go_split_ands; go_simp; (try with_reducible rfl)
      (try simp only [Act.put, List.setIfInBounds_toArray, List.set_cons_zero, List.set_cons_succ])
      refine wpAnyH_take (i := 6) (v := ?_) (by simp only [List.getElem?_toArray, List.getElem?_cons_succ, List.getElem?_cons_zero]; rfl) (by kernel_rfl) (by kernel_rfl) (by kernel_rfl) (fun _ _ _ h => h) (Or.inl ⟨by rfl, ?_⟩) hS ?_
      rotate_left
      · intro w' hSw; (try dsimp only at hSw); go_split_ands; go_simp; (try with_reducible rfl)
      (try simp only [Act.put, List.setIfInBounds_toArray, List.set_cons_zero, List.set_cons_succ])
      refine wpAnyH_take (i := 7) (v := ?_) (by simp only [List.getElem?_toArray, List.getElem?_cons_succ, List.getElem?_cons_zero]; rfl) (by kernel_rfl) (by kernel_rfl) (by kernel_rfl) (fun _ _ _ h => h) (Or.inl ⟨by rfl, ?_⟩) hS ?_
      rotate_left
      · intro w' hSw; (try dsimp only at hSw); go_split_ands; go_simp; (try with_reducible rfl)
      (try simp only [Act.put, List.setIfInBounds_toArray, List.set_cons_zero, List.set_cons_succ])
      refine wpAnyH_take (i := 8) (v := ?_) (by simp only [List.getElem?_toArray, List.getElem?_cons_succ, List.getElem?_cons_zero]; rfl) (by kernel_rfl) (by kernel_rfl) (by kernel_rfl) (fun _ _ _ h => h) (Or.inl ⟨by rfl, ?_⟩) hS ?_
      rotate_left
      · intro w' hSw; (try dsimp only at hSw); go_split_ands; go_simp; (try with_reducible rfl)
      (try simp only [Act.put, List.setIfInBounds_toArray, List.set_cons_zero, List.set_cons_succ])
      refine wpAnyH_take (i := 9) (v := ?_) (by simp only [List.getElem?_toArray, List.getElem?_cons_succ, List.getElem?_cons_zero]; rfl) (by kernel_rfl) (by kernel_rfl) (by kernel_rfl) (fun _ _ _ h => h) (Or.inl ⟨by rfl, ?_⟩) hS ?_
      rotate_left
      · intro w' hSw; (try dsimp only at hSw); go_split_ands; go_simp; (try with_reducible rfl)
      (try simp only [Act.put, List.setIfInBounds_toArray, List.set_cons_zero, List.set_cons_succ])
      refine wpAnyH_take (i := 10) (v := ?_) (by simp only [List.getElem?_toArray, List.getElem?_cons_succ, List.getElem?_cons_zero]; rfl) (by kernel_rfl) (by kernel_rfl) (by kernel_rfl) (fun _ _ _ h => h) (Or.inl ⟨by rfl, ?_⟩) hS ?_
      rotate_left
      · intro w' hSw; (try dsimp only at hSw); go_split_ands; go_simp; (try with_reducible rfl)
      (try simp only [Act.put, List.setIfInBounds_toArray, List.set_cons_zero, List.set_cons_succ])
      refine wpAnyH_ready (rs := [11]) (by kernel_rfl) (by simp) ?_
      refine AllReadyH.cons (by simp only [List.getElem?_toArray, List.getElem?_cons_succ, List.getElem?_cons_zero]; rfl) (fun K hK => ?_) ?_
      · skip
        obtain ⟨y00, y01, y02, yf0⟩ := QM.out.cells3
        go_simp
        clear y00 y01 y02 yf0
        refine named_store3 QM.out ?_
        intro Ws11 hbk hgr hsz
        have hsz0 := hid hsz
        clear hsz
        replace QS := hid (QS.out.grown hgr (by simp <;> omega))
        replace PC5 := hid (PC5.out.grown hgr (by have := hz.out; simp; omega))
        replace PR5 := hid (PR5.out.grown hgr (by have := hz.out; simp; omega))
        replace PM5 := hid (mown_kept PM5.out QM.out tm1 tm2 hgr)
        replace PV5 := hid (PV5.out.keptG hgr (fun v hv e => PV5.out.ne_blk QM.out tm1 v hv (by simpa using e)))
        replace HB := hid (HB.out.grown hgr HB.out.size (fun r e => by cases e; omega))
        replace QM := hid hbk
        clear hbk hgr
        refine hK.out _ _ ⟨PC5.out.cells4.1, PC5.out.cells4.2.1, PC5.out.cells4.2.2.1, PR5.out.cells7.1, PR5.out.cells7.2.1, PR5.out.cells7.2.2.1, PR5.out.cells7.2.2.2.1, PR5.out.cells7.2.2.2.2.1, PR5.out.cells7.2.2.2.2.2.1, PR5.out.cells7.2.2.2.2.2.2.1⟩ (fun hS' => ?_)
        clear hK K hS
        have hS := hS'
        clear hS'
        (try simp only [Act.put, List.setIfInBounds_toArray, List.set_cons_zero, List.set_cons_succ])
        refine wpAnyH_ready (rs := [12]) (by kernel_rfl) (by simp) ?_
        refine AllReadyH.cons (by simp only [List.getElem?_toArray, List.getElem?_cons_succ, List.getElem?_cons_zero]; rfl) (fun K hK => ?_) ?_
        · skip
          obtain ⟨y00, y01, y02, y03, y04, y05, yf0⟩ := QS.out.cells6
          go_simp
          clear y00 y01 y02 y03 y04 y05 yf0
          refine named_store_6_6_0 QS.out ?_
          intro Ws12 hbk hgr hsz
          have hsz1 := hid hsz
          clear hsz
          replace QM := hid (QM.out.grown hgr (by simp <;> omega))
          replace PC5 := hid (PC5.out.grown hgr (by have := hz.out; simp; omega))
          replace PR5 := hid (PR5.out.grown hgr (by have := hz.out; simp; omega))
          replace PM5 := hid (mown_kept PM5.out QS.out tq1 tq2 hgr)
          replace PV5 := hid (PV5.out.keptG hgr (fun v hv e => PV5.out.ne_blk QS.out tq1 v hv (by simpa using e)))
          replace HB := hid (HB.out.grown hgr HB.out.size (fun r e => by cases e; omega))
          replace QS := hid hbk
          clear hbk hgr
          refine hK.out _ _ ⟨PC5.out.cells4.1, PC5.out.cells4.2.1, PC5.out.cells4.2.2.1, PR5.out.cells7.1, PR5.out.cells7.2.1, PR5.out.cells7.2.2.1, PR5.out.cells7.2.2.2.1, PR5.out.cells7.2.2.2.2.1, PR5.out.cells7.2.2.2.2.2.1, PR5.out.cells7.2.2.2.2.2.2.1⟩ (fun hS' => ?_)
          clear hK K hS
          have hS := hS'
          clear hS'
          (try simp only [Act.put, List.setIfInBounds_toArray, List.set_cons_zero, List.set_cons_succ])
          refine wpAnyH_done (by kernel_rfl) ?_ _
          refine NoPanic.normal ?_
          clear hS
          go_wp2
          obtain ⟨v0, v1, v2, vf⟩ := QM.out.cells3
          obtain ⟨q0, q1, q2, q3, q4, q5, qf⟩ := QS.out.cells6
          refine bodyPost_ret (v := .tuple #[mv A5 n5 c5 B5 k5 d5 m2.2.2, .agg #[.int .i64 s2.a, .int .i64 s2.f, .slice V5 vn5 vc5, .int .i64 s2.ph, .int .u64 s2.bg, .int .i64 s2.wr]]) (by simp [results, Try.results50, go_sem, v0, v1, v2, q0, q1, q2, q3, q4, q5]) rfl ?_
          rw [HF.out]
          exact ⟨_, _, _, _, _, _, _, _, _, rfl, PM5.out, PV5.out, PF5.out, HB.out⟩
        exact AllReadyH.nil
      exact AllReadyH.nil
    · skip
      obtain ⟨y00, y01, y02, y03, y04, y05, y06, yf0⟩ := PR5.out.cells7
      obtain ⟨y10, y11, y12, y13, yf1⟩ := PC5.out.cells4
      go_upto_region 9 with fail
      clear y00 y01 y02 y03 y04 y05 y06 yf0 y10 y11 y12 y13 yf1
      have PR0 := PR5
      have hbk0 : Blk (W4.setCell ⟨W1.heap.size + 1, 3, none⟩ (.int .i64 5)) (W1.heap.size + 1) 109 #[.int .i64 s2.a, .int .i64 s2.f, .slice V5 vn5 vc5, .int .i64 5, .int .u64 s2.bg, .int .i64 s2.wr, ptr W1.heap.size] := PR5.out.setCell 3 (.int .i64 5)
      have hgr : W4.grownBy (W4.setCell ⟨W1.heap.size + 1, 3, none⟩ (.int .i64 5)) (some (W1.heap.size + 1)) := (grown_set (World.grownBy.refl W4 (some (W1.heap.size + 1))) 3 (.int .i64 5))
      replace PR5 := hid hbk0
      clear hbk0
      generalize W4.setCell ⟨W1.heap.size + 1, 3, none⟩ (.int .i64 5) = W6 at *
      replace PC5 := hid (PC5.out.grown hgr (by simp <;> omega))
      replace PM5 := hid (mown_kept PM5.out PR0.out tw1 tw2 hgr)
      replace PV5 := hid (PV5.out.keptG hgr (fun v hv e => PV5.out.ne_blk PR0.out tw1 v hv (by simpa using e)))
      replace QM := hid (QM.out.grown hgr (by have := hz.out; simp; omega))
      replace QS := hid (QS.out.grown hgr (by have := hz.out; simp; omega))
      replace HB := hid (HB.out.grown hgr HB.out.size (fun r e => by cases e; have := hz.out; omega))
      clear hgr PR0
      have bx := (Below.refl W6.heap.size W6).drew
      replace PC5 := hid (PC5.out.step bx); replace PM5 := hid (PM5.out.step bx); replace PR5 := hid (PR5.out.step bx); replace PV5 := hid (PV5.out.step bx); replace QM := hid (QM.out.step bx); replace QS := hid (QS.out.step bx); replace HB := hid (below_then HB.out bx)
      clear bx
      have hszd := hid (show W6.drew.heap.size = W6.heap.size from rfl)
      refine wp_region_noPanic ?_
      refine wp_region_held_drew (S := (fun W' : World => W'.cell? ⟨W1.heap.size, 0, none⟩ = some (.slice A5 n5 c5) ∧ W'.cell? ⟨W1.heap.size, 1, none⟩ = some (.slice B5 k5 d5) ∧ W'.cell? ⟨W1.heap.size, 2, none⟩ = some (.bool m2.2.2) ∧ W'.cell? ⟨W1.heap.size + 1, 0, none⟩ = some (.int .i64 s2.a) ∧ W'.cell? ⟨W1.heap.size + 1, 1, none⟩ = some (.int .i64 s2.f) ∧ W'.cell? ⟨W1.heap.size + 1, 2, none⟩ = some (.slice V5 vn5 vc5) ∧ W'.cell? ⟨W1.heap.size + 1, 3, none⟩ = some (.int .i64 5) ∧ W'.cell? ⟨W1.heap.size + 1, 4, none⟩ = some (.int .u64 s2.bg) ∧ W'.cell? ⟨W1.heap.size + 1, 5, none⟩ = some (.int .i64 s2.wr) ∧ W'.cell? ⟨W1.heap.size + 1, 6, none⟩ = some (ptr W1.heap.size))) (by kernel_rfl) ⟨PC5.out.cells4.1, PC5.out.cells4.2.1, PC5.out.cells4.2.2.1, PR5.out.cells7.1, PR5.out.cells7.2.1, PR5.out.cells7.2.2.1, PR5.out.cells7.2.2.2.1, PR5.out.cells7.2.2.2.2.1, PR5.out.cells7.2.2.2.2.2.1, PR5.out.cells7.2.2.2.2.2.2.1⟩ (fun hS => ?_)
      generalize W6.drew = Wd at *
      refine wpAnyH_take (i := 0) (v := ?_) (by simp only [List.getElem?_toArray, List.getElem?_cons_succ, List.getElem?_cons_zero]; rfl) (by kernel_rfl) (by kernel_rfl) (by kernel_rfl) (fun _ _ _ h => h) (Or.inl ⟨by rfl, ?_⟩) hS ?_
      rotate_left
      · intro w' hSw; (try dsimp only at hSw); go_split_ands; go_simp; (try with_reducible rfl)
      (try simp only [Act.put, List.setIfInBounds_toArray, List.set_cons_zero, List.set_cons_succ])
      refine wpAnyH_take (i := 1) (v := ?_) (by simp only [List.getElem?_toArray, List.getElem?_cons_succ, List.getElem?_cons_zero]; rfl) (by kernel_rfl) (by kernel_rfl) (by kernel_rfl) (fun _ _ _ h => h) (Or.inl ⟨by rfl, ?_⟩) hS ?_
      rotate_left
      · intro w' hSw; (try dsimp only at hSw); go_split_ands; go_simp; (try with_reducible rfl)
      (try simp only [Act.put, List.setIfInBounds_toArray, List.set_cons_zero, List.set_cons_succ])
      refine wpAnyH_take (i := 2) (v := ?_) (by simp only [List.getElem?_toArray, List.getElem?_cons_succ, List.getElem?_cons_zero]; rfl) (by kernel_rfl) (by kernel_rfl) (by kernel_rfl) (fun _ _ _ h => h) (Or.inl ⟨by rfl, ?_⟩) hS ?_
      rotate_left
      · intro w' hSw; (try dsimp only at hSw); go_split_ands; go_simp; (try with_reducible rfl)
      (try simp only [Act.put, List.setIfInBounds_toArray, List.set_cons_zero, List.set_cons_succ])
      refine wpAnyH_take (i := 3) (v := ?_) (by simp only [List.getElem?_toArray, List.getElem?_cons_succ, List.getElem?_cons_zero]; rfl) (by kernel_rfl) (by kernel_rfl) (by kernel_rfl) (fun _ _ _ h => h) (Or.inl ⟨by rfl, ?_⟩) hS ?_
      rotate_left
      · intro w' hSw; (try dsimp only at hSw); go_split_ands; go_simp; (try with_reducible rfl)
      (try simp only [Act.put, List.setIfInBounds_toArray, List.set_cons_zero, List.set_cons_succ])
      refine wpAnyH_take (i := 4) (v := ?_) (by simp only [List.getElem?_toArray, List.getElem?_cons_succ, List.getElem?_cons_zero]; rfl) (by kernel_rfl) (by kernel_rfl) (by kernel_rfl) (fun _ _ _ h => h) (Or.inl ⟨by rfl, ?_⟩) hS ?_
      rotate_left
      · intro w' hSw; (try dsimp only at hSw); go_split_ands; go_simp; (try with_reducible rfl)
      (try simp only [Act.put, List.setIfInBounds_toArray, List.set_cons_zero, List.set_cons_succ])
      refine wpAnyH_take (i := 5) (v := ?_) (by simp only [List.getElem?_toArray, List.getElem?_cons_succ, List.getElem?_cons_zero]; rfl) (by kernel_rfl) (by kernel_rfl) (by kernel_rfl) (fun _ _ _ h => h) (Or.inl ⟨by rfl, ?_⟩) hS ?_
      rotate_left
      · intro w' hSw; (try dsimp only at hSw); go_split_ands; go_simp; (try with_reducible rfl)
      (try simp only [Act.put, List.setIfInBounds_toArray, List.set_cons_zero, List.set_cons_succ])
      refine wpAnyH_take (i := 6) (v := ?_) (by simp only [List.getElem?_toArray, List.getElem?_cons_succ, List.getElem?_cons_zero]; rfl) (by kernel_rfl) (by kernel_rfl) (by kernel_rfl) (fun _ _ _ h => h) (Or.inl ⟨by rfl, ?_⟩) hS ?_
      rotate_left
      · intro w' hSw; (try dsimp only at hSw); go_split_ands; go_simp; (try with_reducible rfl)
      (try simp only [Act.put, List.setIfInBounds_toArray, List.set_cons_zero, List.set_cons_succ])
      refine wpAnyH_take (i := 7) (v := ?_) (by simp only [List.getElem?_toArray, List.getElem?_cons_succ, List.getElem?_cons_zero]; rfl) (by kernel_rfl) (by kernel_rfl) (by kernel_rfl) (fun _ _ _ h => h) (Or.inl ⟨by rfl, ?_⟩) hS ?_
      rotate_left
      · intro w' hSw; (try dsimp only at hSw); go_split_ands; go_simp; (try with_reducible rfl)
      (try simp only [Act.put, List.setIfInBounds_toArray, List.set_cons_zero, List.set_cons_succ])
      refine wpAnyH_take (i := 8) (v := ?_) (by simp only [List.getElem?_toArray, List.getElem?_cons_succ, List.getElem?_cons_zero]; rfl) (by kernel_rfl) (by kernel_rfl) (by kernel_rfl) (fun _ _ _ h => h) (Or.inl ⟨by rfl, ?_⟩) hS ?_
      rotate_left
      · intro w' hSw; (try dsimp only at hSw); go_split_ands; go_simp; (try with_reducible rfl)
      (try simp only [Act.put, List.setIfInBounds_toArray, List.set_cons_zero, List.set_cons_succ])
      refine wpAnyH_take (i := 9) (v := ?_) (by simp only [List.getElem?_toArray, List.getElem?_cons_succ, List.getElem?_cons_zero]; rfl) (by kernel_rfl) (by kernel_rfl) (by kernel_rfl) (fun _ _ _ h => h) (Or.inl ⟨by rfl, ?_⟩) hS ?_
      rotate_left
      · intro w' hSw; (try dsimp only at hSw); go_split_ands; go_simp; (try with_reducible rfl)
      (try simp only [Act.put, List.setIfInBounds_toArray, List.set_cons_zero, List.set_cons_succ])
      refine wpAnyH_take (i := 10) (v := ?_) (by simp only [List.getElem?_toArray, List.getElem?_cons_succ, List.getElem?_cons_zero]; rfl) (by kernel_rfl) (by kernel_rfl) (by kernel_rfl) (fun _ _ _ h => h) (Or.inl ⟨by rfl, ?_⟩) hS ?_
      rotate_left
      · intro w' hSw; (try dsimp only at hSw); go_split_ands; go_simp; (try with_reducible rfl)
      (try simp only [Act.put, List.setIfInBounds_toArray, List.set_cons_zero, List.set_cons_succ])
      refine wpAnyH_ready (rs := [11]) (by kernel_rfl) (by simp) ?_
      refine AllReadyH.cons (by simp only [List.getElem?_toArray, List.getElem?_cons_succ, List.getElem?_cons_zero]; rfl) (fun K hK => ?_) ?_
      · skip
        obtain ⟨y00, y01, y02, yf0⟩ := QM.out.cells3
        go_simp
        clear y00 y01 y02 yf0
        refine named_store3 QM.out ?_
        intro Ws11 hbk hgr hsz
        have hsz0 := hid hsz
        clear hsz
        replace QS := hid (QS.out.grown hgr (by simp <;> omega))
        replace PC5 := hid (PC5.out.grown hgr (by have := hz.out; simp; omega))
        replace PR5 := hid (PR5.out.grown hgr (by have := hz.out; simp; omega))
        replace PM5 := hid (mown_kept PM5.out QM.out tm1 tm2 hgr)
        replace PV5 := hid (PV5.out.keptG hgr (fun v hv e => PV5.out.ne_blk QM.out tm1 v hv (by simpa using e)))
        replace HB := hid (HB.out.grown hgr HB.out.size (fun r e => by cases e; omega))
        replace QM := hid hbk
        clear hbk hgr
        refine hK.out _ _ ⟨PC5.out.cells4.1, PC5.out.cells4.2.1, PC5.out.cells4.2.2.1, PR5.out.cells7.1, PR5.out.cells7.2.1, PR5.out.cells7.2.2.1, PR5.out.cells7.2.2.2.1, PR5.out.cells7.2.2.2.2.1, PR5.out.cells7.2.2.2.2.2.1, PR5.out.cells7.2.2.2.2.2.2.1⟩ (fun hS' => ?_)
        clear hK K hS
        have hS := hS'
        clear hS'
        (try simp only [Act.put, List.setIfInBounds_toArray, List.set_cons_zero, List.set_cons_succ])
        refine wpAnyH_ready (rs := [12]) (by kernel_rfl) (by simp) ?_
        refine AllReadyH.cons (by simp only [List.getElem?_toArray, List.getElem?_cons_succ, List.getElem?_cons_zero]; rfl) (fun K hK => ?_) ?_
        · skip
          obtain ⟨y00, y01, y02, y03, y04, y05, yf0⟩ := QS.out.cells6
          go_simp
          clear y00 y01 y02 y03 y04 y05 yf0
          refine named_store_6_6_0 QS.out ?_
          intro Ws12 hbk hgr hsz
          have hsz1 := hid hsz
          clear hsz
          replace QM := hid (QM.out.grown hgr (by simp <;> omega))
          replace PC5 := hid (PC5.out.grown hgr (by have := hz.out; simp; omega))
          replace PR5 := hid (PR5.out.grown hgr (by have := hz.out; simp; omega))
          replace PM5 := hid (mown_kept PM5.out QS.out tq1 tq2 hgr)
          replace PV5 := hid (PV5.out.keptG hgr (fun v hv e => PV5.out.ne_blk QS.out tq1 v hv (by simpa using e)))
          replace HB := hid (HB.out.grown hgr HB.out.size (fun r e => by cases e; omega))
          replace QS := hid hbk
          clear hbk hgr
          refine hK.out _ _ ⟨PC5.out.cells4.1, PC5.out.cells4.2.1, PC5.out.cells4.2.2.1, PR5.out.cells7.1, PR5.out.cells7.2.1, PR5.out.cells7.2.2.1, PR5.out.cells7.2.2.2.1, PR5.out.cells7.2.2.2.2.1, PR5.out.cells7.2.2.2.2.2.1, PR5.out.cells7.2.2.2.2.2.2.1⟩ (fun hS' => ?_)
          clear hK K hS
          have hS := hS'
          clear hS'
          (try simp only [Act.put, List.setIfInBounds_toArray, List.set_cons_zero, List.set_cons_succ])
          refine wpAnyH_done (by kernel_rfl) ?_ _
          refine NoPanic.normal ?_
          clear hS
          go_wp2
          obtain ⟨v0, v1, v2, vf⟩ := QM.out.cells3
          obtain ⟨q0, q1, q2, q3, q4, q5, qf⟩ := QS.out.cells6
          refine bodyPost_ret (v := .tuple #[mv A5 n5 c5 B5 k5 d5 m2.2.2, .agg #[.int .i64 s2.a, .int .i64 s2.f, .slice V5 vn5 vc5, .int .i64 5, .int .u64 s2.bg, .int .i64 s2.wr]]) (by simp [results, Try.results50, go_sem, v0, v1, v2, q0, q1, q2, q3, q4, q5]) rfl ?_
          rw [HF.out]
          exact ⟨_, _, _, _, _, _, _, _, _, rfl, PM5.out, PV5.out, PF5.out, HB.out⟩
        exact AllReadyH.nil
      exact AllReadyH.nil
  have hru := HRES.out
  rw [if_neg hp0, if_neg hp1, if_neg hp2, if_neg hp3] at hru
  simp only [Prod.mk.injEq] at hru
  obtain ⟨rfl, rfl, rfl⟩ := hru
  have hlk := run_look_no (P := Try.prog) Try.underlying105 Try.underlying3 HMP.out ph (zfn _) (by show Instr.findNow _ _ [_, _, _, _] 0 = _; rw [find_ne hp0, find_ne hp1, find_ne hp2, find_ne hp3]; rfl)
  have hrm := HRM.out
  clear HRES
  clear hp0 hp1 hp2 hp3
  obtain ⟨z0, z1, z2, z3, z4, z5, zf⟩ := PS.out.cells6
  go_upto_region 7 with fail
  clear hlk z0 z1 z2 z3 z4 z5 zf PM PS PC PR OV HM HRM HMP
  obtain ⟨⟨A5, n5, c5, B5, k5, d5, V5, vn5, vc5, h1, h2, h3, h4, h5⟩, h6⟩ := hrm
  have PC5 := hid h1; have PM5 := hid h2; have PR5 := hid h3; have PV5 := hid h4; have PF5 := hid h5
  clear h1 h2 h3 h4 h5 h6
  obtain ⟨y00, y01, y02, y03, y04, y05, y06, yf0⟩ := PR5.out.cells7
  obtain ⟨y10, y11, y12, y13, yf1⟩ := PC5.out.cells4
  go_upto_region 9 with fail
  clear y00 y01 y02 y03 y04 y05 y06 yf0 y10 y11 y12 y13 yf1
  have bx := (Below.refl W3.heap.size W3).drew
  replace PC5 := hid (PC5.out.step bx); replace PM5 := hid (PM5.out.step bx); replace PR5 := hid (PR5.out.step bx); replace PV5 := hid (PV5.out.step bx); replace QM := hid (QM.out.step bx); replace QS := hid (QS.out.step bx); replace HB := hid (below_then HB.out bx)
  clear bx
  have hszd := hid (show W3.drew.heap.size = W3.heap.size from rfl)
  refine wp_region_noPanic ?_
  refine wp_region_held_drew (S := (fun W' : World => W'.cell? ⟨W1.heap.size, 0, none⟩ = some (.slice A5 n5 c5) ∧ W'.cell? ⟨W1.heap.size, 1, none⟩ = some (.slice B5 k5 d5) ∧ W'.cell? ⟨W1.heap.size, 2, none⟩ = some (.bool ff) ∧ W'.cell? ⟨W1.heap.size + 1, 0, none⟩ = some (.int .i64 a) ∧ W'.cell? ⟨W1.heap.size + 1, 1, none⟩ = some (.int .i64 f) ∧ W'.cell? ⟨W1.heap.size + 1, 2, none⟩ = some (.slice V5 vn5 vc5) ∧ W'.cell? ⟨W1.heap.size + 1, 3, none⟩ = some (.int .i64 ph) ∧ W'.cell? ⟨W1.heap.size + 1, 4, none⟩ = some (.int .u64 bg) ∧ W'.cell? ⟨W1.heap.size + 1, 5, none⟩ = some (.int .i64 wr) ∧ W'.cell? ⟨W1.heap.size + 1, 6, none⟩ = some (ptr W1.heap.size))) (by kernel_rfl) ⟨PC5.out.cells4.1, PC5.out.cells4.2.1, PC5.out.cells4.2.2.1, PR5.out.cells7.1, PR5.out.cells7.2.1, PR5.out.cells7.2.2.1, PR5.out.cells7.2.2.2.1, PR5.out.cells7.2.2.2.2.1, PR5.out.cells7.2.2.2.2.2.1, PR5.out.cells7.2.2.2.2.2.2.1⟩ (fun hS => ?_)
  generalize W3.drew = Wd at *
  refine wpAnyH_take (i := 0) (v := ?_) (by simp only [List.getElem?_toArray, List.getElem?_cons_succ, List.getElem?_cons_zero]; rfl) (by kernel_rfl) (by kernel_rfl) (by kernel_rfl) (fun _ _ _ h => h) (Or.inl ⟨by rfl, ?_⟩) hS ?_
  rotate_left
  · intro w' hSw; (try dsimp only at hSw); go_split_ands; go_simp; (try with_reducible rfl)
  (try simp only [Act.put, List.setIfInBounds_toArray, List.set_cons_zero, List.set_cons_succ])
  refine wpAnyH_take (i := 1) (v := ?_) (by simp only [List.getElem?_toArray, List.getElem?_cons_succ, List.getElem?_cons_zero]; rfl) (by kernel_rfl) (by kernel_rfl) (by kernel_rfl) (fun _ _ _ h => h) (Or.inl ⟨by rfl, ?_⟩) hS ?_
  rotate_left
  · intro w' hSw; (try dsimp only at hSw); go_split_ands; go_simp; (try with_reducible rfl)
  (try simp only [Act.put, List.setIfInBounds_toArray, List.set_cons_zero, List.set_cons_succ])
  refine wpAnyH_take (i := 2) (v := ?_) (by simp only [List.getElem?_toArray, List.getElem?_cons_succ, List.getElem?_cons_zero]; rfl) (by kernel_rfl) (by kernel_rfl) (by kernel_rfl) (fun _ _ _ h => h) (Or.inl ⟨by rfl, ?_⟩) hS ?_
  rotate_left
  · intro w' hSw; (try dsimp only at hSw); go_split_ands; go_simp; (try with_reducible rfl)
  (try simp only [Act.put, List.setIfInBounds_toArray, List.set_cons_zero, List.set_cons_succ])
  refine wpAnyH_take (i := 3) (v := ?_) (by simp only [List.getElem?_toArray, List.getElem?_cons_succ, List.getElem?_cons_zero]; rfl) (by kernel_rfl) (by kernel_rfl) (by kernel_rfl) (fun _ _ _ h => h) (Or.inl ⟨by rfl, ?_⟩) hS ?_
  rotate_left
  · intro w' hSw; (try dsimp only at hSw); go_split_ands; go_simp; (try with_reducible rfl)
  (try simp only [Act.put, List.setIfInBounds_toArray, List.set_cons_zero, List.set_cons_succ])
  refine wpAnyH_take (i := 4) (v := ?_) (by simp only [List.getElem?_toArray, List.getElem?_cons_succ, List.getElem?_cons_zero]; rfl) (by kernel_rfl) (by kernel_rfl) (by kernel_rfl) (fun _ _ _ h => h) (Or.inl ⟨by rfl, ?_⟩) hS ?_
  rotate_left
  · intro w' hSw; (try dsimp only at hSw); go_split_ands; go_simp; (try with_reducible rfl)
  (try simp only [Act.put, List.setIfInBounds_toArray, List.set_cons_zero, List.set_cons_succ])
  refine wpAnyH_take (i := 5) (v := ?_) (by simp only [List.getElem?_toArray, List.getElem?_cons_succ, List.getElem?_cons_zero]; rfl) (by kernel_rfl) (by kernel_rfl) (by kernel_rfl) (fun _ _ _ h => h) (Or.inl ⟨by rfl, ?_⟩) hS ?_
  rotate_left
  · intro w' hSw; (try dsimp only at hSw); go_split_ands; go_simp; (try with_reducible rfl)
  (try simp only [Act.put, List.setIfInBounds_toArray, List.set_cons_zero, List.set_cons_succ])
  refine wpAnyH_take (i := 6) (v := ?_) (by simp only [List.getElem?_toArray, List.getElem?_cons_succ, List.getElem?_cons_zero]; rfl) (by kernel_rfl) (by kernel_rfl) (by kernel_rfl) (fun _ _ _ h => h) (Or.inl ⟨by rfl, ?_⟩) hS ?_
  rotate_left
  · intro w' hSw; (try dsimp only at hSw); go_split_ands; go_simp; (try with_reducible rfl)
  (try simp only [Act.put, List.setIfInBounds_toArray, List.set_cons_zero, List.set_cons_succ])
  refine wpAnyH_take (i := 7) (v := ?_) (by simp only [List.getElem?_toArray, List.getElem?_cons_succ, List.getElem?_cons_zero]; rfl) (by kernel_rfl) (by kernel_rfl) (by kernel_rfl) (fun _ _ _ h => h) (Or.inl ⟨by rfl, ?_⟩) hS ?_
  rotate_left
  · intro w' hSw; (try dsimp only at hSw); go_split_ands; go_simp; (try with_reducible rfl)
  (try simp only [Act.put, List.setIfInBounds_toArray, List.set_cons_zero, List.set_cons_succ])
  refine wpAnyH_take (i := 8) (v := ?_) (by simp only [List.getElem?_toArray, List.getElem?_cons_succ, List.getElem?_cons_zero]; rfl) (by kernel_rfl) (by kernel_rfl) (by kernel_rfl) (fun _ _ _ h => h) (Or.inl ⟨by rfl, ?_⟩) hS ?_
  rotate_left
  · intro w' hSw; (try dsimp only at hSw); go_split_ands; go_simp; (try with_reducible rfl)
  (try simp only [Act.put, List.setIfInBounds_toArray, List.set_cons_zero, List.set_cons_succ])
  refine wpAnyH_take (i := 9) (v := ?_) (by simp only [List.getElem?_toArray, List.getElem?_cons_succ, List.getElem?_cons_zero]; rfl) (by kernel_rfl) (by kernel_rfl) (by kernel_rfl) (fun _ _ _ h => h) (Or.inl ⟨by rfl, ?_⟩) hS ?_
  rotate_left
  · intro w' hSw; (try dsimp only at hSw); go_split_ands; go_simp; (try with_reducible rfl)
  (try simp only [Act.put, List.setIfInBounds_toArray, List.set_cons_zero, List.set_cons_succ])
  refine wpAnyH_take (i := 10) (v := ?_) (by simp only [List.getElem?_toArray, List.getElem?_cons_succ, List.getElem?_cons_zero]; rfl) (by kernel_rfl) (by kernel_rfl) (by kernel_rfl) (fun _ _ _ h => h) (Or.inl ⟨by rfl, ?_⟩) hS ?_
  rotate_left
  · intro w' hSw; (try dsimp only at hSw); go_split_ands; go_simp; (try with_reducible rfl)
  (try simp only [Act.put, List.setIfInBounds_toArray, List.set_cons_zero, List.set_cons_succ])
  refine wpAnyH_ready (rs := [11]) (by kernel_rfl) (by simp) ?_
  refine AllReadyH.cons (by simp only [List.getElem?_toArray, List.getElem?_cons_succ, List.getElem?_cons_zero]; rfl) (fun K hK => ?_) ?_
  · skip
    obtain ⟨y00, y01, y02, yf0⟩ := QM.out.cells3
    go_simp
    clear y00 y01 y02 yf0
    refine named_store3 QM.out ?_
    intro Ws11 hbk hgr hsz
    have hsz0 := hid hsz
    clear hsz
    replace QS := hid (QS.out.grown hgr (by simp <;> omega))
    replace PC5 := hid (PC5.out.grown hgr (by have := hz.out; simp; omega))
    replace PR5 := hid (PR5.out.grown hgr (by have := hz.out; simp; omega))
    replace PM5 := hid (mown_kept PM5.out QM.out tm1 tm2 hgr)
    replace PV5 := hid (PV5.out.keptG hgr (fun v hv e => PV5.out.ne_blk QM.out tm1 v hv (by simpa using e)))
    replace HB := hid (HB.out.grown hgr HB.out.size (fun r e => by cases e; omega))
    replace QM := hid hbk
    clear hbk hgr
    refine hK.out _ _ ⟨PC5.out.cells4.1, PC5.out.cells4.2.1, PC5.out.cells4.2.2.1, PR5.out.cells7.1, PR5.out.cells7.2.1, PR5.out.cells7.2.2.1, PR5.out.cells7.2.2.2.1, PR5.out.cells7.2.2.2.2.1, PR5.out.cells7.2.2.2.2.2.1, PR5.out.cells7.2.2.2.2.2.2.1⟩ (fun hS' => ?_)
    clear hK K hS
    have hS := hS'
    clear hS'
    (try simp only [Act.put, List.setIfInBounds_toArray, List.set_cons_zero, List.set_cons_succ])
    refine wpAnyH_ready (rs := [12]) (by kernel_rfl) (by simp) ?_
    refine AllReadyH.cons (by simp only [List.getElem?_toArray, List.getElem?_cons_succ, List.getElem?_cons_zero]; rfl) (fun K hK => ?_) ?_
    · skip
      obtain ⟨y00, y01, y02, y03, y04, y05, yf0⟩ := QS.out.cells6
      go_simp
      clear y00 y01 y02 y03 y04 y05 yf0
      refine named_store_6_6_0 QS.out ?_
      intro Ws12 hbk hgr hsz
      have hsz1 := hid hsz
      clear hsz
      replace QM := hid (QM.out.grown hgr (by simp <;> omega))
      replace PC5 := hid (PC5.out.grown hgr (by have := hz.out; simp; omega))
      replace PR5 := hid (PR5.out.grown hgr (by have := hz.out; simp; omega))
      replace PM5 := hid (mown_kept PM5.out QS.out tq1 tq2 hgr)
      replace PV5 := hid (PV5.out.keptG hgr (fun v hv e => PV5.out.ne_blk QS.out tq1 v hv (by simpa using e)))
      replace HB := hid (HB.out.grown hgr HB.out.size (fun r e => by cases e; omega))
      replace QS := hid hbk
      clear hbk hgr
      refine hK.out _ _ ⟨PC5.out.cells4.1, PC5.out.cells4.2.1, PC5.out.cells4.2.2.1, PR5.out.cells7.1, PR5.out.cells7.2.1, PR5.out.cells7.2.2.1, PR5.out.cells7.2.2.2.1, PR5.out.cells7.2.2.2.2.1, PR5.out.cells7.2.2.2.2.2.1, PR5.out.cells7.2.2.2.2.2.2.1⟩ (fun hS' => ?_)
      clear hK K hS
      have hS := hS'
      clear hS'
      (try simp only [Act.put, List.setIfInBounds_toArray, List.set_cons_zero, List.set_cons_succ])
      refine wpAnyH_done (by kernel_rfl) ?_ _
      refine NoPanic.normal ?_
      clear hS
      go_wp2
      obtain ⟨v0, v1, v2, vf⟩ := QM.out.cells3
      obtain ⟨q0, q1, q2, q3, q4, q5, qf⟩ := QS.out.cells6
      refine bodyPost_ret (v := .tuple #[mv A5 n5 c5 B5 k5 d5 ff, .agg #[.int .i64 a, .int .i64 f, .slice V5 vn5 vc5, .int .i64 ph, .int .u64 bg, .int .i64 wr]]) (by simp [results, Try.results50, go_sem, v0, v1, v2, q0, q1, q2, q3, q4, q5]) rfl ?_
      rw [HF.out]
      exact ⟨_, _, _, _, _, _, _, _, _, rfl, PM5.out, PV5.out, PF5.out, HB.out⟩
    exact AllReadyH.nil
  exact AllReadyH.nil
end Go.Proofs.Ytnkaajkdjbdpaaa
