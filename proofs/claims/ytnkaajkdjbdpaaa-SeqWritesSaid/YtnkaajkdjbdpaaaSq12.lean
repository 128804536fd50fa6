/- package seq: StepRead, StepWrite. No condition but sizes. -/
import Derived.Test.YtnkaajkdjbdpaaaSq11
namespace Go.Proofs.Ytnkaajkdjbdpaaa
open Go.RowKit
def zRd : Srd := ⟨0, 0, 0, 0, 0, [], 0⟩
def zWr : Swr := ⟨0, 0, [], 0, 0, 0⟩
def RdOkS (s : Srd) : Prop := RdOk s.a s.f s.m s.ph s.bg s.vs.length s.tr
def WrOkS (s : Swr) : Prop := WrOk s.a s.f s.vs.length s.ph s.bg s.wr
instance {s : Srd} : Decidable (RdOkS s) := by unfold RdOkS; infer_instance
instance {s : Swr} : Decidable (WrOkS s) := by unfold WrOkS; infer_instance
def sreadC (m : MSt) (s : Srd) : Int × MSt × Srd := if ¬ MGood m.1 m.2.1 then (120, ([], [], false), zRd) else if ¬ RdOkS s then (160, ([], [], false), zRd) else (0, sreadF m s)
def swriteC (m : MSt) (s : Swr) : Int × MSt × Swr := if ¬ MGood m.1 m.2.1 then (120, ([], [], false), zWr) else if ¬ WrOkS s then (160, ([], [], false), zWr) else (0, swriteF m s)
def SRPost (w : World) (r : Int × MSt × Srd) (e : Ending) (w' : World) : Prop :=
  ∃ A n c B k d V vn vc, e = .returned (.tuple #[mv A n c B k d r.2.1.2.2, rdV r.2.2 V vn vc, .int .i64 r.1]) ∧ Mown w' w.heap.size A n c B k d r.2.1.1 r.2.1.2.1 ∧ Ow u64v w' w.heap.size 27 V vn vc r.2.2.vs ∧ VFar A V ∧ Below w.heap.size w w'
def SWPost (w : World) (r : Int × MSt × Swr) (e : Ending) (w' : World) : Prop :=
  ∃ A n c B k d V vn vc, e = .returned (.tuple #[mv A n c B k d r.2.1.2.2, wrV r.2.2 V vn vc, .int .i64 r.1]) ∧ Mown w' w.heap.size A n c B k d r.2.1.1 r.2.1.2.1 ∧ Ow u64v w' w.heap.size 27 V vn vc r.2.2.vs ∧ VFar A V ∧ Below w.heap.size w w'
structure SRMid (w0 W : World) (g7 g8 : Nat) (A : Option Addr) (n c : Nat) (B : Option Addr) (k d : Nat) (V : Option Addr) (vn vc : Nat) (m : MSt) (s : Srd) : Prop where
  b7 : Blk W g7 44 (mcs A n c B k d m.2.2)
  b8 : Blk W g8 29 (rdc s.a s.f s.m s.ph s.bg V vn vc s.tr)
  om : Mown W w0.heap.size A n c B k d m.1 m.2.1
  ov : Ow u64v W w0.heap.size 27 V vn vc s.vs
  far : VFar A V
  be : Below w0.heap.size w0 W
  l7 : w0.heap.size ≤ g7
  l8 : w0.heap.size ≤ g8
structure SWMid (w0 W : World) (g7 g8 : Nat) (A : Option Addr) (n c : Nat) (B : Option Addr) (k d : Nat) (V : Option Addr) (vn vc : Nat) (m : MSt) (s : Swr) : Prop where
  b7 : Blk W g7 44 (mcs A n c B k d m.2.2)
  b8 : Blk W g8 34 (wrc s.a s.f V vn vc s.ph s.bg s.wr)
  om : Mown W w0.heap.size A n c B k d m.1 m.2.1
  ov : Ow u64v W w0.heap.size 27 V vn vc s.vs
  far : VFar A V
  be : Below w0.heap.size w0 W
  l7 : w0.heap.size ≤ g7
  l8 : w0.heap.size ≤ g8
set_option maxRecDepth 100000 in
set_option maxHeartbeats 8000000 in
theorem apiwrite_any (A : Option Addr) (n c : Nat) (B : Option Addr) (k d : Nat) (m : MSt) (s : Swr) (V : Option Addr) (vn vc : Nat) (w : World) (h : Mem w A n c B k d m.1 m.2.1) (hv : Sl u64v 0 w 0 w.heap.size V vn s.vs) (hvn : vn ≤ 100000) :
    Calls Try.prog 36 #[mv A n c B k d m.2.2, wrV s V vn vc] w (SWPost w (swriteC m s)) := by
  have HM := hid h; have HV := hid hv; have HB := hid (Below.refl w.heap.size w); have HLV := hid hv.len
  have HE := hid (show swriteC m s = if ¬ MGood m.1 m.2.1 then (120, ([], [], false), zWr) else if ¬ WrOkS s then (160, ([], [], false), zWr) else (0, swriteF m s) from rfl)
  have HC := hid (show mcheckC m.1 m.2.1 = if MGood m.1 m.2.1 then 0 else 120 from rfl)
  have HOS := hid (show WrOkS s ↔ WrOk s.a s.f vn s.ph s.bg s.wr from by unfold WrOkS; rw [hv.len])
  clear h hv
  have bx := below_box w (.cells (mcs A n c B k d m.2.2) 44)
  replace HM := hid (HM.out.step bx); replace HV := hid (HV.out.step bx); replace HB := hid (below_then HB.out bx)
  clear bx
  have PM := hid (Blk.new w 44 (mcs A n c B k d m.2.2))
  have bx := below_box (w.alloc (.cells (mcs A n c B k d m.2.2) 44)) (.cells (wrc s.a s.f V vn vc s.ph s.bg s.wr) 34)
  replace HM := hid (HM.out.step bx); replace HV := hid (HV.out.step bx); replace PM := hid (PM.out.step bx); replace HB := hid (below_then HB.out bx)
  clear bx
  have PS := hid (Blk.new2 w 34 (wrc s.a s.f V vn vc s.ph s.bg s.wr) (.cells (mcs A n c B k d m.2.2) 44))
  have bx := below_box ((w.alloc (.cells (mcs A n c B k d m.2.2) 44)).alloc (.cells (wrc s.a s.f V vn vc s.ph s.bg s.wr) 34)) (.cells (mcs none 0 0 none 0 0 false) 44)
  replace HM := hid (HM.out.step bx); replace HV := hid (HV.out.step bx); replace PM := hid (PM.out.step bx); replace PS := hid (PS.out.step bx); replace HB := hid (below_then HB.out bx)
  clear bx
  have QM := hid (Blk.new3 w 44 (mcs none 0 0 none 0 0 false) (.cells (mcs A n c B k d m.2.2) 44) (.cells (wrc s.a s.f V vn vc s.ph s.bg s.wr) 34))
  have bx := below_box (((w.alloc (.cells (mcs A n c B k d m.2.2) 44)).alloc (.cells (wrc s.a s.f V vn vc s.ph s.bg s.wr) 34)).alloc (.cells (mcs none 0 0 none 0 0 false) 44)) (.cells (wrc 0 0 none 0 0 0 0 0) 34)
  replace HM := hid (HM.out.step bx); replace HV := hid (HV.out.step bx); replace PM := hid (PM.out.step bx); replace PS := hid (PS.out.step bx); replace QM := hid (QM.out.step bx); replace HB := hid (below_then HB.out bx)
  clear bx
  have QS := hid (Blk.new4 w 34 (wrc 0 0 none 0 0 0 0 0) (.cells (mcs A n c B k d m.2.2) 44) (.cells (wrc s.a s.f V vn vc s.ph s.bg s.wr) 34) (.cells (mcs none 0 0 none 0 0 false) 44))
  go_enter Try.func36, Try.ntmps36
  obtain ⟨y00, y01, y02, yf0⟩ := PM.out.cells3
  go_wp2_with fail
  clear y00 y01 y02 yf0
  have hz0 := hid (show ((((w.alloc (.cells (mcs A n c B k d m.2.2) 44)).alloc (.cells (wrc s.a s.f V vn vc s.ph s.bg s.wr) 34)).alloc (.cells (mcs none 0 0 none 0 0 false) 44)).alloc (.cells (wrc 0 0 none 0 0 0 0 0) 34)).heap.size = w.heap.size + 4 by simp)
  generalize (((w.alloc (.cells (mcs A n c B k d m.2.2) 44)).alloc (.cells (wrc s.a s.f V vn vc s.ph s.bg s.wr) 34)).alloc (.cells (mcs none 0 0 none 0 0 false) 44)).alloc (.cells (wrc 0 0 none 0 0 0 0 0) 34) = W0 at *
  refine (mcheck_any A n c B k d m.2.2 m.1 m.2.1 _ HM.out).mono ?_
  rintro e w1 ⟨rfl, hb⟩
  replace HM := hid (HM.out.step hb); replace HV := hid (HV.out.step hb); replace PM := hid (PM.out.step hb); replace PS := hid (PS.out.step hb); replace QM := hid (QM.out.step hb); replace QS := hid (QS.out.step hb); replace HB := hid (below_then HB.out hb)
  clear hb
  by_cases hg : MGood m.1 m.2.1
  rotate_left
  · rw [HC.out, if_neg hg]
    obtain ⟨y00, y01, y02, yf0⟩ := QM.out.cells3
    obtain ⟨y10, y11, y12, y13, y14, y15, yf1⟩ := QS.out.cells6
    go_wp2
    have X0 := (((QM.out.setCell 0 (.slice none 0 0)).setCell 1 (.slice none 0 0)).setCell 2 (.bool false)); have X1 := (((QS.out.far (p := ⟨w.heap.size + 2, 0, none⟩) (by simp) (.slice none 0 0)).far (p := ⟨w.heap.size + 2, 1, none⟩) (by simp) (.slice none 0 0)).far (p := ⟨w.heap.size + 2, 2, none⟩) (by simp) (.bool false)); have X2 := (((HB.out.setCell (p := ⟨w.heap.size + 2, 0, none⟩) (by simp) (.slice none 0 0)).setCell (p := ⟨w.heap.size + 2, 1, none⟩) (by simp) (.slice none 0 0)).setCell (p := ⟨w.heap.size + 2, 2, none⟩) (by simp) (.bool false))
    obtain ⟨v0, v1, v2, vf⟩ := ((((((X0.far (p := ⟨w.heap.size + 3, 0, none⟩) (by simp) (.int .i64 0)).far (p := ⟨w.heap.size + 3, 1, none⟩) (by simp) (.int .i64 0)).far (p := ⟨w.heap.size + 3, 2, none⟩) (by simp) (.slice none 0 0)).far (p := ⟨w.heap.size + 3, 3, none⟩) (by simp) (.int .i64 0)).far (p := ⟨w.heap.size + 3, 4, none⟩) (by simp) (.int .u64 0)).far (p := ⟨w.heap.size + 3, 5, none⟩) (by simp) (.int .i64 0)).cells3
    obtain ⟨q0, q1, q2, q3, q4, q5, qf⟩ := ((((((X1.setCell 0 (.int .i64 0)).setCell 1 (.int .i64 0)).setCell 2 (.slice none 0 0)).setCell 3 (.int .i64 0)).setCell 4 (.int .u64 0)).setCell 5 (.int .i64 0)).cells6
    refine bodyPost_ret (v := .tuple #[mv none 0 0 none 0 0 false, .agg #[.int .i64 0, .int .i64 0, .slice none 0 0, .int .i64 0, .int .u64 0, .int .i64 0], .int .i64 120]) (by simp [results, Try.results36, go_sem, v0, v1, v2, q0, q1, q2, q3, q4, q5]) rfl ?_
    rw [HE.out, if_pos hg]
    exact ⟨none, 0, 0, none, 0, 0, none, 0, 0, rfl, Mown.none _ _, Ow.nil _ _ _, (fun a v h => by cases h), ((((((X2.setCell (p := ⟨w.heap.size + 3, 0, none⟩) (by simp) (.int .i64 0)).setCell (p := ⟨w.heap.size + 3, 1, none⟩) (by simp) (.int .i64 0)).setCell (p := ⟨w.heap.size + 3, 2, none⟩) (by simp) (.slice none 0 0)).setCell (p := ⟨w.heap.size + 3, 3, none⟩) (by simp) (.int .i64 0)).setCell (p := ⟨w.heap.size + 3, 4, none⟩) (by simp) (.int .u64 0)).setCell (p := ⟨w.heap.size + 3, 5, none⟩) (by simp) (.int .i64 0))⟩
  rw [HC.out, if_pos hg]
  have HG := hid hg
  clear hg HC
  obtain ⟨y00, y01, y02, y03, y04, y05, yf0⟩ := PS.out.cells6
  go_wp2_with fail
  clear y00 y01 y02 y03 y04 y05 yf0
  refine (scheckwrite_any s.a s.f V vn vc s.ph s.bg s.wr s.vs _ HV.out hvn).mono ?_
  rintro e w2 ⟨rfl, hb⟩
  replace HM := hid (HM.out.step hb); replace HV := hid (HV.out.step hb); replace PM := hid (PM.out.step hb); replace PS := hid (PS.out.step hb); replace QM := hid (QM.out.step hb); replace QS := hid (QS.out.step hb); replace HB := hid (below_then HB.out hb)
  clear hb
  by_cases hs : WrOkS s
  rotate_left
  · rw [decide_eq_false (fun h => hs (HOS.out.2 h))]
    dsimp only [Bool.false_eq_true, if_false]
    obtain ⟨y00, y01, y02, yf0⟩ := QM.out.cells3
    obtain ⟨y10, y11, y12, y13, y14, y15, yf1⟩ := QS.out.cells6
    go_wp2
    have X0 := (((QM.out.setCell 0 (.slice none 0 0)).setCell 1 (.slice none 0 0)).setCell 2 (.bool false)); have X1 := (((QS.out.far (p := ⟨w.heap.size + 2, 0, none⟩) (by simp) (.slice none 0 0)).far (p := ⟨w.heap.size + 2, 1, none⟩) (by simp) (.slice none 0 0)).far (p := ⟨w.heap.size + 2, 2, none⟩) (by simp) (.bool false)); have X2 := (((HB.out.setCell (p := ⟨w.heap.size + 2, 0, none⟩) (by simp) (.slice none 0 0)).setCell (p := ⟨w.heap.size + 2, 1, none⟩) (by simp) (.slice none 0 0)).setCell (p := ⟨w.heap.size + 2, 2, none⟩) (by simp) (.bool false))
    obtain ⟨v0, v1, v2, vf⟩ := ((((((X0.far (p := ⟨w.heap.size + 3, 0, none⟩) (by simp) (.int .i64 0)).far (p := ⟨w.heap.size + 3, 1, none⟩) (by simp) (.int .i64 0)).far (p := ⟨w.heap.size + 3, 2, none⟩) (by simp) (.slice none 0 0)).far (p := ⟨w.heap.size + 3, 3, none⟩) (by simp) (.int .i64 0)).far (p := ⟨w.heap.size + 3, 4, none⟩) (by simp) (.int .u64 0)).far (p := ⟨w.heap.size + 3, 5, none⟩) (by simp) (.int .i64 0)).cells3
    obtain ⟨q0, q1, q2, q3, q4, q5, qf⟩ := ((((((X1.setCell 0 (.int .i64 0)).setCell 1 (.int .i64 0)).setCell 2 (.slice none 0 0)).setCell 3 (.int .i64 0)).setCell 4 (.int .u64 0)).setCell 5 (.int .i64 0)).cells6
    refine bodyPost_ret (v := .tuple #[mv none 0 0 none 0 0 false, .agg #[.int .i64 0, .int .i64 0, .slice none 0 0, .int .i64 0, .int .u64 0, .int .i64 0], .int .i64 160]) (by simp [results, Try.results36, go_sem, v0, v1, v2, q0, q1, q2, q3, q4, q5]) rfl ?_
    rw [HE.out, if_neg (not_not_intro HG.out), if_pos hs]
    exact ⟨none, 0, 0, none, 0, 0, none, 0, 0, rfl, Mown.none _ _, Ow.nil _ _ _, (fun a v h => by cases h), ((((((X2.setCell (p := ⟨w.heap.size + 3, 0, none⟩) (by simp) (.int .i64 0)).setCell (p := ⟨w.heap.size + 3, 1, none⟩) (by simp) (.int .i64 0)).setCell (p := ⟨w.heap.size + 3, 2, none⟩) (by simp) (.slice none 0 0)).setCell (p := ⟨w.heap.size + 3, 3, none⟩) (by simp) (.int .i64 0)).setCell (p := ⟨w.heap.size + 3, 4, none⟩) (by simp) (.int .u64 0)).setCell (p := ⟨w.heap.size + 3, 5, none⟩) (by simp) (.int .i64 0))⟩
  rw [decide_eq_true (HOS.out.1 hs)]
  dsimp only [if_true]
  have HS := hid (HOS.out.1 hs)
  have HE2 := hid (show swriteC m s = (0, swriteF m s) by rw [HE.out, if_neg (not_not_intro HG.out), if_neg (not_not_intro hs)])
  clear hs HE HOS
  obtain ⟨⟨m2, s2⟩, hr⟩ : ∃ x, x = swriteF m s := ⟨_, rfl⟩
  rw [← hr] at HE2
  have HR := hid hr
  clear hr
  obtain ⟨y00, y01, y02, yf0⟩ := PM.out.cells3
  obtain ⟨y10, y11, y12, y13, y14, y15, yf1⟩ := PS.out.cells6
  go_upto_region 5 with fail
  clear y00 y01 y02 yf0 y10 y11 y12 y13 y14 y15 yf1
  have XM := HM; have XV := HV; have XPM := PM; have XPS := PS; have HQ := hid (Below.refl w2.heap.size w2)
  go_cut [7, 8] (fun s7 s8 wx => ∃ g7 g8 A3 n3 c3 B3 k3 d3 V3 vn3 vc3, s7 = ptr g7 ∧ s8 = ptr g8 ∧ SWMid w2 wx g7 g8 A3 n3 c3 B3 k3 d3 V3 vn3 vc3 m2 s2)
  case first =>
    have bx := (Below.refl w2.heap.size w2).drew
    replace HQ := hid (below_then HQ.out bx)
    clear bx
    have hszd := hid (show w2.drew.heap.size = w2.heap.size from rfl)
    refine wp_region_noPanic ?_
    refine wp_region_held_drew (S := (fun W' : World => W'.cell? ⟨w.heap.size, 0, none⟩ = some (.slice A n c) ∧ W'.cell? ⟨w.heap.size, 1, none⟩ = some (.slice B k d) ∧ W'.cell? ⟨w.heap.size, 2, none⟩ = some (.bool m.2.2) ∧ W'.cell? ⟨w.heap.size + 1, 0, none⟩ = some (.int .i64 s.a) ∧ W'.cell? ⟨w.heap.size + 1, 1, none⟩ = some (.int .i64 s.f) ∧ W'.cell? ⟨w.heap.size + 1, 2, none⟩ = some (.slice V vn vc) ∧ W'.cell? ⟨w.heap.size + 1, 3, none⟩ = some (.int .i64 s.ph) ∧ W'.cell? ⟨w.heap.size + 1, 4, none⟩ = some (.int .u64 s.bg) ∧ W'.cell? ⟨w.heap.size + 1, 5, none⟩ = some (.int .i64 s.wr))) (by kernel_rfl) ⟨(XPM.out.step HQ.out).cells3.1, (XPM.out.step HQ.out).cells3.2.1, (XPM.out.step HQ.out).cells3.2.2.1, (XPS.out.step HQ.out).cells6.1, (XPS.out.step HQ.out).cells6.2.1, (XPS.out.step HQ.out).cells6.2.2.1, (XPS.out.step HQ.out).cells6.2.2.2.1, (XPS.out.step HQ.out).cells6.2.2.2.2.1, (XPS.out.step HQ.out).cells6.2.2.2.2.2.1⟩ (fun hS => ?_)
    generalize w2.drew = Wd at *
    refine wpAnyH_take (i := 0) (v := ?_) (by simp only [List.getElem?_toArray, List.getElem?_cons_succ, List.getElem?_cons_zero]; rfl) (by kernel_rfl) (by kernel_rfl) (by kernel_rfl) (fun _ _ _ h => h) (Or.inl ⟨by rfl, ?_⟩) hS ?_
    rotate_left
    · intro w' hSw; (try dsimp only at hSw); go_split_ands; go_simp; (try with_reducible rfl)
    (try simp only [Act.put, List.setIfInBounds_toArray, List.set_cons_zero, List.set_cons_succ])
    refine wpAnyH_take (i := 2) (v := ?_) (by simp only [List.getElem?_toArray, List.getElem?_cons_succ, List.getElem?_cons_zero]; rfl) (by kernel_rfl) (by kernel_rfl) (by kernel_rfl) (fun _ _ _ h => h) (Or.inl ⟨by rfl, ?_⟩) hS ?_
    rotate_left
    · intro w' hSw; (try dsimp only at hSw); go_split_ands; go_simp; (try with_reducible rfl)
    (try simp only [Act.put, List.setIfInBounds_toArray, List.set_cons_zero, List.set_cons_succ])
    refine wpAnyH_ready (rs := [1, 7, 8]) (by kernel_rfl) (by simp) ?_
    refine AllReadyH.cons (by simp only [List.getElem?_toArray, List.getElem?_cons_succ, List.getElem?_cons_zero]; rfl) (fun K hK => ?_) ?_
    · skip
      go_simp
      refine (ownmem_any A n c B k d m.2.2 m.1 m.2.1 _ (XM.out.step HQ.out)).mono ?_
      rintro e ws1 ⟨A2, n2, c2, B2, k2, d2, rfl, om, hb⟩
      have hsz0 := hid (show Wd.heap.size ≤ ws1.heap.size from hb.size)
      replace HQ := hid (below_then HQ.out hb)
      clear hb
      have OM0 := hid om
      have hlo := hid (show Wd.heap.size ≤ ws1.heap.size from hsz0.out)
      have hlo2 := hid (show w2.heap.size ≤ Wd.heap.size by have := hszd.out; omega)
      clear om
      go_wp2_with fail
      refine hK.out _ _ ⟨(XPM.out.step HQ.out).cells3.1, (XPM.out.step HQ.out).cells3.2.1, (XPM.out.step HQ.out).cells3.2.2.1, (XPS.out.step HQ.out).cells6.1, (XPS.out.step HQ.out).cells6.2.1, (XPS.out.step HQ.out).cells6.2.2.1, (XPS.out.step HQ.out).cells6.2.2.2.1, (XPS.out.step HQ.out).cells6.2.2.2.2.1, (XPS.out.step HQ.out).cells6.2.2.2.2.2.1⟩ (fun hS' => ?_)
      clear hK K hS
      have hS := hS'
      clear hS'
      (try simp only [Act.put, List.setIfInBounds_toArray, List.set_cons_zero, List.set_cons_succ])
      refine wpAnyH_ready (rs := [3, 7, 8]) (by kernel_rfl) (by simp) ?_
      refine AllReadyH.cons (by simp only [List.getElem?_toArray, List.getElem?_cons_succ, List.getElem?_cons_zero]; rfl) (fun K hK => ?_) ?_
      · skip
        go_simp
        refine (stepwrite_any A2 n2 c2 B2 k2 d2 m _ s V vn vc _ OM0.out (by have := hlo.out; have := hszd.out; have := hsz0.out; omega) (XV.out.step HQ.out) HG.out hvn HS.out).mono ?_
        rintro e ws3 ⟨A3, n3, c3, B3, k3, d3, V3, vn3, vc3, rfl, om, ov, hfar, hb⟩
        have hsz1 := hid (show ws1.heap.size ≤ ws3.heap.size from hb.size)
        replace OM0 := hid (OM0.out.step hb); replace HQ := hid (below_then HQ.out hb)
        clear hb
        rw [← HR.out] at om ov ⊢
        dsimp only at om ov ⊢
        have OM := hid (om.mono hlo2.out); have OV := hid (ov.mono hlo2.out); have HFAR := hid hfar
        clear om ov hfar
        go_wp2_with fail
        refine hK.out _ _ ⟨(XPM.out.step HQ.out).cells3.1, (XPM.out.step HQ.out).cells3.2.1, (XPM.out.step HQ.out).cells3.2.2.1, (XPS.out.step HQ.out).cells6.1, (XPS.out.step HQ.out).cells6.2.1, (XPS.out.step HQ.out).cells6.2.2.1, (XPS.out.step HQ.out).cells6.2.2.2.1, (XPS.out.step HQ.out).cells6.2.2.2.2.1, (XPS.out.step HQ.out).cells6.2.2.2.2.2.1⟩ (fun hS' => ?_)
        clear hK K hS
        have hS := hS'
        clear hS'
        (try simp only [Act.put, List.setIfInBounds_toArray, List.set_cons_zero, List.set_cons_succ])
        refine wpAnyH_take (i := 4) (v := ?_) (by simp only [List.getElem?_toArray, List.getElem?_cons_succ, List.getElem?_cons_zero]; rfl) (by kernel_rfl) (by kernel_rfl) (by kernel_rfl) (fun _ _ _ h => h) (Or.inl ⟨by rfl, ?_⟩) hS ?_
        rotate_left
        · intro w' hSw; (try dsimp only at hSw); go_split_ands; go_simp; (try with_reducible rfl)
        (try simp only [Act.put, List.setIfInBounds_toArray, List.set_cons_zero, List.set_cons_succ])
        refine wpAnyH_take (i := 5) (v := ?_) (by simp only [List.getElem?_toArray, List.getElem?_cons_succ, List.getElem?_cons_zero]; rfl) (by kernel_rfl) (by kernel_rfl) (by kernel_rfl) (fun _ _ _ h => h) (Or.inl ⟨by rfl, ?_⟩) hS ?_
        rotate_left
        · intro w' hSw; (try dsimp only at hSw); go_split_ands; go_simp; (try with_reducible rfl)
        (try simp only [Act.put, List.setIfInBounds_toArray, List.set_cons_zero, List.set_cons_succ])
        refine wpAnyH_take (i := 6) (v := ?_) (by simp only [List.getElem?_toArray, List.getElem?_cons_succ, List.getElem?_cons_zero]; rfl) (by kernel_rfl) (by kernel_rfl) (by kernel_rfl) (fun _ _ _ h => h) (Or.inl ⟨by rfl, ?_⟩) hS ?_
        rotate_left
        · intro w' hSw; (try dsimp only at hSw); go_split_ands; go_simp; (try with_reducible rfl)
        (try simp only [Act.put, List.setIfInBounds_toArray, List.set_cons_zero, List.set_cons_succ])
        refine wpAnyH_ready (rs := [7, 8]) (by kernel_rfl) (by simp) ?_
        refine AllReadyH.cons (by simp only [List.getElem?_toArray, List.getElem?_cons_succ, List.getElem?_cons_zero]; rfl) (fun K hK => ?_) ?_
        · skip
          go_simp
          refine named_alloc ?_
          intro Wa7 hbk hb hsz
          have hsz2 := hid hsz
          replace OM0 := hid (OM0.out.step hb); replace OM := hid (OM.out.step hb); replace OV := hid (OV.out.step hb); replace HQ := hid (below_then HQ.out hb)
          have P7 := hid hbk
          clear hb hbk hsz
          refine hK.out _ _ ⟨(XPM.out.step HQ.out).cells3.1, (XPM.out.step HQ.out).cells3.2.1, (XPM.out.step HQ.out).cells3.2.2.1, (XPS.out.step HQ.out).cells6.1, (XPS.out.step HQ.out).cells6.2.1, (XPS.out.step HQ.out).cells6.2.2.1, (XPS.out.step HQ.out).cells6.2.2.2.1, (XPS.out.step HQ.out).cells6.2.2.2.2.1, (XPS.out.step HQ.out).cells6.2.2.2.2.2.1⟩ (fun hS' => ?_)
          clear hK K hS
          have hS := hS'
          clear hS'
          (try simp only [Act.put, List.setIfInBounds_toArray, List.set_cons_zero, List.set_cons_succ])
          refine wpAnyH_ready (rs := [8]) (by kernel_rfl) (by simp) ?_
          refine AllReadyH.cons (by simp only [List.getElem?_toArray, List.getElem?_cons_succ, List.getElem?_cons_zero]; rfl) (fun K hK => ?_) ?_
          · skip
            go_simp
            refine named_alloc ?_
            intro Wa8 hbk hb hsz
            have hsz3 := hid hsz
            replace OM0 := hid (OM0.out.step hb); replace OM := hid (OM.out.step hb); replace OV := hid (OV.out.step hb); replace P7 := hid (P7.out.step hb); replace HQ := hid (below_then HQ.out hb)
            have P8 := hid hbk
            clear hb hbk hsz
            refine hK.out _ _ ⟨(XPM.out.step HQ.out).cells3.1, (XPM.out.step HQ.out).cells3.2.1, (XPM.out.step HQ.out).cells3.2.2.1, (XPS.out.step HQ.out).cells6.1, (XPS.out.step HQ.out).cells6.2.1, (XPS.out.step HQ.out).cells6.2.2.1, (XPS.out.step HQ.out).cells6.2.2.2.1, (XPS.out.step HQ.out).cells6.2.2.2.2.1, (XPS.out.step HQ.out).cells6.2.2.2.2.2.1⟩ (fun hS' => ?_)
            clear hK K hS
            have hS := hS'
            clear hS'
            (try simp only [Act.put, List.setIfInBounds_toArray, List.set_cons_zero, List.set_cons_succ])
            refine wpAnyH_ready (rs := [9]) (by kernel_rfl) (by simp) ?_
            refine AllReadyH.cons (by simp only [List.getElem?_toArray, List.getElem?_cons_succ, List.getElem?_cons_zero]; rfl) (fun K hK => ?_) ?_
            · skip
              obtain ⟨y00, y01, y02, yf0⟩ := P7.out.cells3
              go_simp
              clear y00 y01 y02 yf0
              refine named_store3 P7.out ?_
              intro Ws9 hbk hgr hsz
              have hsz4 := hid hsz
              clear hsz
              replace P8 := hid (P8.out.grown hgr (fun e => P7.out.ne P8.out (by decide) (by simpa using e.symm)))
              replace OM := hid (mown_kept OM.out P7.out tm1 tm2 hgr)
              replace OV := hid (OV.out.keptG hgr (fun v hv e => OV.out.ne_blk P7.out tm1 v hv (by simpa using e)))
              replace HQ := hid (HQ.out.grown hgr HQ.out.size (fun r e => by cases e; have := hszd.out; have := hsz0.out; have := hsz1.out; have := hsz2.out; have := hsz3.out; have := hsz4.out; omega))
              replace P7 := hid hbk
              clear hbk hgr
              refine hK.out _ _ ⟨(XPM.out.step HQ.out).cells3.1, (XPM.out.step HQ.out).cells3.2.1, (XPM.out.step HQ.out).cells3.2.2.1, (XPS.out.step HQ.out).cells6.1, (XPS.out.step HQ.out).cells6.2.1, (XPS.out.step HQ.out).cells6.2.2.1, (XPS.out.step HQ.out).cells6.2.2.2.1, (XPS.out.step HQ.out).cells6.2.2.2.2.1, (XPS.out.step HQ.out).cells6.2.2.2.2.2.1⟩ (fun hS' => ?_)
              clear hK K hS
              have hS := hS'
              clear hS'
              (try simp only [Act.put, List.setIfInBounds_toArray, List.set_cons_zero, List.set_cons_succ])
              refine wpAnyH_ready (rs := [10]) (by kernel_rfl) (by simp) ?_
              refine AllReadyH.cons (by simp only [List.getElem?_toArray, List.getElem?_cons_succ, List.getElem?_cons_zero]; rfl) (fun K hK => ?_) ?_
              · skip
                obtain ⟨y00, y01, y02, y03, y04, y05, yf0⟩ := P8.out.cells6
                go_simp
                clear y00 y01 y02 y03 y04 y05 yf0
                refine named_store_6_6_0 P8.out ?_
                intro Ws10 hbk hgr hsz
                have hsz5 := hid hsz
                clear hsz
                replace P7 := hid (P7.out.grown hgr (fun e => P7.out.ne P8.out (by decide) (by simpa using e)))
                replace OM := hid (mown_kept OM.out P8.out tq1 tq2 hgr)
                replace OV := hid (OV.out.keptG hgr (fun v hv e => OV.out.ne_blk P8.out tq1 v hv (by simpa using e)))
                replace HQ := hid (HQ.out.grown hgr HQ.out.size (fun r e => by cases e; have := hszd.out; have := hsz0.out; have := hsz1.out; have := hsz2.out; have := hsz3.out; have := hsz4.out; have := hsz5.out; omega))
                replace P8 := hid hbk
                clear hbk hgr
                refine hK.out _ _ ⟨(XPM.out.step HQ.out).cells3.1, (XPM.out.step HQ.out).cells3.2.1, (XPM.out.step HQ.out).cells3.2.2.1, (XPS.out.step HQ.out).cells6.1, (XPS.out.step HQ.out).cells6.2.1, (XPS.out.step HQ.out).cells6.2.2.1, (XPS.out.step HQ.out).cells6.2.2.2.1, (XPS.out.step HQ.out).cells6.2.2.2.2.1, (XPS.out.step HQ.out).cells6.2.2.2.2.2.1⟩ (fun hS' => ?_)
                clear hK K hS
                have hS := hS'
                clear hS'
                (try simp only [Act.put, List.setIfInBounds_toArray, List.set_cons_zero, List.set_cons_succ])
                refine wpAnyH_done (by kernel_rfl) ?_ _
                refine NoPanic.normal ?_
                clear hS
                go_wp2_with fail
                go_meet
                exact ⟨_, _, _, _, _, _, _, _, _, _, _, rfl, rfl, ⟨P7.out, P8.out, OM.out, OV.out, HFAR.out, HQ.out, by have := hszd.out; have := hsz0.out; have := hsz1.out; have := hsz2.out; have := hsz3.out; have := hsz4.out; have := hsz5.out; omega, by have := hszd.out; have := hsz0.out; have := hsz1.out; have := hsz2.out; have := hsz3.out; have := hsz4.out; have := hsz5.out; omega⟩⟩
              exact AllReadyH.nil
            exact AllReadyH.nil
          exact AllReadyH.nil
        refine AllReadyH.cons (by simp only [List.getElem?_toArray, List.getElem?_cons_succ, List.getElem?_cons_zero]; rfl) (fun K hK => ?_) ?_
        · skip
          go_simp
          refine named_alloc ?_
          intro Wa8 hbk hb hsz
          have hsz2 := hid hsz
          replace OM0 := hid (OM0.out.step hb); replace OM := hid (OM.out.step hb); replace OV := hid (OV.out.step hb); replace HQ := hid (below_then HQ.out hb)
          have P8 := hid hbk
          clear hb hbk hsz
          refine hK.out _ _ ⟨(XPM.out.step HQ.out).cells3.1, (XPM.out.step HQ.out).cells3.2.1, (XPM.out.step HQ.out).cells3.2.2.1, (XPS.out.step HQ.out).cells6.1, (XPS.out.step HQ.out).cells6.2.1, (XPS.out.step HQ.out).cells6.2.2.1, (XPS.out.step HQ.out).cells6.2.2.2.1, (XPS.out.step HQ.out).cells6.2.2.2.2.1, (XPS.out.step HQ.out).cells6.2.2.2.2.2.1⟩ (fun hS' => ?_)
          clear hK K hS
          have hS := hS'
          clear hS'
          (try simp only [Act.put, List.setIfInBounds_toArray, List.set_cons_zero, List.set_cons_succ])
          refine wpAnyH_ready (rs := [7]) (by kernel_rfl) (by simp) ?_
          refine AllReadyH.cons (by simp only [List.getElem?_toArray, List.getElem?_cons_succ, List.getElem?_cons_zero]; rfl) (fun K hK => ?_) ?_
          · skip
            go_simp
            refine named_alloc ?_
            intro Wa7 hbk hb hsz
            have hsz3 := hid hsz
            replace OM0 := hid (OM0.out.step hb); replace OM := hid (OM.out.step hb); replace OV := hid (OV.out.step hb); replace P8 := hid (P8.out.step hb); replace HQ := hid (below_then HQ.out hb)
            have P7 := hid hbk
            clear hb hbk hsz
            refine hK.out _ _ ⟨(XPM.out.step HQ.out).cells3.1, (XPM.out.step HQ.out).cells3.2.1, (XPM.out.step HQ.out).cells3.2.2.1, (XPS.out.step HQ.out).cells6.1, (XPS.out.step HQ.out).cells6.2.1, (XPS.out.step HQ.out).cells6.2.2.1, (XPS.out.step HQ.out).cells6.2.2.2.1, (XPS.out.step HQ.out).cells6.2.2.2.2.1, (XPS.out.step HQ.out).cells6.2.2.2.2.2.1⟩ (fun hS' => ?_)
            clear hK K hS
            have hS := hS'
            clear hS'
            (try simp only [Act.put, List.setIfInBounds_toArray, List.set_cons_zero, List.set_cons_succ])
            refine wpAnyH_ready (rs := [9]) (by kernel_rfl) (by simp) ?_
            refine AllReadyH.cons (by simp only [List.getElem?_toArray, List.getElem?_cons_succ, List.getElem?_cons_zero]; rfl) (fun K hK => ?_) ?_
            · skip
              obtain ⟨y00, y01, y02, yf0⟩ := P7.out.cells3
              go_simp
              clear y00 y01 y02 yf0
              refine named_store3 P7.out ?_
              intro Ws9 hbk hgr hsz
              have hsz4 := hid hsz
              clear hsz
              replace P8 := hid (P8.out.grown hgr (fun e => P7.out.ne P8.out (by decide) (by simpa using e.symm)))
              replace OM := hid (mown_kept OM.out P7.out tm1 tm2 hgr)
              replace OV := hid (OV.out.keptG hgr (fun v hv e => OV.out.ne_blk P7.out tm1 v hv (by simpa using e)))
              replace HQ := hid (HQ.out.grown hgr HQ.out.size (fun r e => by cases e; have := hszd.out; have := hsz0.out; have := hsz1.out; have := hsz2.out; have := hsz3.out; have := hsz4.out; omega))
              replace P7 := hid hbk
              clear hbk hgr
              refine hK.out _ _ ⟨(XPM.out.step HQ.out).cells3.1, (XPM.out.step HQ.out).cells3.2.1, (XPM.out.step HQ.out).cells3.2.2.1, (XPS.out.step HQ.out).cells6.1, (XPS.out.step HQ.out).cells6.2.1, (XPS.out.step HQ.out).cells6.2.2.1, (XPS.out.step HQ.out).cells6.2.2.2.1, (XPS.out.step HQ.out).cells6.2.2.2.2.1, (XPS.out.step HQ.out).cells6.2.2.2.2.2.1⟩ (fun hS' => ?_)
              clear hK K hS
              have hS := hS'
              clear hS'
              (try simp only [Act.put, List.setIfInBounds_toArray, List.set_cons_zero, List.set_cons_succ])
              refine wpAnyH_ready (rs := [10]) (by kernel_rfl) (by simp) ?_
              refine AllReadyH.cons (by simp only [List.getElem?_toArray, List.getElem?_cons_succ, List.getElem?_cons_zero]; rfl) (fun K hK => ?_) ?_
              · skip
                obtain ⟨y00, y01, y02, y03, y04, y05, yf0⟩ := P8.out.cells6
                go_simp
                clear y00 y01 y02 y03 y04 y05 yf0
                refine named_store_6_6_0 P8.out ?_
                intro Ws10 hbk hgr hsz
                have hsz5 := hid hsz
                clear hsz
                replace P7 := hid (P7.out.grown hgr (fun e => P7.out.ne P8.out (by decide) (by simpa using e)))
                replace OM := hid (mown_kept OM.out P8.out tq1 tq2 hgr)
                replace OV := hid (OV.out.keptG hgr (fun v hv e => OV.out.ne_blk P8.out tq1 v hv (by simpa using e)))
                replace HQ := hid (HQ.out.grown hgr HQ.out.size (fun r e => by cases e; have := hszd.out; have := hsz0.out; have := hsz1.out; have := hsz2.out; have := hsz3.out; have := hsz4.out; have := hsz5.out; omega))
                replace P8 := hid hbk
                clear hbk hgr
                refine hK.out _ _ ⟨(XPM.out.step HQ.out).cells3.1, (XPM.out.step HQ.out).cells3.2.1, (XPM.out.step HQ.out).cells3.2.2.1, (XPS.out.step HQ.out).cells6.1, (XPS.out.step HQ.out).cells6.2.1, (XPS.out.step HQ.out).cells6.2.2.1, (XPS.out.step HQ.out).cells6.2.2.2.1, (XPS.out.step HQ.out).cells6.2.2.2.2.1, (XPS.out.step HQ.out).cells6.2.2.2.2.2.1⟩ (fun hS' => ?_)
                clear hK K hS
                have hS := hS'
                clear hS'
                (try simp only [Act.put, List.setIfInBounds_toArray, List.set_cons_zero, List.set_cons_succ])
                refine wpAnyH_done (by kernel_rfl) ?_ _
                refine NoPanic.normal ?_
                clear hS
                go_wp2_with fail
                go_meet
                exact ⟨_, _, _, _, _, _, _, _, _, _, _, rfl, rfl, ⟨P7.out, P8.out, OM.out, OV.out, HFAR.out, HQ.out, by have := hszd.out; have := hsz0.out; have := hsz1.out; have := hsz2.out; have := hsz3.out; have := hsz4.out; have := hsz5.out; omega, by have := hszd.out; have := hsz0.out; have := hsz1.out; have := hsz2.out; have := hsz3.out; have := hsz4.out; have := hsz5.out; omega⟩⟩
              exact AllReadyH.nil
            exact AllReadyH.nil
          exact AllReadyH.nil
        exact AllReadyH.nil
      refine AllReadyH.cons (by simp only [List.getElem?_toArray, List.getElem?_cons_succ, List.getElem?_cons_zero]; rfl) (fun K hK => ?_) ?_
      · skip
        go_simp
        refine named_alloc ?_
        intro Wa7 hbk hb hsz
        have hsz1 := hid hsz
        replace OM0 := hid (OM0.out.step hb); replace HQ := hid (below_then HQ.out hb)
        have P7 := hid hbk
        clear hb hbk hsz
        refine hK.out _ _ ⟨(XPM.out.step HQ.out).cells3.1, (XPM.out.step HQ.out).cells3.2.1, (XPM.out.step HQ.out).cells3.2.2.1, (XPS.out.step HQ.out).cells6.1, (XPS.out.step HQ.out).cells6.2.1, (XPS.out.step HQ.out).cells6.2.2.1, (XPS.out.step HQ.out).cells6.2.2.2.1, (XPS.out.step HQ.out).cells6.2.2.2.2.1, (XPS.out.step HQ.out).cells6.2.2.2.2.2.1⟩ (fun hS' => ?_)
        clear hK K hS
        have hS := hS'
        clear hS'
        (try simp only [Act.put, List.setIfInBounds_toArray, List.set_cons_zero, List.set_cons_succ])
        refine wpAnyH_ready (rs := [3, 8]) (by kernel_rfl) (by simp) ?_
        refine AllReadyH.cons (by simp only [List.getElem?_toArray, List.getElem?_cons_succ, List.getElem?_cons_zero]; rfl) (fun K hK => ?_) ?_
        · skip
          go_simp
          refine (stepwrite_any A2 n2 c2 B2 k2 d2 m _ s V vn vc _ OM0.out (by have := hlo.out; have := hszd.out; have := hsz0.out; have := hsz1.out; omega) (XV.out.step HQ.out) HG.out hvn HS.out).mono ?_
          rintro e ws3 ⟨A3, n3, c3, B3, k3, d3, V3, vn3, vc3, rfl, om, ov, hfar, hb⟩
          have hsz2 := hid (show Wa7.heap.size ≤ ws3.heap.size from hb.size)
          replace OM0 := hid (OM0.out.step hb); replace P7 := hid (P7.out.step hb); replace HQ := hid (below_then HQ.out hb)
          clear hb
          rw [← HR.out] at om ov ⊢
          dsimp only at om ov ⊢
          have OM := hid (om.mono hlo2.out); have OV := hid (ov.mono hlo2.out); have HFAR := hid hfar
          clear om ov hfar
          go_wp2_with fail
          refine hK.out _ _ ⟨(XPM.out.step HQ.out).cells3.1, (XPM.out.step HQ.out).cells3.2.1, (XPM.out.step HQ.out).cells3.2.2.1, (XPS.out.step HQ.out).cells6.1, (XPS.out.step HQ.out).cells6.2.1, (XPS.out.step HQ.out).cells6.2.2.1, (XPS.out.step HQ.out).cells6.2.2.2.1, (XPS.out.step HQ.out).cells6.2.2.2.2.1, (XPS.out.step HQ.out).cells6.2.2.2.2.2.1⟩ (fun hS' => ?_)
          clear hK K hS
          have hS := hS'
          clear hS'
          (try simp only [Act.put, List.setIfInBounds_toArray, List.set_cons_zero, List.set_cons_succ])
          refine wpAnyH_take (i := 4) (v := ?_) (by simp only [List.getElem?_toArray, List.getElem?_cons_succ, List.getElem?_cons_zero]; rfl) (by kernel_rfl) (by kernel_rfl) (by kernel_rfl) (fun _ _ _ h => h) (Or.inl ⟨by rfl, ?_⟩) hS ?_
          rotate_left
          · intro w' hSw; (try dsimp only at hSw); go_split_ands; go_simp; (try with_reducible rfl)
          (try simp only [Act.put, List.setIfInBounds_toArray, List.set_cons_zero, List.set_cons_succ])
          refine wpAnyH_take (i := 5) (v := ?_) (by simp only [List.getElem?_toArray, List.getElem?_cons_succ, List.getElem?_cons_zero]; rfl) (by kernel_rfl) (by kernel_rfl) (by kernel_rfl) (fun _ _ _ h => h) (Or.inl ⟨by rfl, ?_⟩) hS ?_
          rotate_left
          · intro w' hSw; (try dsimp only at hSw); go_split_ands; go_simp; (try with_reducible rfl)
          (try simp only [Act.put, List.setIfInBounds_toArray, List.set_cons_zero, List.set_cons_succ])
          refine wpAnyH_take (i := 6) (v := ?_) (by simp only [List.getElem?_toArray, List.getElem?_cons_succ, List.getElem?_cons_zero]; rfl) (by kernel_rfl) (by kernel_rfl) (by kernel_rfl) (fun _ _ _ h => h) (Or.inl ⟨by rfl, ?_⟩) hS ?_
          rotate_left
          · intro w' hSw; (try dsimp only at hSw); go_split_ands; go_simp; (try with_reducible rfl)
          (try simp only [Act.put, List.setIfInBounds_toArray, List.set_cons_zero, List.set_cons_succ])
          refine wpAnyH_ready (rs := [8]) (by kernel_rfl) (by simp) ?_
          refine AllReadyH.cons (by simp only [List.getElem?_toArray, List.getElem?_cons_succ, List.getElem?_cons_zero]; rfl) (fun K hK => ?_) ?_
          · skip
            go_simp
            refine named_alloc ?_
            intro Wa8 hbk hb hsz
            have hsz3 := hid hsz
            replace OM0 := hid (OM0.out.step hb); replace P7 := hid (P7.out.step hb); replace OM := hid (OM.out.step hb); replace OV := hid (OV.out.step hb); replace HQ := hid (below_then HQ.out hb)
            have P8 := hid hbk
            clear hb hbk hsz
            refine hK.out _ _ ⟨(XPM.out.step HQ.out).cells3.1, (XPM.out.step HQ.out).cells3.2.1, (XPM.out.step HQ.out).cells3.2.2.1, (XPS.out.step HQ.out).cells6.1, (XPS.out.step HQ.out).cells6.2.1, (XPS.out.step HQ.out).cells6.2.2.1, (XPS.out.step HQ.out).cells6.2.2.2.1, (XPS.out.step HQ.out).cells6.2.2.2.2.1, (XPS.out.step HQ.out).cells6.2.2.2.2.2.1⟩ (fun hS' => ?_)
            clear hK K hS
            have hS := hS'
            clear hS'
            (try simp only [Act.put, List.setIfInBounds_toArray, List.set_cons_zero, List.set_cons_succ])
            refine wpAnyH_ready (rs := [9]) (by kernel_rfl) (by simp) ?_
            refine AllReadyH.cons (by simp only [List.getElem?_toArray, List.getElem?_cons_succ, List.getElem?_cons_zero]; rfl) (fun K hK => ?_) ?_
            · skip
              obtain ⟨y00, y01, y02, yf0⟩ := P7.out.cells3
              go_simp
              clear y00 y01 y02 yf0
              refine named_store3 P7.out ?_
              intro Ws9 hbk hgr hsz
              have hsz4 := hid hsz
              clear hsz
              replace P8 := hid (P8.out.grown hgr (fun e => P7.out.ne P8.out (by decide) (by simpa using e.symm)))
              replace OM := hid (mown_kept OM.out P7.out tm1 tm2 hgr)
              replace OV := hid (OV.out.keptG hgr (fun v hv e => OV.out.ne_blk P7.out tm1 v hv (by simpa using e)))
              replace HQ := hid (HQ.out.grown hgr HQ.out.size (fun r e => by cases e; have := hszd.out; have := hsz0.out; have := hsz1.out; have := hsz2.out; have := hsz3.out; have := hsz4.out; omega))
              replace P7 := hid hbk
              clear hbk hgr
              refine hK.out _ _ ⟨(XPM.out.step HQ.out).cells3.1, (XPM.out.step HQ.out).cells3.2.1, (XPM.out.step HQ.out).cells3.2.2.1, (XPS.out.step HQ.out).cells6.1, (XPS.out.step HQ.out).cells6.2.1, (XPS.out.step HQ.out).cells6.2.2.1, (XPS.out.step HQ.out).cells6.2.2.2.1, (XPS.out.step HQ.out).cells6.2.2.2.2.1, (XPS.out.step HQ.out).cells6.2.2.2.2.2.1⟩ (fun hS' => ?_)
              clear hK K hS
              have hS := hS'
              clear hS'
              (try simp only [Act.put, List.setIfInBounds_toArray, List.set_cons_zero, List.set_cons_succ])
              refine wpAnyH_ready (rs := [10]) (by kernel_rfl) (by simp) ?_
              refine AllReadyH.cons (by simp only [List.getElem?_toArray, List.getElem?_cons_succ, List.getElem?_cons_zero]; rfl) (fun K hK => ?_) ?_
              · skip
                obtain ⟨y00, y01, y02, y03, y04, y05, yf0⟩ := P8.out.cells6
                go_simp
                clear y00 y01 y02 y03 y04 y05 yf0
                refine named_store_6_6_0 P8.out ?_
                intro Ws10 hbk hgr hsz
                have hsz5 := hid hsz
                clear hsz
                replace P7 := hid (P7.out.grown hgr (fun e => P7.out.ne P8.out (by decide) (by simpa using e)))
                replace OM := hid (mown_kept OM.out P8.out tq1 tq2 hgr)
                replace OV := hid (OV.out.keptG hgr (fun v hv e => OV.out.ne_blk P8.out tq1 v hv (by simpa using e)))
                replace HQ := hid (HQ.out.grown hgr HQ.out.size (fun r e => by cases e; have := hszd.out; have := hsz0.out; have := hsz1.out; have := hsz2.out; have := hsz3.out; have := hsz4.out; have := hsz5.out; omega))
                replace P8 := hid hbk
                clear hbk hgr
                refine hK.out _ _ ⟨(XPM.out.step HQ.out).cells3.1, (XPM.out.step HQ.out).cells3.2.1, (XPM.out.step HQ.out).cells3.2.2.1, (XPS.out.step HQ.out).cells6.1, (XPS.out.step HQ.out).cells6.2.1, (XPS.out.step HQ.out).cells6.2.2.1, (XPS.out.step HQ.out).cells6.2.2.2.1, (XPS.out.step HQ.out).cells6.2.2.2.2.1, (XPS.out.step HQ.out).cells6.2.2.2.2.2.1⟩ (fun hS' => ?_)
                clear hK K hS
                have hS := hS'
                clear hS'
                (try simp only [Act.put, List.setIfInBounds_toArray, List.set_cons_zero, List.set_cons_succ])
                refine wpAnyH_done (by kernel_rfl) ?_ _
                refine NoPanic.normal ?_
                clear hS
                go_wp2_with fail
                go_meet
                exact ⟨_, _, _, _, _, _, _, _, _, _, _, rfl, rfl, ⟨P7.out, P8.out, OM.out, OV.out, HFAR.out, HQ.out, by have := hszd.out; have := hsz0.out; have := hsz1.out; have := hsz2.out; have := hsz3.out; have := hsz4.out; have := hsz5.out; omega, by have := hszd.out; have := hsz0.out; have := hsz1.out; have := hsz2.out; have := hsz3.out; have := hsz4.out; have := hsz5.out; omega⟩⟩
              exact AllReadyH.nil
            exact AllReadyH.nil
          exact AllReadyH.nil
        refine AllReadyH.cons (by simp only [List.getElem?_toArray, List.getElem?_cons_succ, List.getElem?_cons_zero]; rfl) (fun K hK => ?_) ?_
        · skip
          go_simp
          refine named_alloc ?_
          intro Wa8 hbk hb hsz
          have hsz2 := hid hsz
          replace OM0 := hid (OM0.out.step hb); replace P7 := hid (P7.out.step hb); replace HQ := hid (below_then HQ.out hb)
          have P8 := hid hbk
          clear hb hbk hsz
          refine hK.out _ _ ⟨(XPM.out.step HQ.out).cells3.1, (XPM.out.step HQ.out).cells3.2.1, (XPM.out.step HQ.out).cells3.2.2.1, (XPS.out.step HQ.out).cells6.1, (XPS.out.step HQ.out).cells6.2.1, (XPS.out.step HQ.out).cells6.2.2.1, (XPS.out.step HQ.out).cells6.2.2.2.1, (XPS.out.step HQ.out).cells6.2.2.2.2.1, (XPS.out.step HQ.out).cells6.2.2.2.2.2.1⟩ (fun hS' => ?_)
          clear hK K hS
          have hS := hS'
          clear hS'
          (try simp only [Act.put, List.setIfInBounds_toArray, List.set_cons_zero, List.set_cons_succ])
          refine wpAnyH_ready (rs := [3]) (by kernel_rfl) (by simp) ?_
          refine AllReadyH.cons (by simp only [List.getElem?_toArray, List.getElem?_cons_succ, List.getElem?_cons_zero]; rfl) (fun K hK => ?_) ?_
          · skip
            go_simp
            refine (stepwrite_any A2 n2 c2 B2 k2 d2 m _ s V vn vc _ OM0.out (by have := hlo.out; have := hszd.out; have := hsz0.out; have := hsz1.out; have := hsz2.out; omega) (XV.out.step HQ.out) HG.out hvn HS.out).mono ?_
            rintro e ws3 ⟨A3, n3, c3, B3, k3, d3, V3, vn3, vc3, rfl, om, ov, hfar, hb⟩
            have hsz3 := hid (show Wa8.heap.size ≤ ws3.heap.size from hb.size)
            replace OM0 := hid (OM0.out.step hb); replace P7 := hid (P7.out.step hb); replace P8 := hid (P8.out.step hb); replace HQ := hid (below_then HQ.out hb)
            clear hb
            rw [← HR.out] at om ov ⊢
            dsimp only at om ov ⊢
            have OM := hid (om.mono hlo2.out); have OV := hid (ov.mono hlo2.out); have HFAR := hid hfar
            clear om ov hfar
            go_wp2_with fail
            refine hK.out _ _ ⟨(XPM.out.step HQ.out).cells3.1, (XPM.out.step HQ.out).cells3.2.1, (XPM.out.step HQ.out).cells3.2.2.1, (XPS.out.step HQ.out).cells6.1, (XPS.out.step HQ.out).cells6.2.1, (XPS.out.step HQ.out).cells6.2.2.1, (XPS.out.step HQ.out).cells6.2.2.2.1, (XPS.out.step HQ.out).cells6.2.2.2.2.1, (XPS.out.step HQ.out).cells6.2.2.2.2.2.1⟩ (fun hS' => ?_)
            clear hK K hS
            have hS := hS'
            clear hS'
            (try simp only [Act.put, List.setIfInBounds_toArray, List.set_cons_zero, List.set_cons_succ])
            refine wpAnyH_take (i := 4) (v := ?_) (by simp only [List.getElem?_toArray, List.getElem?_cons_succ, List.getElem?_cons_zero]; rfl) (by kernel_rfl) (by kernel_rfl) (by kernel_rfl) (fun _ _ _ h => h) (Or.inl ⟨by rfl, ?_⟩) hS ?_
            rotate_left
            · intro w' hSw; (try dsimp only at hSw); go_split_ands; go_simp; (try with_reducible rfl)
            (try simp only [Act.put, List.setIfInBounds_toArray, List.set_cons_zero, List.set_cons_succ])
            refine wpAnyH_take (i := 5) (v := ?_) (by simp only [List.getElem?_toArray, List.getElem?_cons_succ, List.getElem?_cons_zero]; rfl) (by kernel_rfl) (by kernel_rfl) (by kernel_rfl) (fun _ _ _ h => h) (Or.inl ⟨by rfl, ?_⟩) hS ?_
            rotate_left
            · intro w' hSw; (try dsimp only at hSw); go_split_ands; go_simp; (try with_reducible rfl)
            (try simp only [Act.put, List.setIfInBounds_toArray, List.set_cons_zero, List.set_cons_succ])
            refine wpAnyH_take (i := 6) (v := ?_) (by simp only [List.getElem?_toArray, List.getElem?_cons_succ, List.getElem?_cons_zero]; rfl) (by kernel_rfl) (by kernel_rfl) (by kernel_rfl) (fun _ _ _ h => h) (Or.inl ⟨by rfl, ?_⟩) hS ?_
            rotate_left
            · intro w' hSw; (try dsimp only at hSw); go_split_ands; go_simp; (try with_reducible rfl)
            (try simp only [Act.put, List.setIfInBounds_toArray, List.set_cons_zero, List.set_cons_succ])
            refine wpAnyH_ready (rs := [9]) (by kernel_rfl) (by simp) ?_
            refine AllReadyH.cons (by simp only [List.getElem?_toArray, List.getElem?_cons_succ, List.getElem?_cons_zero]; rfl) (fun K hK => ?_) ?_
            · skip
              obtain ⟨y00, y01, y02, yf0⟩ := P7.out.cells3
              go_simp
              clear y00 y01 y02 yf0
              refine named_store3 P7.out ?_
              intro Ws9 hbk hgr hsz
              have hsz4 := hid hsz
              clear hsz
              replace P8 := hid (P8.out.grown hgr (fun e => P7.out.ne P8.out (by decide) (by simpa using e.symm)))
              replace OM := hid (mown_kept OM.out P7.out tm1 tm2 hgr)
              replace OV := hid (OV.out.keptG hgr (fun v hv e => OV.out.ne_blk P7.out tm1 v hv (by simpa using e)))
              replace HQ := hid (HQ.out.grown hgr HQ.out.size (fun r e => by cases e; have := hszd.out; have := hsz0.out; have := hsz1.out; have := hsz2.out; have := hsz3.out; have := hsz4.out; omega))
              replace P7 := hid hbk
              clear hbk hgr
              refine hK.out _ _ ⟨(XPM.out.step HQ.out).cells3.1, (XPM.out.step HQ.out).cells3.2.1, (XPM.out.step HQ.out).cells3.2.2.1, (XPS.out.step HQ.out).cells6.1, (XPS.out.step HQ.out).cells6.2.1, (XPS.out.step HQ.out).cells6.2.2.1, (XPS.out.step HQ.out).cells6.2.2.2.1, (XPS.out.step HQ.out).cells6.2.2.2.2.1, (XPS.out.step HQ.out).cells6.2.2.2.2.2.1⟩ (fun hS' => ?_)
              clear hK K hS
              have hS := hS'
              clear hS'
              (try simp only [Act.put, List.setIfInBounds_toArray, List.set_cons_zero, List.set_cons_succ])
              refine wpAnyH_ready (rs := [10]) (by kernel_rfl) (by simp) ?_
              refine AllReadyH.cons (by simp only [List.getElem?_toArray, List.getElem?_cons_succ, List.getElem?_cons_zero]; rfl) (fun K hK => ?_) ?_
              · skip
                obtain ⟨y00, y01, y02, y03, y04, y05, yf0⟩ := P8.out.cells6
                go_simp
                clear y00 y01 y02 y03 y04 y05 yf0
                refine named_store_6_6_0 P8.out ?_
                intro Ws10 hbk hgr hsz
                have hsz5 := hid hsz
                clear hsz
                replace P7 := hid (P7.out.grown hgr (fun e => P7.out.ne P8.out (by decide) (by simpa using e)))
                replace OM := hid (mown_kept OM.out P8.out tq1 tq2 hgr)
                replace OV := hid (OV.out.keptG hgr (fun v hv e => OV.out.ne_blk P8.out tq1 v hv (by simpa using e)))
                replace HQ := hid (HQ.out.grown hgr HQ.out.size (fun r e => by cases e; have := hszd.out; have := hsz0.out; have := hsz1.out; have := hsz2.out; have := hsz3.out; have := hsz4.out; have := hsz5.out; omega))
                replace P8 := hid hbk
                clear hbk hgr
                refine hK.out _ _ ⟨(XPM.out.step HQ.out).cells3.1, (XPM.out.step HQ.out).cells3.2.1, (XPM.out.step HQ.out).cells3.2.2.1, (XPS.out.step HQ.out).cells6.1, (XPS.out.step HQ.out).cells6.2.1, (XPS.out.step HQ.out).cells6.2.2.1, (XPS.out.step HQ.out).cells6.2.2.2.1, (XPS.out.step HQ.out).cells6.2.2.2.2.1, (XPS.out.step HQ.out).cells6.2.2.2.2.2.1⟩ (fun hS' => ?_)
                clear hK K hS
                have hS := hS'
                clear hS'
                (try simp only [Act.put, List.setIfInBounds_toArray, List.set_cons_zero, List.set_cons_succ])
                refine wpAnyH_done (by kernel_rfl) ?_ _
                refine NoPanic.normal ?_
                clear hS
                go_wp2_with fail
                go_meet
                exact ⟨_, _, _, _, _, _, _, _, _, _, _, rfl, rfl, ⟨P7.out, P8.out, OM.out, OV.out, HFAR.out, HQ.out, by have := hszd.out; have := hsz0.out; have := hsz1.out; have := hsz2.out; have := hsz3.out; have := hsz4.out; have := hsz5.out; omega, by have := hszd.out; have := hsz0.out; have := hsz1.out; have := hsz2.out; have := hsz3.out; have := hsz4.out; have := hsz5.out; omega⟩⟩
              exact AllReadyH.nil
            exact AllReadyH.nil
          exact AllReadyH.nil
        exact AllReadyH.nil
      refine AllReadyH.cons (by simp only [List.getElem?_toArray, List.getElem?_cons_succ, List.getElem?_cons_zero]; rfl) (fun K hK => ?_) ?_
      · skip
        go_simp
        refine named_alloc ?_
        intro Wa8 hbk hb hsz
        have hsz1 := hid hsz
        replace OM0 := hid (OM0.out.step hb); replace HQ := hid (below_then HQ.out hb)
        have P8 := hid hbk
        clear hb hbk hsz
        refine hK.out _ _ ⟨(XPM.out.step HQ.out).cells3.1, (XPM.out.step HQ.out).cells3.2.1, (XPM.out.step HQ.out).cells3.2.2.1, (XPS.out.step HQ.out).cells6.1, (XPS.out.step HQ.out).cells6.2.1, (XPS.out.step HQ.out).cells6.2.2.1, (XPS.out.step HQ.out).cells6.2.2.2.1, (XPS.out.step HQ.out).cells6.2.2.2.2.1, (XPS.out.step HQ.out).cells6.2.2.2.2.2.1⟩ (fun hS' => ?_)
        clear hK K hS
        have hS := hS'
        clear hS'
        (try simp only [Act.put, List.setIfInBounds_toArray, List.set_cons_zero, List.set_cons_succ])
        refine wpAnyH_ready (rs := [3, 7]) (by kernel_rfl) (by simp) ?_
        refine AllReadyH.cons (by simp only [List.getElem?_toArray, List.getElem?_cons_succ, List.getElem?_cons_zero]; rfl) (fun K hK => ?_) ?_
        · skip
          go_simp
          refine (stepwrite_any A2 n2 c2 B2 k2 d2 m _ s V vn vc _ OM0.out (by have := hlo.out; have := hszd.out; have := hsz0.out; have := hsz1.out; omega) (XV.out.step HQ.out) HG.out hvn HS.out).mono ?_
          rintro e ws3 ⟨A3, n3, c3, B3, k3, d3, V3, vn3, vc3, rfl, om, ov, hfar, hb⟩
          have hsz2 := hid (show Wa8.heap.size ≤ ws3.heap.size from hb.size)
          replace OM0 := hid (OM0.out.step hb); replace P8 := hid (P8.out.step hb); replace HQ := hid (below_then HQ.out hb)
          clear hb
          rw [← HR.out] at om ov ⊢
          dsimp only at om ov ⊢
          have OM := hid (om.mono hlo2.out); have OV := hid (ov.mono hlo2.out); have HFAR := hid hfar
          clear om ov hfar
          go_wp2_with fail
          refine hK.out _ _ ⟨(XPM.out.step HQ.out).cells3.1, (XPM.out.step HQ.out).cells3.2.1, (XPM.out.step HQ.out).cells3.2.2.1, (XPS.out.step HQ.out).cells6.1, (XPS.out.step HQ.out).cells6.2.1, (XPS.out.step HQ.out).cells6.2.2.1, (XPS.out.step HQ.out).cells6.2.2.2.1, (XPS.out.step HQ.out).cells6.2.2.2.2.1, (XPS.out.step HQ.out).cells6.2.2.2.2.2.1⟩ (fun hS' => ?_)
          clear hK K hS
          have hS := hS'
          clear hS'
          (try simp only [Act.put, List.setIfInBounds_toArray, List.set_cons_zero, List.set_cons_succ])
          refine wpAnyH_take (i := 4) (v := ?_) (by simp only [List.getElem?_toArray, List.getElem?_cons_succ, List.getElem?_cons_zero]; rfl) (by kernel_rfl) (by kernel_rfl) (by kernel_rfl) (fun _ _ _ h => h) (Or.inl ⟨by rfl, ?_⟩) hS ?_
          rotate_left
          · intro w' hSw; (try dsimp only at hSw); go_split_ands; go_simp; (try with_reducible rfl)
          (try simp only [Act.put, List.setIfInBounds_toArray, List.set_cons_zero, List.set_cons_succ])
          refine wpAnyH_take (i := 5) (v := ?_) (by simp only [List.getElem?_toArray, List.getElem?_cons_succ, List.getElem?_cons_zero]; rfl) (by kernel_rfl) (by kernel_rfl) (by kernel_rfl) (fun _ _ _ h => h) (Or.inl ⟨by rfl, ?_⟩) hS ?_
          rotate_left
          · intro w' hSw; (try dsimp only at hSw); go_split_ands; go_simp; (try with_reducible rfl)
          (try simp only [Act.put, List.setIfInBounds_toArray, List.set_cons_zero, List.set_cons_succ])
          refine wpAnyH_take (i := 6) (v := ?_) (by simp only [List.getElem?_toArray, List.getElem?_cons_succ, List.getElem?_cons_zero]; rfl) (by kernel_rfl) (by kernel_rfl) (by kernel_rfl) (fun _ _ _ h => h) (Or.inl ⟨by rfl, ?_⟩) hS ?_
          rotate_left
          · intro w' hSw; (try dsimp only at hSw); go_split_ands; go_simp; (try with_reducible rfl)
          (try simp only [Act.put, List.setIfInBounds_toArray, List.set_cons_zero, List.set_cons_succ])
          refine wpAnyH_ready (rs := [7]) (by kernel_rfl) (by simp) ?_
          refine AllReadyH.cons (by simp only [List.getElem?_toArray, List.getElem?_cons_succ, List.getElem?_cons_zero]; rfl) (fun K hK => ?_) ?_
          · skip
            go_simp
            refine named_alloc ?_
            intro Wa7 hbk hb hsz
            have hsz3 := hid hsz
            replace OM0 := hid (OM0.out.step hb); replace P8 := hid (P8.out.step hb); replace OM := hid (OM.out.step hb); replace OV := hid (OV.out.step hb); replace HQ := hid (below_then HQ.out hb)
            have P7 := hid hbk
            clear hb hbk hsz
            refine hK.out _ _ ⟨(XPM.out.step HQ.out).cells3.1, (XPM.out.step HQ.out).cells3.2.1, (XPM.out.step HQ.out).cells3.2.2.1, (XPS.out.step HQ.out).cells6.1, (XPS.out.step HQ.out).cells6.2.1, (XPS.out.step HQ.out).cells6.2.2.1, (XPS.out.step HQ.out).cells6.2.2.2.1, (XPS.out.step HQ.out).cells6.2.2.2.2.1, (XPS.out.step HQ.out).cells6.2.2.2.2.2.1⟩ (fun hS' => ?_)
            clear hK K hS
            have hS := hS'
            clear hS'
            (try simp only [Act.put, List.setIfInBounds_toArray, List.set_cons_zero, List.set_cons_succ])
            refine wpAnyH_ready (rs := [9]) (by kernel_rfl) (by simp) ?_
            refine AllReadyH.cons (by simp only [List.getElem?_toArray, List.getElem?_cons_succ, List.getElem?_cons_zero]; rfl) (fun K hK => ?_) ?_
            · skip
              obtain ⟨y00, y01, y02, yf0⟩ := P7.out.cells3
              go_simp
              clear y00 y01 y02 yf0
              refine named_store3 P7.out ?_
              intro Ws9 hbk hgr hsz
              have hsz4 := hid hsz
              clear hsz
              replace P8 := hid (P8.out.grown hgr (fun e => P7.out.ne P8.out (by decide) (by simpa using e.symm)))
              replace OM := hid (mown_kept OM.out P7.out tm1 tm2 hgr)
              replace OV := hid (OV.out.keptG hgr (fun v hv e => OV.out.ne_blk P7.out tm1 v hv (by simpa using e)))
              replace HQ := hid (HQ.out.grown hgr HQ.out.size (fun r e => by cases e; have := hszd.out; have := hsz0.out; have := hsz1.out; have := hsz2.out; have := hsz3.out; have := hsz4.out; omega))
              replace P7 := hid hbk
              clear hbk hgr
              refine hK.out _ _ ⟨(XPM.out.step HQ.out).cells3.1, (XPM.out.step HQ.out).cells3.2.1, (XPM.out.step HQ.out).cells3.2.2.1, (XPS.out.step HQ.out).cells6.1, (XPS.out.step HQ.out).cells6.2.1, (XPS.out.step HQ.out).cells6.2.2.1, (XPS.out.step HQ.out).cells6.2.2.2.1, (XPS.out.step HQ.out).cells6.2.2.2.2.1, (XPS.out.step HQ.out).cells6.2.2.2.2.2.1⟩ (fun hS' => ?_)
              clear hK K hS
              have hS := hS'
              clear hS'
              (try simp only [Act.put, List.setIfInBounds_toArray, List.set_cons_zero, List.set_cons_succ])
              refine wpAnyH_ready (rs := [10]) (by kernel_rfl) (by simp) ?_
              refine AllReadyH.cons (by simp only [List.getElem?_toArray, List.getElem?_cons_succ, List.getElem?_cons_zero]; rfl) (fun K hK => ?_) ?_
              · skip
                obtain ⟨y00, y01, y02, y03, y04, y05, yf0⟩ := P8.out.cells6
                go_simp
                clear y00 y01 y02 y03 y04 y05 yf0
                refine named_store_6_6_0 P8.out ?_
                intro Ws10 hbk hgr hsz
                have hsz5 := hid hsz
                clear hsz
                replace P7 := hid (P7.out.grown hgr (fun e => P7.out.ne P8.out (by decide) (by simpa using e)))
                replace OM := hid (mown_kept OM.out P8.out tq1 tq2 hgr)
                replace OV := hid (OV.out.keptG hgr (fun v hv e => OV.out.ne_blk P8.out tq1 v hv (by simpa using e)))
                replace HQ := hid (HQ.out.grown hgr HQ.out.size (fun r e => by cases e; have := hszd.out; have := hsz0.out; have := hsz1.out; have := hsz2.out; have := hsz3.out; have := hsz4.out; have := hsz5.out; omega))
                replace P8 := hid hbk
                clear hbk hgr
                refine hK.out _ _ ⟨(XPM.out.step HQ.out).cells3.1, (XPM.out.step HQ.out).cells3.2.1, (XPM.out.step HQ.out).cells3.2.2.1, (XPS.out.step HQ.out).cells6.1, (XPS.out.step HQ.out).cells6.2.1, (XPS.out.step HQ.out).cells6.2.2.1, (XPS.out.step HQ.out).cells6.2.2.2.1, (XPS.out.step HQ.out).cells6.2.2.2.2.1, (XPS.out.step HQ.out).cells6.2.2.2.2.2.1⟩ (fun hS' => ?_)
                clear hK K hS
                have hS := hS'
                clear hS'
                (try simp only [Act.put, List.setIfInBounds_toArray, List.set_cons_zero, List.set_cons_succ])
                refine wpAnyH_done (by kernel_rfl) ?_ _
                refine NoPanic.normal ?_
                clear hS
                go_wp2_with fail
                go_meet
                exact ⟨_, _, _, _, _, _, _, _, _, _, _, rfl, rfl, ⟨P7.out, P8.out, OM.out, OV.out, HFAR.out, HQ.out, by have := hszd.out; have := hsz0.out; have := hsz1.out; have := hsz2.out; have := hsz3.out; have := hsz4.out; have := hsz5.out; omega, by have := hszd.out; have := hsz0.out; have := hsz1.out; have := hsz2.out; have := hsz3.out; have := hsz4.out; have := hsz5.out; omega⟩⟩
              exact AllReadyH.nil
            exact AllReadyH.nil
          exact AllReadyH.nil
        refine AllReadyH.cons (by simp only [List.getElem?_toArray, List.getElem?_cons_succ, List.getElem?_cons_zero]; rfl) (fun K hK => ?_) ?_
        · skip
          go_simp
          refine named_alloc ?_
          intro Wa7 hbk hb hsz
          have hsz2 := hid hsz
          replace OM0 := hid (OM0.out.step hb); replace P8 := hid (P8.out.step hb); replace HQ := hid (below_then HQ.out hb)
          have P7 := hid hbk
          clear hb hbk hsz
          refine hK.out _ _ ⟨(XPM.out.step HQ.out).cells3.1, (XPM.out.step HQ.out).cells3.2.1, (XPM.out.step HQ.out).cells3.2.2.1, (XPS.out.step HQ.out).cells6.1, (XPS.out.step HQ.out).cells6.2.1, (XPS.out.step HQ.out).cells6.2.2.1, (XPS.out.step HQ.out).cells6.2.2.2.1, (XPS.out.step HQ.out).cells6.2.2.2.2.1, (XPS.out.step HQ.out).cells6.2.2.2.2.2.1⟩ (fun hS' => ?_)
          clear hK K hS
          have hS := hS'
          clear hS'
          (try simp only [Act.put, List.setIfInBounds_toArray, List.set_cons_zero, List.set_cons_succ])
          refine wpAnyH_ready (rs := [3]) (by kernel_rfl) (by simp) ?_
          refine AllReadyH.cons (by simp only [List.getElem?_toArray, List.getElem?_cons_succ, List.getElem?_cons_zero]; rfl) (fun K hK => ?_) ?_
          · skip
            go_simp
            refine (stepwrite_any A2 n2 c2 B2 k2 d2 m _ s V vn vc _ OM0.out (by have := hlo.out; have := hszd.out; have := hsz0.out; have := hsz1.out; have := hsz2.out; omega) (XV.out.step HQ.out) HG.out hvn HS.out).mono ?_
            rintro e ws3 ⟨A3, n3, c3, B3, k3, d3, V3, vn3, vc3, rfl, om, ov, hfar, hb⟩
            have hsz3 := hid (show Wa7.heap.size ≤ ws3.heap.size from hb.size)
            replace OM0 := hid (OM0.out.step hb); replace P8 := hid (P8.out.step hb); replace P7 := hid (P7.out.step hb); replace HQ := hid (below_then HQ.out hb)
            clear hb
            rw [← HR.out] at om ov ⊢
            dsimp only at om ov ⊢
            have OM := hid (om.mono hlo2.out); have OV := hid (ov.mono hlo2.out); have HFAR := hid hfar
            clear om ov hfar
            go_wp2_with fail
            refine hK.out _ _ ⟨(XPM.out.step HQ.out).cells3.1, (XPM.out.step HQ.out).cells3.2.1, (XPM.out.step HQ.out).cells3.2.2.1, (XPS.out.step HQ.out).cells6.1, (XPS.out.step HQ.out).cells6.2.1, (XPS.out.step HQ.out).cells6.2.2.1, (XPS.out.step HQ.out).cells6.2.2.2.1, (XPS.out.step HQ.out).cells6.2.2.2.2.1, (XPS.out.step HQ.out).cells6.2.2.2.2.2.1⟩ (fun hS' => ?_)
            clear hK K hS
            have hS := hS'
            clear hS'
            (try simp only [Act.put, List.setIfInBounds_toArray, List.set_cons_zero, List.set_cons_succ])
            refine wpAnyH_take (i := 4) (v := ?_) (by simp only [List.getElem?_toArray, List.getElem?_cons_succ, List.getElem?_cons_zero]; rfl) (by kernel_rfl) (by kernel_rfl) (by kernel_rfl) (fun _ _ _ h => h) (Or.inl ⟨by rfl, ?_⟩) hS ?_
            rotate_left
            · intro w' hSw; (try dsimp only at hSw); go_split_ands; go_simp; (try with_reducible rfl)
            (try simp only [Act.put, List.setIfInBounds_toArray, List.set_cons_zero, List.set_cons_succ])
            refine wpAnyH_take (i := 5) (v := ?_) (by simp only [List.getElem?_toArray, List.getElem?_cons_succ, List.getElem?_cons_zero]; rfl) (by kernel_rfl) (by kernel_rfl) (by kernel_rfl) (fun _ _ _ h => h) (Or.inl ⟨by rfl, ?_⟩) hS ?_
            rotate_left
            · intro w' hSw; (try dsimp only at hSw); go_split_ands; go_simp; (try with_reducible rfl)
            (try simp only [Act.put, List.setIfInBounds_toArray, List.set_cons_zero, List.set_cons_succ])
            refine wpAnyH_take (i := 6) (v := ?_) (by simp only [List.getElem?_toArray, List.getElem?_cons_succ, List.getElem?_cons_zero]; rfl) (by kernel_rfl) (by kernel_rfl) (by kernel_rfl) (fun _ _ _ h => h) (Or.inl ⟨by rfl, ?_⟩) hS ?_
            rotate_left
            · intro w' hSw; (try dsimp only at hSw); go_split_ands; go_simp; (try with_reducible rfl)
            (try simp only [Act.put, List.setIfInBounds_toArray, List.set_cons_zero, List.set_cons_succ])
            refine wpAnyH_ready (rs := [9]) (by kernel_rfl) (by simp) ?_
            refine AllReadyH.cons (by simp only [List.getElem?_toArray, List.getElem?_cons_succ, List.getElem?_cons_zero]; rfl) (fun K hK => ?_) ?_
            · skip
              obtain ⟨y00, y01, y02, yf0⟩ := P7.out.cells3
              go_simp
              clear y00 y01 y02 yf0
              refine named_store3 P7.out ?_
              intro Ws9 hbk hgr hsz
              have hsz4 := hid hsz
              clear hsz
              replace P8 := hid (P8.out.grown hgr (fun e => P7.out.ne P8.out (by decide) (by simpa using e.symm)))
              replace OM := hid (mown_kept OM.out P7.out tm1 tm2 hgr)
              replace OV := hid (OV.out.keptG hgr (fun v hv e => OV.out.ne_blk P7.out tm1 v hv (by simpa using e)))
              replace HQ := hid (HQ.out.grown hgr HQ.out.size (fun r e => by cases e; have := hszd.out; have := hsz0.out; have := hsz1.out; have := hsz2.out; have := hsz3.out; have := hsz4.out; omega))
              replace P7 := hid hbk
              clear hbk hgr
              refine hK.out _ _ ⟨(XPM.out.step HQ.out).cells3.1, (XPM.out.step HQ.out).cells3.2.1, (XPM.out.step HQ.out).cells3.2.2.1, (XPS.out.step HQ.out).cells6.1, (XPS.out.step HQ.out).cells6.2.1, (XPS.out.step HQ.out).cells6.2.2.1, (XPS.out.step HQ.out).cells6.2.2.2.1, (XPS.out.step HQ.out).cells6.2.2.2.2.1, (XPS.out.step HQ.out).cells6.2.2.2.2.2.1⟩ (fun hS' => ?_)
              clear hK K hS
              have hS := hS'
              clear hS'
              (try simp only [Act.put, List.setIfInBounds_toArray, List.set_cons_zero, List.set_cons_succ])
              refine wpAnyH_ready (rs := [10]) (by kernel_rfl) (by simp) ?_
              refine AllReadyH.cons (by simp only [List.getElem?_toArray, List.getElem?_cons_succ, List.getElem?_cons_zero]; rfl) (fun K hK => ?_) ?_
              · skip
                obtain ⟨y00, y01, y02, y03, y04, y05, yf0⟩ := P8.out.cells6
                go_simp
                clear y00 y01 y02 y03 y04 y05 yf0
                refine named_store_6_6_0 P8.out ?_
                intro Ws10 hbk hgr hsz
                have hsz5 := hid hsz
                clear hsz
                replace P7 := hid (P7.out.grown hgr (fun e => P7.out.ne P8.out (by decide) (by simpa using e)))
                replace OM := hid (mown_kept OM.out P8.out tq1 tq2 hgr)
                replace OV := hid (OV.out.keptG hgr (fun v hv e => OV.out.ne_blk P8.out tq1 v hv (by simpa using e)))
                replace HQ := hid (HQ.out.grown hgr HQ.out.size (fun r e => by cases e; have := hszd.out; have := hsz0.out; have := hsz1.out; have := hsz2.out; have := hsz3.out; have := hsz4.out; have := hsz5.out; omega))
                replace P8 := hid hbk
                clear hbk hgr
                refine hK.out _ _ ⟨(XPM.out.step HQ.out).cells3.1, (XPM.out.step HQ.out).cells3.2.1, (XPM.out.step HQ.out).cells3.2.2.1, (XPS.out.step HQ.out).cells6.1, (XPS.out.step HQ.out).cells6.2.1, (XPS.out.step HQ.out).cells6.2.2.1, (XPS.out.step HQ.out).cells6.2.2.2.1, (XPS.out.step HQ.out).cells6.2.2.2.2.1, (XPS.out.step HQ.out).cells6.2.2.2.2.2.1⟩ (fun hS' => ?_)
                clear hK K hS
                have hS := hS'
                clear hS'
                (try simp only [Act.put, List.setIfInBounds_toArray, List.set_cons_zero, List.set_cons_succ])
                refine wpAnyH_done (by kernel_rfl) ?_ _
                refine NoPanic.normal ?_
                clear hS
                go_wp2_with fail
                go_meet
                exact ⟨_, _, _, _, _, _, _, _, _, _, _, rfl, rfl, ⟨P7.out, P8.out, OM.out, OV.out, HFAR.out, HQ.out, by have := hszd.out; have := hsz0.out; have := hsz1.out; have := hsz2.out; have := hsz3.out; have := hsz4.out; have := hsz5.out; omega, by have := hszd.out; have := hsz0.out; have := hsz1.out; have := hsz2.out; have := hsz3.out; have := hsz4.out; have := hsz5.out; omega⟩⟩
              exact AllReadyH.nil
            exact AllReadyH.nil
          exact AllReadyH.nil
        exact AllReadyH.nil
      exact AllReadyH.nil
    refine AllReadyH.cons (by simp only [List.getElem?_toArray, List.getElem?_cons_succ, List.getElem?_cons_zero]; rfl) (fun K hK => ?_) ?_
    · skip
      go_simp
      refine named_alloc ?_
      intro Wa7 hbk hb hsz
      have hsz0 := hid hsz
      replace HQ := hid (below_then HQ.out hb)
      have P7 := hid hbk
      clear hb hbk hsz
      refine hK.out _ _ ⟨(XPM.out.step HQ.out).cells3.1, (XPM.out.step HQ.out).cells3.2.1, (XPM.out.step HQ.out).cells3.2.2.1, (XPS.out.step HQ.out).cells6.1, (XPS.out.step HQ.out).cells6.2.1, (XPS.out.step HQ.out).cells6.2.2.1, (XPS.out.step HQ.out).cells6.2.2.2.1, (XPS.out.step HQ.out).cells6.2.2.2.2.1, (XPS.out.step HQ.out).cells6.2.2.2.2.2.1⟩ (fun hS' => ?_)
      clear hK K hS
      have hS := hS'
      clear hS'
      (try simp only [Act.put, List.setIfInBounds_toArray, List.set_cons_zero, List.set_cons_succ])
      refine wpAnyH_ready (rs := [1, 8]) (by kernel_rfl) (by simp) ?_
      refine AllReadyH.cons (by simp only [List.getElem?_toArray, List.getElem?_cons_succ, List.getElem?_cons_zero]; rfl) (fun K hK => ?_) ?_
      · skip
        go_simp
        refine (ownmem_any A n c B k d m.2.2 m.1 m.2.1 _ (XM.out.step HQ.out)).mono ?_
        rintro e ws1 ⟨A2, n2, c2, B2, k2, d2, rfl, om, hb⟩
        have hsz1 := hid (show Wa7.heap.size ≤ ws1.heap.size from hb.size)
        replace P7 := hid (P7.out.step hb); replace HQ := hid (below_then HQ.out hb)
        clear hb
        have OM0 := hid om
        have hlo := hid (show Wa7.heap.size ≤ ws1.heap.size from hsz1.out)
        have hlo2 := hid (show w2.heap.size ≤ Wa7.heap.size by have := hszd.out; have := hsz0.out; omega)
        clear om
        go_wp2_with fail
        refine hK.out _ _ ⟨(XPM.out.step HQ.out).cells3.1, (XPM.out.step HQ.out).cells3.2.1, (XPM.out.step HQ.out).cells3.2.2.1, (XPS.out.step HQ.out).cells6.1, (XPS.out.step HQ.out).cells6.2.1, (XPS.out.step HQ.out).cells6.2.2.1, (XPS.out.step HQ.out).cells6.2.2.2.1, (XPS.out.step HQ.out).cells6.2.2.2.2.1, (XPS.out.step HQ.out).cells6.2.2.2.2.2.1⟩ (fun hS' => ?_)
        clear hK K hS
        have hS := hS'
        clear hS'
        (try simp only [Act.put, List.setIfInBounds_toArray, List.set_cons_zero, List.set_cons_succ])
        refine wpAnyH_ready (rs := [3, 8]) (by kernel_rfl) (by simp) ?_
        refine AllReadyH.cons (by simp only [List.getElem?_toArray, List.getElem?_cons_succ, List.getElem?_cons_zero]; rfl) (fun K hK => ?_) ?_
        · skip
          go_simp
          refine (stepwrite_any A2 n2 c2 B2 k2 d2 m _ s V vn vc _ OM0.out (by have := hlo.out; have := hszd.out; have := hsz0.out; have := hsz1.out; omega) (XV.out.step HQ.out) HG.out hvn HS.out).mono ?_
          rintro e ws3 ⟨A3, n3, c3, B3, k3, d3, V3, vn3, vc3, rfl, om, ov, hfar, hb⟩
          have hsz2 := hid (show ws1.heap.size ≤ ws3.heap.size from hb.size)
          replace P7 := hid (P7.out.step hb); replace OM0 := hid (OM0.out.step hb); replace HQ := hid (below_then HQ.out hb)
          clear hb
          rw [← HR.out] at om ov ⊢
          dsimp only at om ov ⊢
          have OM := hid (om.mono hlo2.out); have OV := hid (ov.mono hlo2.out); have HFAR := hid hfar
          clear om ov hfar
          go_wp2_with fail
          refine hK.out _ _ ⟨(XPM.out.step HQ.out).cells3.1, (XPM.out.step HQ.out).cells3.2.1, (XPM.out.step HQ.out).cells3.2.2.1, (XPS.out.step HQ.out).cells6.1, (XPS.out.step HQ.out).cells6.2.1, (XPS.out.step HQ.out).cells6.2.2.1, (XPS.out.step HQ.out).cells6.2.2.2.1, (XPS.out.step HQ.out).cells6.2.2.2.2.1, (XPS.out.step HQ.out).cells6.2.2.2.2.2.1⟩ (fun hS' => ?_)
          clear hK K hS
          have hS := hS'
          clear hS'
          (try simp only [Act.put, List.setIfInBounds_toArray, List.set_cons_zero, List.set_cons_succ])
          refine wpAnyH_take (i := 4) (v := ?_) (by simp only [List.getElem?_toArray, List.getElem?_cons_succ, List.getElem?_cons_zero]; rfl) (by kernel_rfl) (by kernel_rfl) (by kernel_rfl) (fun _ _ _ h => h) (Or.inl ⟨by rfl, ?_⟩) hS ?_
          rotate_left
          · intro w' hSw; (try dsimp only at hSw); go_split_ands; go_simp; (try with_reducible rfl)
          (try simp only [Act.put, List.setIfInBounds_toArray, List.set_cons_zero, List.set_cons_succ])
          refine wpAnyH_take (i := 5) (v := ?_) (by simp only [List.getElem?_toArray, List.getElem?_cons_succ, List.getElem?_cons_zero]; rfl) (by kernel_rfl) (by kernel_rfl) (by kernel_rfl) (fun _ _ _ h => h) (Or.inl ⟨by rfl, ?_⟩) hS ?_
          rotate_left
          · intro w' hSw; (try dsimp only at hSw); go_split_ands; go_simp; (try with_reducible rfl)
          (try simp only [Act.put, List.setIfInBounds_toArray, List.set_cons_zero, List.set_cons_succ])
          refine wpAnyH_take (i := 6) (v := ?_) (by simp only [List.getElem?_toArray, List.getElem?_cons_succ, List.getElem?_cons_zero]; rfl) (by kernel_rfl) (by kernel_rfl) (by kernel_rfl) (fun _ _ _ h => h) (Or.inl ⟨by rfl, ?_⟩) hS ?_
          rotate_left
          · intro w' hSw; (try dsimp only at hSw); go_split_ands; go_simp; (try with_reducible rfl)
          (try simp only [Act.put, List.setIfInBounds_toArray, List.set_cons_zero, List.set_cons_succ])
          refine wpAnyH_ready (rs := [8]) (by kernel_rfl) (by simp) ?_
          refine AllReadyH.cons (by simp only [List.getElem?_toArray, List.getElem?_cons_succ, List.getElem?_cons_zero]; rfl) (fun K hK => ?_) ?_
          · skip
            go_simp
            refine named_alloc ?_
            intro Wa8 hbk hb hsz
            have hsz3 := hid hsz
            replace P7 := hid (P7.out.step hb); replace OM0 := hid (OM0.out.step hb); replace OM := hid (OM.out.step hb); replace OV := hid (OV.out.step hb); replace HQ := hid (below_then HQ.out hb)
            have P8 := hid hbk
            clear hb hbk hsz
            refine hK.out _ _ ⟨(XPM.out.step HQ.out).cells3.1, (XPM.out.step HQ.out).cells3.2.1, (XPM.out.step HQ.out).cells3.2.2.1, (XPS.out.step HQ.out).cells6.1, (XPS.out.step HQ.out).cells6.2.1, (XPS.out.step HQ.out).cells6.2.2.1, (XPS.out.step HQ.out).cells6.2.2.2.1, (XPS.out.step HQ.out).cells6.2.2.2.2.1, (XPS.out.step HQ.out).cells6.2.2.2.2.2.1⟩ (fun hS' => ?_)
            clear hK K hS
            have hS := hS'
            clear hS'
            (try simp only [Act.put, List.setIfInBounds_toArray, List.set_cons_zero, List.set_cons_succ])
            refine wpAnyH_ready (rs := [9]) (by kernel_rfl) (by simp) ?_
            refine AllReadyH.cons (by simp only [List.getElem?_toArray, List.getElem?_cons_succ, List.getElem?_cons_zero]; rfl) (fun K hK => ?_) ?_
            · skip
              obtain ⟨y00, y01, y02, yf0⟩ := P7.out.cells3
              go_simp
              clear y00 y01 y02 yf0
              refine named_store3 P7.out ?_
              intro Ws9 hbk hgr hsz
              have hsz4 := hid hsz
              clear hsz
              replace P8 := hid (P8.out.grown hgr (fun e => P7.out.ne P8.out (by decide) (by simpa using e.symm)))
              replace OM := hid (mown_kept OM.out P7.out tm1 tm2 hgr)
              replace OV := hid (OV.out.keptG hgr (fun v hv e => OV.out.ne_blk P7.out tm1 v hv (by simpa using e)))
              replace HQ := hid (HQ.out.grown hgr HQ.out.size (fun r e => by cases e; have := hszd.out; have := hsz0.out; have := hsz1.out; have := hsz2.out; have := hsz3.out; have := hsz4.out; omega))
              replace P7 := hid hbk
              clear hbk hgr
              refine hK.out _ _ ⟨(XPM.out.step HQ.out).cells3.1, (XPM.out.step HQ.out).cells3.2.1, (XPM.out.step HQ.out).cells3.2.2.1, (XPS.out.step HQ.out).cells6.1, (XPS.out.step HQ.out).cells6.2.1, (XPS.out.step HQ.out).cells6.2.2.1, (XPS.out.step HQ.out).cells6.2.2.2.1, (XPS.out.step HQ.out).cells6.2.2.2.2.1, (XPS.out.step HQ.out).cells6.2.2.2.2.2.1⟩ (fun hS' => ?_)
              clear hK K hS
              have hS := hS'
              clear hS'
              (try simp only [Act.put, List.setIfInBounds_toArray, List.set_cons_zero, List.set_cons_succ])
              refine wpAnyH_ready (rs := [10]) (by kernel_rfl) (by simp) ?_
              refine AllReadyH.cons (by simp only [List.getElem?_toArray, List.getElem?_cons_succ, List.getElem?_cons_zero]; rfl) (fun K hK => ?_) ?_
              · skip
                obtain ⟨y00, y01, y02, y03, y04, y05, yf0⟩ := P8.out.cells6
                go_simp
                clear y00 y01 y02 y03 y04 y05 yf0
                refine named_store_6_6_0 P8.out ?_
                intro Ws10 hbk hgr hsz
                have hsz5 := hid hsz
                clear hsz
                replace P7 := hid (P7.out.grown hgr (fun e => P7.out.ne P8.out (by decide) (by simpa using e)))
                replace OM := hid (mown_kept OM.out P8.out tq1 tq2 hgr)
                replace OV := hid (OV.out.keptG hgr (fun v hv e => OV.out.ne_blk P8.out tq1 v hv (by simpa using e)))
                replace HQ := hid (HQ.out.grown hgr HQ.out.size (fun r e => by cases e; have := hszd.out; have := hsz0.out; have := hsz1.out; have := hsz2.out; have := hsz3.out; have := hsz4.out; have := hsz5.out; omega))
                replace P8 := hid hbk
                clear hbk hgr
                refine hK.out _ _ ⟨(XPM.out.step HQ.out).cells3.1, (XPM.out.step HQ.out).cells3.2.1, (XPM.out.step HQ.out).cells3.2.2.1, (XPS.out.step HQ.out).cells6.1, (XPS.out.step HQ.out).cells6.2.1, (XPS.out.step HQ.out).cells6.2.2.1, (XPS.out.step HQ.out).cells6.2.2.2.1, (XPS.out.step HQ.out).cells6.2.2.2.2.1, (XPS.out.step HQ.out).cells6.2.2.2.2.2.1⟩ (fun hS' => ?_)
                clear hK K hS
                have hS := hS'
                clear hS'
                (try simp only [Act.put, List.setIfInBounds_toArray, List.set_cons_zero, List.set_cons_succ])
                refine wpAnyH_done (by kernel_rfl) ?_ _
                refine NoPanic.normal ?_
                clear hS
                go_wp2_with fail
                go_meet
                exact ⟨_, _, _, _, _, _, _, _, _, _, _, rfl, rfl, ⟨P7.out, P8.out, OM.out, OV.out, HFAR.out, HQ.out, by have := hszd.out; have := hsz0.out; have := hsz1.out; have := hsz2.out; have := hsz3.out; have := hsz4.out; have := hsz5.out; omega, by have := hszd.out; have := hsz0.out; have := hsz1.out; have := hsz2.out; have := hsz3.out; have := hsz4.out; have := hsz5.out; omega⟩⟩
              exact AllReadyH.nil
            exact AllReadyH.nil
          exact AllReadyH.nil
        refine AllReadyH.cons (by simp only [List.getElem?_toArray, List.getElem?_cons_succ, List.getElem?_cons_zero]; rfl) (fun K hK => ?_) ?_
        · skip
          go_simp
          refine named_alloc ?_
          intro Wa8 hbk hb hsz
          have hsz2 := hid hsz
          replace P7 := hid (P7.out.step hb); replace OM0 := hid (OM0.out.step hb); replace HQ := hid (below_then HQ.out hb)
          have P8 := hid hbk
          clear hb hbk hsz
          refine hK.out _ _ ⟨(XPM.out.step HQ.out).cells3.1, (XPM.out.step HQ.out).cells3.2.1, (XPM.out.step HQ.out).cells3.2.2.1, (XPS.out.step HQ.out).cells6.1, (XPS.out.step HQ.out).cells6.2.1, (XPS.out.step HQ.out).cells6.2.2.1, (XPS.out.step HQ.out).cells6.2.2.2.1, (XPS.out.step HQ.out).cells6.2.2.2.2.1, (XPS.out.step HQ.out).cells6.2.2.2.2.2.1⟩ (fun hS' => ?_)
          clear hK K hS
          have hS := hS'
          clear hS'
          (try simp only [Act.put, List.setIfInBounds_toArray, List.set_cons_zero, List.set_cons_succ])
          refine wpAnyH_ready (rs := [3]) (by kernel_rfl) (by simp) ?_
          refine AllReadyH.cons (by simp only [List.getElem?_toArray, List.getElem?_cons_succ, List.getElem?_cons_zero]; rfl) (fun K hK => ?_) ?_
          · skip
            go_simp
            refine (stepwrite_any A2 n2 c2 B2 k2 d2 m _ s V vn vc _ OM0.out (by have := hlo.out; have := hszd.out; have := hsz0.out; have := hsz1.out; have := hsz2.out; omega) (XV.out.step HQ.out) HG.out hvn HS.out).mono ?_
            rintro e ws3 ⟨A3, n3, c3, B3, k3, d3, V3, vn3, vc3, rfl, om, ov, hfar, hb⟩
            have hsz3 := hid (show Wa8.heap.size ≤ ws3.heap.size from hb.size)
            replace P7 := hid (P7.out.step hb); replace OM0 := hid (OM0.out.step hb); replace P8 := hid (P8.out.step hb); replace HQ := hid (below_then HQ.out hb)
            clear hb
            rw [← HR.out] at om ov ⊢
            dsimp only at om ov ⊢
            have OM := hid (om.mono hlo2.out); have OV := hid (ov.mono hlo2.out); have HFAR := hid hfar
            clear om ov hfar
            go_wp2_with fail
            refine hK.out _ _ ⟨(XPM.out.step HQ.out).cells3.1, (XPM.out.step HQ.out).cells3.2.1, (XPM.out.step HQ.out).cells3.2.2.1, (XPS.out.step HQ.out).cells6.1, (XPS.out.step HQ.out).cells6.2.1, (XPS.out.step HQ.out).cells6.2.2.1, (XPS.out.step HQ.out).cells6.2.2.2.1, (XPS.out.step HQ.out).cells6.2.2.2.2.1, (XPS.out.step HQ.out).cells6.2.2.2.2.2.1⟩ (fun hS' => ?_)
            clear hK K hS
            have hS := hS'
            clear hS'
            (try simp only [Act.put, List.setIfInBounds_toArray, List.set_cons_zero, List.set_cons_succ])
            refine wpAnyH_take (i := 4) (v := ?_) (by simp only [List.getElem?_toArray, List.getElem?_cons_succ, List.getElem?_cons_zero]; rfl) (by kernel_rfl) (by kernel_rfl) (by kernel_rfl) (fun _ _ _ h => h) (Or.inl ⟨by rfl, ?_⟩) hS ?_
            rotate_left
            · intro w' hSw; (try dsimp only at hSw); go_split_ands; go_simp; (try with_reducible rfl)
            (try simp only [Act.put, List.setIfInBounds_toArray, List.set_cons_zero, List.set_cons_succ])
            refine wpAnyH_take (i := 5) (v := ?_) (by simp only [List.getElem?_toArray, List.getElem?_cons_succ, List.getElem?_cons_zero]; rfl) (by kernel_rfl) (by kernel_rfl) (by kernel_rfl) (fun _ _ _ h => h) (Or.inl ⟨by rfl, ?_⟩) hS ?_
            rotate_left
            · intro w' hSw; (try dsimp only at hSw); go_split_ands; go_simp; (try with_reducible rfl)
            (try simp only [Act.put, List.setIfInBounds_toArray, List.set_cons_zero, List.set_cons_succ])
            refine wpAnyH_take (i := 6) (v := ?_) (by simp only [List.getElem?_toArray, List.getElem?_cons_succ, List.getElem?_cons_zero]; rfl) (by kernel_rfl) (by kernel_rfl) (by kernel_rfl) (fun _ _ _ h => h) (Or.inl ⟨by rfl, ?_⟩) hS ?_
            rotate_left
            · intro w' hSw; (try dsimp only at hSw); go_split_ands; go_simp; (try with_reducible rfl)
            (try simp only [Act.put, List.setIfInBounds_toArray, List.set_cons_zero, List.set_cons_succ])
            refine wpAnyH_ready (rs := [9]) (by kernel_rfl) (by simp) ?_
            refine AllReadyH.cons (by simp only [List.getElem?_toArray, List.getElem?_cons_succ, List.getElem?_cons_zero]; rfl) (fun K hK => ?_) ?_
            · skip
              obtain ⟨y00, y01, y02, yf0⟩ := P7.out.cells3
              go_simp
              clear y00 y01 y02 yf0
              refine named_store3 P7.out ?_
              intro Ws9 hbk hgr hsz
              have hsz4 := hid hsz
              clear hsz
              replace P8 := hid (P8.out.grown hgr (fun e => P7.out.ne P8.out (by decide) (by simpa using e.symm)))
              replace OM := hid (mown_kept OM.out P7.out tm1 tm2 hgr)
              replace OV := hid (OV.out.keptG hgr (fun v hv e => OV.out.ne_blk P7.out tm1 v hv (by simpa using e)))
              replace HQ := hid (HQ.out.grown hgr HQ.out.size (fun r e => by cases e; have := hszd.out; have := hsz0.out; have := hsz1.out; have := hsz2.out; have := hsz3.out; have := hsz4.out; omega))
              replace P7 := hid hbk
              clear hbk hgr
              refine hK.out _ _ ⟨(XPM.out.step HQ.out).cells3.1, (XPM.out.step HQ.out).cells3.2.1, (XPM.out.step HQ.out).cells3.2.2.1, (XPS.out.step HQ.out).cells6.1, (XPS.out.step HQ.out).cells6.2.1, (XPS.out.step HQ.out).cells6.2.2.1, (XPS.out.step HQ.out).cells6.2.2.2.1, (XPS.out.step HQ.out).cells6.2.2.2.2.1, (XPS.out.step HQ.out).cells6.2.2.2.2.2.1⟩ (fun hS' => ?_)
              clear hK K hS
              have hS := hS'
              clear hS'
              (try simp only [Act.put, List.setIfInBounds_toArray, List.set_cons_zero, List.set_cons_succ])
              refine wpAnyH_ready (rs := [10]) (by kernel_rfl) (by simp) ?_
              refine AllReadyH.cons (by simp only [List.getElem?_toArray, List.getElem?_cons_succ, List.getElem?_cons_zero]; rfl) (fun K hK => ?_) ?_
              · skip
                obtain ⟨y00, y01, y02, y03, y04, y05, yf0⟩ := P8.out.cells6
                go_simp
                clear y00 y01 y02 y03 y04 y05 yf0
                refine named_store_6_6_0 P8.out ?_
                intro Ws10 hbk hgr hsz
                have hsz5 := hid hsz
                clear hsz
                replace P7 := hid (P7.out.grown hgr (fun e => P7.out.ne P8.out (by decide) (by simpa using e)))
                replace OM := hid (mown_kept OM.out P8.out tq1 tq2 hgr)
                replace OV := hid (OV.out.keptG hgr (fun v hv e => OV.out.ne_blk P8.out tq1 v hv (by simpa using e)))
                replace HQ := hid (HQ.out.grown hgr HQ.out.size (fun r e => by cases e; have := hszd.out; have := hsz0.out; have := hsz1.out; have := hsz2.out; have := hsz3.out; have := hsz4.out; have := hsz5.out; omega))
                replace P8 := hid hbk
                clear hbk hgr
                refine hK.out _ _ ⟨(XPM.out.step HQ.out).cells3.1, (XPM.out.step HQ.out).cells3.2.1, (XPM.out.step HQ.out).cells3.2.2.1, (XPS.out.step HQ.out).cells6.1, (XPS.out.step HQ.out).cells6.2.1, (XPS.out.step HQ.out).cells6.2.2.1, (XPS.out.step HQ.out).cells6.2.2.2.1, (XPS.out.step HQ.out).cells6.2.2.2.2.1, (XPS.out.step HQ.out).cells6.2.2.2.2.2.1⟩ (fun hS' => ?_)
                clear hK K hS
                have hS := hS'
                clear hS'
                (try simp only [Act.put, List.setIfInBounds_toArray, List.set_cons_zero, List.set_cons_succ])
                refine wpAnyH_done (by kernel_rfl) ?_ _
                refine NoPanic.normal ?_
                clear hS
                go_wp2_with fail
                go_meet
                exact ⟨_, _, _, _, _, _, _, _, _, _, _, rfl, rfl, ⟨P7.out, P8.out, OM.out, OV.out, HFAR.out, HQ.out, by have := hszd.out; have := hsz0.out; have := hsz1.out; have := hsz2.out; have := hsz3.out; have := hsz4.out; have := hsz5.out; omega, by have := hszd.out; have := hsz0.out; have := hsz1.out; have := hsz2.out; have := hsz3.out; have := hsz4.out; have := hsz5.out; omega⟩⟩
              exact AllReadyH.nil
            exact AllReadyH.nil
          exact AllReadyH.nil
        exact AllReadyH.nil
      refine AllReadyH.cons (by simp only [List.getElem?_toArray, List.getElem?_cons_succ, List.getElem?_cons_zero]; rfl) (fun K hK => ?_) ?_
      · skip
        go_simp
        refine named_alloc ?_
        intro Wa8 hbk hb hsz
        have hsz1 := hid hsz
        replace P7 := hid (P7.out.step hb); replace HQ := hid (below_then HQ.out hb)
        have P8 := hid hbk
        clear hb hbk hsz
        refine hK.out _ _ ⟨(XPM.out.step HQ.out).cells3.1, (XPM.out.step HQ.out).cells3.2.1, (XPM.out.step HQ.out).cells3.2.2.1, (XPS.out.step HQ.out).cells6.1, (XPS.out.step HQ.out).cells6.2.1, (XPS.out.step HQ.out).cells6.2.2.1, (XPS.out.step HQ.out).cells6.2.2.2.1, (XPS.out.step HQ.out).cells6.2.2.2.2.1, (XPS.out.step HQ.out).cells6.2.2.2.2.2.1⟩ (fun hS' => ?_)
        clear hK K hS
        have hS := hS'
        clear hS'
        (try simp only [Act.put, List.setIfInBounds_toArray, List.set_cons_zero, List.set_cons_succ])
        refine wpAnyH_ready (rs := [1]) (by kernel_rfl) (by simp) ?_
        refine AllReadyH.cons (by simp only [List.getElem?_toArray, List.getElem?_cons_succ, List.getElem?_cons_zero]; rfl) (fun K hK => ?_) ?_
        · skip
          go_simp
          refine (ownmem_any A n c B k d m.2.2 m.1 m.2.1 _ (XM.out.step HQ.out)).mono ?_
          rintro e ws1 ⟨A2, n2, c2, B2, k2, d2, rfl, om, hb⟩
          have hsz2 := hid (show Wa8.heap.size ≤ ws1.heap.size from hb.size)
          replace P7 := hid (P7.out.step hb); replace P8 := hid (P8.out.step hb); replace HQ := hid (below_then HQ.out hb)
          clear hb
          have OM0 := hid om
          have hlo := hid (show Wa8.heap.size ≤ ws1.heap.size from hsz2.out)
          have hlo2 := hid (show w2.heap.size ≤ Wa8.heap.size by have := hszd.out; have := hsz0.out; have := hsz1.out; omega)
          clear om
          go_wp2_with fail
          refine hK.out _ _ ⟨(XPM.out.step HQ.out).cells3.1, (XPM.out.step HQ.out).cells3.2.1, (XPM.out.step HQ.out).cells3.2.2.1, (XPS.out.step HQ.out).cells6.1, (XPS.out.step HQ.out).cells6.2.1, (XPS.out.step HQ.out).cells6.2.2.1, (XPS.out.step HQ.out).cells6.2.2.2.1, (XPS.out.step HQ.out).cells6.2.2.2.2.1, (XPS.out.step HQ.out).cells6.2.2.2.2.2.1⟩ (fun hS' => ?_)
          clear hK K hS
          have hS := hS'
          clear hS'
          (try simp only [Act.put, List.setIfInBounds_toArray, List.set_cons_zero, List.set_cons_succ])
          refine wpAnyH_ready (rs := [3]) (by kernel_rfl) (by simp) ?_
          refine AllReadyH.cons (by simp only [List.getElem?_toArray, List.getElem?_cons_succ, List.getElem?_cons_zero]; rfl) (fun K hK => ?_) ?_
          · skip
            go_simp
            refine (stepwrite_any A2 n2 c2 B2 k2 d2 m _ s V vn vc _ OM0.out (by have := hlo.out; have := hszd.out; have := hsz0.out; have := hsz1.out; have := hsz2.out; omega) (XV.out.step HQ.out) HG.out hvn HS.out).mono ?_
            rintro e ws3 ⟨A3, n3, c3, B3, k3, d3, V3, vn3, vc3, rfl, om, ov, hfar, hb⟩
            have hsz3 := hid (show ws1.heap.size ≤ ws3.heap.size from hb.size)
            replace P7 := hid (P7.out.step hb); replace P8 := hid (P8.out.step hb); replace OM0 := hid (OM0.out.step hb); replace HQ := hid (below_then HQ.out hb)
            clear hb
            rw [← HR.out] at om ov ⊢
            dsimp only at om ov ⊢
            have OM := hid (om.mono hlo2.out); have OV := hid (ov.mono hlo2.out); have HFAR := hid hfar
            clear om ov hfar
            go_wp2_with fail
            refine hK.out _ _ ⟨(XPM.out.step HQ.out).cells3.1, (XPM.out.step HQ.out).cells3.2.1, (XPM.out.step HQ.out).cells3.2.2.1, (XPS.out.step HQ.out).cells6.1, (XPS.out.step HQ.out).cells6.2.1, (XPS.out.step HQ.out).cells6.2.2.1, (XPS.out.step HQ.out).cells6.2.2.2.1, (XPS.out.step HQ.out).cells6.2.2.2.2.1, (XPS.out.step HQ.out).cells6.2.2.2.2.2.1⟩ (fun hS' => ?_)
            clear hK K hS
            have hS := hS'
            clear hS'
            (try simp only [Act.put, List.setIfInBounds_toArray, List.set_cons_zero, List.set_cons_succ])
            refine wpAnyH_take (i := 4) (v := ?_) (by simp only [List.getElem?_toArray, List.getElem?_cons_succ, List.getElem?_cons_zero]; rfl) (by kernel_rfl) (by kernel_rfl) (by kernel_rfl) (fun _ _ _ h => h) (Or.inl ⟨by rfl, ?_⟩) hS ?_
            rotate_left
            · intro w' hSw; (try dsimp only at hSw); go_split_ands; go_simp; (try with_reducible rfl)
            (try simp only [Act.put, List.setIfInBounds_toArray, List.set_cons_zero, List.set_cons_succ])
            refine wpAnyH_take (i := 5) (v := ?_) (by simp only [List.getElem?_toArray, List.getElem?_cons_succ, List.getElem?_cons_zero]; rfl) (by kernel_rfl) (by kernel_rfl) (by kernel_rfl) (fun _ _ _ h => h) (Or.inl ⟨by rfl, ?_⟩) hS ?_
            rotate_left
            · intro w' hSw; (try dsimp only at hSw); go_split_ands; go_simp; (try with_reducible rfl)
            (try simp only [Act.put, List.setIfInBounds_toArray, List.set_cons_zero, List.set_cons_succ])
            refine wpAnyH_take (i := 6) (v := ?_) (by simp only [List.getElem?_toArray, List.getElem?_cons_succ, List.getElem?_cons_zero]; rfl) (by kernel_rfl) (by kernel_rfl) (by kernel_rfl) (fun _ _ _ h => h) (Or.inl ⟨by rfl, ?_⟩) hS ?_
            rotate_left
            · intro w' hSw; (try dsimp only at hSw); go_split_ands; go_simp; (try with_reducible rfl)
            (try simp only [Act.put, List.setIfInBounds_toArray, List.set_cons_zero, List.set_cons_succ])
            refine wpAnyH_ready (rs := [9]) (by kernel_rfl) (by simp) ?_
            refine AllReadyH.cons (by simp only [List.getElem?_toArray, List.getElem?_cons_succ, List.getElem?_cons_zero]; rfl) (fun K hK => ?_) ?_
            · skip
              obtain ⟨y00, y01, y02, yf0⟩ := P7.out.cells3
              go_simp
              clear y00 y01 y02 yf0
              refine named_store3 P7.out ?_
              intro Ws9 hbk hgr hsz
              have hsz4 := hid hsz
              clear hsz
              replace P8 := hid (P8.out.grown hgr (fun e => P7.out.ne P8.out (by decide) (by simpa using e.symm)))
              replace OM := hid (mown_kept OM.out P7.out tm1 tm2 hgr)
              replace OV := hid (OV.out.keptG hgr (fun v hv e => OV.out.ne_blk P7.out tm1 v hv (by simpa using e)))
              replace HQ := hid (HQ.out.grown hgr HQ.out.size (fun r e => by cases e; have := hszd.out; have := hsz0.out; have := hsz1.out; have := hsz2.out; have := hsz3.out; have := hsz4.out; omega))
              replace P7 := hid hbk
              clear hbk hgr
              refine hK.out _ _ ⟨(XPM.out.step HQ.out).cells3.1, (XPM.out.step HQ.out).cells3.2.1, (XPM.out.step HQ.out).cells3.2.2.1, (XPS.out.step HQ.out).cells6.1, (XPS.out.step HQ.out).cells6.2.1, (XPS.out.step HQ.out).cells6.2.2.1, (XPS.out.step HQ.out).cells6.2.2.2.1, (XPS.out.step HQ.out).cells6.2.2.2.2.1, (XPS.out.step HQ.out).cells6.2.2.2.2.2.1⟩ (fun hS' => ?_)
              clear hK K hS
              have hS := hS'
              clear hS'
              (try simp only [Act.put, List.setIfInBounds_toArray, List.set_cons_zero, List.set_cons_succ])
              refine wpAnyH_ready (rs := [10]) (by kernel_rfl) (by simp) ?_
              refine AllReadyH.cons (by simp only [List.getElem?_toArray, List.getElem?_cons_succ, List.getElem?_cons_zero]; rfl) (fun K hK => ?_) ?_
              · skip
                obtain ⟨y00, y01, y02, y03, y04, y05, yf0⟩ := P8.out.cells6
                go_simp
                clear y00 y01 y02 y03 y04 y05 yf0
                refine named_store_6_6_0 P8.out ?_
                intro Ws10 hbk hgr hsz
                have hsz5 := hid hsz
                clear hsz
                replace P7 := hid (P7.out.grown hgr (fun e => P7.out.ne P8.out (by decide) (by simpa using e)))
                replace OM := hid (mown_kept OM.out P8.out tq1 tq2 hgr)
                replace OV := hid (OV.out.keptG hgr (fun v hv e => OV.out.ne_blk P8.out tq1 v hv (by simpa using e)))
                replace HQ := hid (HQ.out.grown hgr HQ.out.size (fun r e => by cases e; have := hszd.out; have := hsz0.out; have := hsz1.out; have := hsz2.out; have := hsz3.out; have := hsz4.out; have := hsz5.out; omega))
                replace P8 := hid hbk
                clear hbk hgr
                refine hK.out _ _ ⟨(XPM.out.step HQ.out).cells3.1, (XPM.out.step HQ.out).cells3.2.1, (XPM.out.step HQ.out).cells3.2.2.1, (XPS.out.step HQ.out).cells6.1, (XPS.out.step HQ.out).cells6.2.1, (XPS.out.step HQ.out).cells6.2.2.1, (XPS.out.step HQ.out).cells6.2.2.2.1, (XPS.out.step HQ.out).cells6.2.2.2.2.1, (XPS.out.step HQ.out).cells6.2.2.2.2.2.1⟩ (fun hS' => ?_)
                clear hK K hS
                have hS := hS'
                clear hS'
                (try simp only [Act.put, List.setIfInBounds_toArray, List.set_cons_zero, List.set_cons_succ])
                refine wpAnyH_done (by kernel_rfl) ?_ _
                refine NoPanic.normal ?_
                clear hS
                go_wp2_with fail
                go_meet
                exact ⟨_, _, _, _, _, _, _, _, _, _, _, rfl, rfl, ⟨P7.out, P8.out, OM.out, OV.out, HFAR.out, HQ.out, by have := hszd.out; have := hsz0.out; have := hsz1.out; have := hsz2.out; have := hsz3.out; have := hsz4.out; have := hsz5.out; omega, by have := hszd.out; have := hsz0.out; have := hsz1.out; have := hsz2.out; have := hsz3.out; have := hsz4.out; have := hsz5.out; omega⟩⟩
              exact AllReadyH.nil
            exact AllReadyH.nil
          exact AllReadyH.nil
        exact AllReadyH.nil
      exact AllReadyH.nil
    refine AllReadyH.cons (by simp only [List.getElem?_toArray, List.getElem?_cons_succ, List.getElem?_cons_zero]; rfl) (fun K hK => ?_) ?_
    · skip
      go_simp
      refine named_alloc ?_
      intro Wa8 hbk hb hsz
      have hsz0 := hid hsz
      replace HQ := hid (below_then HQ.out hb)
      have P8 := hid hbk
      clear hb hbk hsz
      refine hK.out _ _ ⟨(XPM.out.step HQ.out).cells3.1, (XPM.out.step HQ.out).cells3.2.1, (XPM.out.step HQ.out).cells3.2.2.1, (XPS.out.step HQ.out).cells6.1, (XPS.out.step HQ.out).cells6.2.1, (XPS.out.step HQ.out).cells6.2.2.1, (XPS.out.step HQ.out).cells6.2.2.2.1, (XPS.out.step HQ.out).cells6.2.2.2.2.1, (XPS.out.step HQ.out).cells6.2.2.2.2.2.1⟩ (fun hS' => ?_)
      clear hK K hS
      have hS := hS'
      clear hS'
      (try simp only [Act.put, List.setIfInBounds_toArray, List.set_cons_zero, List.set_cons_succ])
      refine wpAnyH_ready (rs := [1, 7]) (by kernel_rfl) (by simp) ?_
      refine AllReadyH.cons (by simp only [List.getElem?_toArray, List.getElem?_cons_succ, List.getElem?_cons_zero]; rfl) (fun K hK => ?_) ?_
      · skip
        go_simp
        refine (ownmem_any A n c B k d m.2.2 m.1 m.2.1 _ (XM.out.step HQ.out)).mono ?_
        rintro e ws1 ⟨A2, n2, c2, B2, k2, d2, rfl, om, hb⟩
        have hsz1 := hid (show Wa8.heap.size ≤ ws1.heap.size from hb.size)
        replace P8 := hid (P8.out.step hb); replace HQ := hid (below_then HQ.out hb)
        clear hb
        have OM0 := hid om
        have hlo := hid (show Wa8.heap.size ≤ ws1.heap.size from hsz1.out)
        have hlo2 := hid (show w2.heap.size ≤ Wa8.heap.size by have := hszd.out; have := hsz0.out; omega)
        clear om
        go_wp2_with fail
        refine hK.out _ _ ⟨(XPM.out.step HQ.out).cells3.1, (XPM.out.step HQ.out).cells3.2.1, (XPM.out.step HQ.out).cells3.2.2.1, (XPS.out.step HQ.out).cells6.1, (XPS.out.step HQ.out).cells6.2.1, (XPS.out.step HQ.out).cells6.2.2.1, (XPS.out.step HQ.out).cells6.2.2.2.1, (XPS.out.step HQ.out).cells6.2.2.2.2.1, (XPS.out.step HQ.out).cells6.2.2.2.2.2.1⟩ (fun hS' => ?_)
        clear hK K hS
        have hS := hS'
        clear hS'
        (try simp only [Act.put, List.setIfInBounds_toArray, List.set_cons_zero, List.set_cons_succ])
        refine wpAnyH_ready (rs := [3, 7]) (by kernel_rfl) (by simp) ?_
        refine AllReadyH.cons (by simp only [List.getElem?_toArray, List.getElem?_cons_succ, List.getElem?_cons_zero]; rfl) (fun K hK => ?_) ?_
        · skip
          go_simp
          refine (stepwrite_any A2 n2 c2 B2 k2 d2 m _ s V vn vc _ OM0.out (by have := hlo.out; have := hszd.out; have := hsz0.out; have := hsz1.out; omega) (XV.out.step HQ.out) HG.out hvn HS.out).mono ?_
          rintro e ws3 ⟨A3, n3, c3, B3, k3, d3, V3, vn3, vc3, rfl, om, ov, hfar, hb⟩
          have hsz2 := hid (show ws1.heap.size ≤ ws3.heap.size from hb.size)
          replace P8 := hid (P8.out.step hb); replace OM0 := hid (OM0.out.step hb); replace HQ := hid (below_then HQ.out hb)
          clear hb
          rw [← HR.out] at om ov ⊢
          dsimp only at om ov ⊢
          have OM := hid (om.mono hlo2.out); have OV := hid (ov.mono hlo2.out); have HFAR := hid hfar
          clear om ov hfar
          go_wp2_with fail
          refine hK.out _ _ ⟨(XPM.out.step HQ.out).cells3.1, (XPM.out.step HQ.out).cells3.2.1, (XPM.out.step HQ.out).cells3.2.2.1, (XPS.out.step HQ.out).cells6.1, (XPS.out.step HQ.out).cells6.2.1, (XPS.out.step HQ.out).cells6.2.2.1, (XPS.out.step HQ.out).cells6.2.2.2.1, (XPS.out.step HQ.out).cells6.2.2.2.2.1, (XPS.out.step HQ.out).cells6.2.2.2.2.2.1⟩ (fun hS' => ?_)
          clear hK K hS
          have hS := hS'
          clear hS'
          (try simp only [Act.put, List.setIfInBounds_toArray, List.set_cons_zero, List.set_cons_succ])
          refine wpAnyH_take (i := 4) (v := ?_) (by simp only [List.getElem?_toArray, List.getElem?_cons_succ, List.getElem?_cons_zero]; rfl) (by kernel_rfl) (by kernel_rfl) (by kernel_rfl) (fun _ _ _ h => h) (Or.inl ⟨by rfl, ?_⟩) hS ?_
          rotate_left
          · intro w' hSw; (try dsimp only at hSw); go_split_ands; go_simp; (try with_reducible rfl)
          (try simp only [Act.put, List.setIfInBounds_toArray, List.set_cons_zero, List.set_cons_succ])
          refine wpAnyH_take (i := 5) (v := ?_) (by simp only [List.getElem?_toArray, List.getElem?_cons_succ, List.getElem?_cons_zero]; rfl) (by kernel_rfl) (by kernel_rfl) (by kernel_rfl) (fun _ _ _ h => h) (Or.inl ⟨by rfl, ?_⟩) hS ?_
          rotate_left
          · intro w' hSw; (try dsimp only at hSw); go_split_ands; go_simp; (try with_reducible rfl)
          (try simp only [Act.put, List.setIfInBounds_toArray, List.set_cons_zero, List.set_cons_succ])
          refine wpAnyH_take (i := 6) (v := ?_) (by simp only [List.getElem?_toArray, List.getElem?_cons_succ, List.getElem?_cons_zero]; rfl) (by kernel_rfl) (by kernel_rfl) (by kernel_rfl) (fun _ _ _ h => h) (Or.inl ⟨by rfl, ?_⟩) hS ?_
          rotate_left
          · intro w' hSw; (try dsimp only at hSw); go_split_ands; go_simp; (try with_reducible rfl)
          (try simp only [Act.put, List.setIfInBounds_toArray, List.set_cons_zero, List.set_cons_succ])
          refine wpAnyH_ready (rs := [7]) (by kernel_rfl) (by simp) ?_
          refine AllReadyH.cons (by simp only [List.getElem?_toArray, List.getElem?_cons_succ, List.getElem?_cons_zero]; rfl) (fun K hK => ?_) ?_
          · skip
            go_simp
            refine named_alloc ?_
            intro Wa7 hbk hb hsz
            have hsz3 := hid hsz
            replace P8 := hid (P8.out.step hb); replace OM0 := hid (OM0.out.step hb); replace OM := hid (OM.out.step hb); replace OV := hid (OV.out.step hb); replace HQ := hid (below_then HQ.out hb)
            have P7 := hid hbk
            clear hb hbk hsz
            refine hK.out _ _ ⟨(XPM.out.step HQ.out).cells3.1, (XPM.out.step HQ.out).cells3.2.1, (XPM.out.step HQ.out).cells3.2.2.1, (XPS.out.step HQ.out).cells6.1, (XPS.out.step HQ.out).cells6.2.1, (XPS.out.step HQ.out).cells6.2.2.1, (XPS.out.step HQ.out).cells6.2.2.2.1, (XPS.out.step HQ.out).cells6.2.2.2.2.1, (XPS.out.step HQ.out).cells6.2.2.2.2.2.1⟩ (fun hS' => ?_)
            clear hK K hS
            have hS := hS'
            clear hS'
            (try simp only [Act.put, List.setIfInBounds_toArray, List.set_cons_zero, List.set_cons_succ])
            refine wpAnyH_ready (rs := [9]) (by kernel_rfl) (by simp) ?_
            refine AllReadyH.cons (by simp only [List.getElem?_toArray, List.getElem?_cons_succ, List.getElem?_cons_zero]; rfl) (fun K hK => ?_) ?_
            · skip
              obtain ⟨y00, y01, y02, yf0⟩ := P7.out.cells3
              go_simp
              clear y00 y01 y02 yf0
              refine named_store3 P7.out ?_
              intro Ws9 hbk hgr hsz
              have hsz4 := hid hsz
              clear hsz
              replace P8 := hid (P8.out.grown hgr (fun e => P7.out.ne P8.out (by decide) (by simpa using e.symm)))
              replace OM := hid (mown_kept OM.out P7.out tm1 tm2 hgr)
              replace OV := hid (OV.out.keptG hgr (fun v hv e => OV.out.ne_blk P7.out tm1 v hv (by simpa using e)))
              replace HQ := hid (HQ.out.grown hgr HQ.out.size (fun r e => by cases e; have := hszd.out; have := hsz0.out; have := hsz1.out; have := hsz2.out; have := hsz3.out; have := hsz4.out; omega))
              replace P7 := hid hbk
              clear hbk hgr
              refine hK.out _ _ ⟨(XPM.out.step HQ.out).cells3.1, (XPM.out.step HQ.out).cells3.2.1, (XPM.out.step HQ.out).cells3.2.2.1, (XPS.out.step HQ.out).cells6.1, (XPS.out.step HQ.out).cells6.2.1, (XPS.out.step HQ.out).cells6.2.2.1, (XPS.out.step HQ.out).cells6.2.2.2.1, (XPS.out.step HQ.out).cells6.2.2.2.2.1, (XPS.out.step HQ.out).cells6.2.2.2.2.2.1⟩ (fun hS' => ?_)
              clear hK K hS
              have hS := hS'
              clear hS'
              (try simp only [Act.put, List.setIfInBounds_toArray, List.set_cons_zero, List.set_cons_succ])
              refine wpAnyH_ready (rs := [10]) (by kernel_rfl) (by simp) ?_
              refine AllReadyH.cons (by simp only [List.getElem?_toArray, List.getElem?_cons_succ, List.getElem?_cons_zero]; rfl) (fun K hK => ?_) ?_
              · skip
                obtain ⟨y00, y01, y02, y03, y04, y05, yf0⟩ := P8.out.cells6
                go_simp
                clear y00 y01 y02 y03 y04 y05 yf0
                refine named_store_6_6_0 P8.out ?_
                intro Ws10 hbk hgr hsz
                have hsz5 := hid hsz
                clear hsz
                replace P7 := hid (P7.out.grown hgr (fun e => P7.out.ne P8.out (by decide) (by simpa using e)))
                replace OM := hid (mown_kept OM.out P8.out tq1 tq2 hgr)
                replace OV := hid (OV.out.keptG hgr (fun v hv e => OV.out.ne_blk P8.out tq1 v hv (by simpa using e)))
                replace HQ := hid (HQ.out.grown hgr HQ.out.size (fun r e => by cases e; have := hszd.out; have := hsz0.out; have := hsz1.out; have := hsz2.out; have := hsz3.out; have := hsz4.out; have := hsz5.out; omega))
                replace P8 := hid hbk
                clear hbk hgr
                refine hK.out _ _ ⟨(XPM.out.step HQ.out).cells3.1, (XPM.out.step HQ.out).cells3.2.1, (XPM.out.step HQ.out).cells3.2.2.1, (XPS.out.step HQ.out).cells6.1, (XPS.out.step HQ.out).cells6.2.1, (XPS.out.step HQ.out).cells6.2.2.1, (XPS.out.step HQ.out).cells6.2.2.2.1, (XPS.out.step HQ.out).cells6.2.2.2.2.1, (XPS.out.step HQ.out).cells6.2.2.2.2.2.1⟩ (fun hS' => ?_)
                clear hK K hS
                have hS := hS'
                clear hS'
                (try simp only [Act.put, List.setIfInBounds_toArray, List.set_cons_zero, List.set_cons_succ])
                refine wpAnyH_done (by kernel_rfl) ?_ _
                refine NoPanic.normal ?_
                clear hS
                go_wp2_with fail
                go_meet
                exact ⟨_, _, _, _, _, _, _, _, _, _, _, rfl, rfl, ⟨P7.out, P8.out, OM.out, OV.out, HFAR.out, HQ.out, by have := hszd.out; have := hsz0.out; have := hsz1.out; have := hsz2.out; have := hsz3.out; have := hsz4.out; have := hsz5.out; omega, by have := hszd.out; have := hsz0.out; have := hsz1.out; have := hsz2.out; have := hsz3.out; have := hsz4.out; have := hsz5.out; omega⟩⟩
              exact AllReadyH.nil
            exact AllReadyH.nil
          exact AllReadyH.nil
        refine AllReadyH.cons (by simp only [List.getElem?_toArray, List.getElem?_cons_succ, List.getElem?_cons_zero]; rfl) (fun K hK => ?_) ?_
        · skip
          go_simp
          refine named_alloc ?_
          intro Wa7 hbk hb hsz
          have hsz2 := hid hsz
          replace P8 := hid (P8.out.step hb); replace OM0 := hid (OM0.out.step hb); replace HQ := hid (below_then HQ.out hb)
          have P7 := hid hbk
          clear hb hbk hsz
          refine hK.out _ _ ⟨(XPM.out.step HQ.out).cells3.1, (XPM.out.step HQ.out).cells3.2.1, (XPM.out.step HQ.out).cells3.2.2.1, (XPS.out.step HQ.out).cells6.1, (XPS.out.step HQ.out).cells6.2.1, (XPS.out.step HQ.out).cells6.2.2.1, (XPS.out.step HQ.out).cells6.2.2.2.1, (XPS.out.step HQ.out).cells6.2.2.2.2.1, (XPS.out.step HQ.out).cells6.2.2.2.2.2.1⟩ (fun hS' => ?_)
          clear hK K hS
          have hS := hS'
          clear hS'
          (try simp only [Act.put, List.setIfInBounds_toArray, List.set_cons_zero, List.set_cons_succ])
          refine wpAnyH_ready (rs := [3]) (by kernel_rfl) (by simp) ?_
          refine AllReadyH.cons (by simp only [List.getElem?_toArray, List.getElem?_cons_succ, List.getElem?_cons_zero]; rfl) (fun K hK => ?_) ?_
          · skip
            go_simp
            refine (stepwrite_any A2 n2 c2 B2 k2 d2 m _ s V vn vc _ OM0.out (by have := hlo.out; have := hszd.out; have := hsz0.out; have := hsz1.out; have := hsz2.out; omega) (XV.out.step HQ.out) HG.out hvn HS.out).mono ?_
            rintro e ws3 ⟨A3, n3, c3, B3, k3, d3, V3, vn3, vc3, rfl, om, ov, hfar, hb⟩
            have hsz3 := hid (show Wa7.heap.size ≤ ws3.heap.size from hb.size)
            replace P8 := hid (P8.out.step hb); replace OM0 := hid (OM0.out.step hb); replace P7 := hid (P7.out.step hb); replace HQ := hid (below_then HQ.out hb)
            clear hb
            rw [← HR.out] at om ov ⊢
            dsimp only at om ov ⊢
            have OM := hid (om.mono hlo2.out); have OV := hid (ov.mono hlo2.out); have HFAR := hid hfar
            clear om ov hfar
            go_wp2_with fail
            refine hK.out _ _ ⟨(XPM.out.step HQ.out).cells3.1, (XPM.out.step HQ.out).cells3.2.1, (XPM.out.step HQ.out).cells3.2.2.1, (XPS.out.step HQ.out).cells6.1, (XPS.out.step HQ.out).cells6.2.1, (XPS.out.step HQ.out).cells6.2.2.1, (XPS.out.step HQ.out).cells6.2.2.2.1, (XPS.out.step HQ.out).cells6.2.2.2.2.1, (XPS.out.step HQ.out).cells6.2.2.2.2.2.1⟩ (fun hS' => ?_)
            clear hK K hS
            have hS := hS'
            clear hS'
            (try simp only [Act.put, List.setIfInBounds_toArray, List.set_cons_zero, List.set_cons_succ])
            refine wpAnyH_take (i := 4) (v := ?_) (by simp only [List.getElem?_toArray, List.getElem?_cons_succ, List.getElem?_cons_zero]; rfl) (by kernel_rfl) (by kernel_rfl) (by kernel_rfl) (fun _ _ _ h => h) (Or.inl ⟨by rfl, ?_⟩) hS ?_
            rotate_left
            · intro w' hSw; (try dsimp only at hSw); go_split_ands; go_simp; (try with_reducible rfl)
            (try simp only [Act.put, List.setIfInBounds_toArray, List.set_cons_zero, List.set_cons_succ])
            refine wpAnyH_take (i := 5) (v := ?_) (by simp only [List.getElem?_toArray, List.getElem?_cons_succ, List.getElem?_cons_zero]; rfl) (by kernel_rfl) (by kernel_rfl) (by kernel_rfl) (fun _ _ _ h => h) (Or.inl ⟨by rfl, ?_⟩) hS ?_
            rotate_left
            · intro w' hSw; (try dsimp only at hSw); go_split_ands; go_simp; (try with_reducible rfl)
            (try simp only [Act.put, List.setIfInBounds_toArray, List.set_cons_zero, List.set_cons_succ])
            refine wpAnyH_take (i := 6) (v := ?_) (by simp only [List.getElem?_toArray, List.getElem?_cons_succ, List.getElem?_cons_zero]; rfl) (by kernel_rfl) (by kernel_rfl) (by kernel_rfl) (fun _ _ _ h => h) (Or.inl ⟨by rfl, ?_⟩) hS ?_
            rotate_left
            · intro w' hSw; (try dsimp only at hSw); go_split_ands; go_simp; (try with_reducible rfl)
            (try simp only [Act.put, List.setIfInBounds_toArray, List.set_cons_zero, List.set_cons_succ])
            refine wpAnyH_ready (rs := [9]) (by kernel_rfl) (by simp) ?_
            refine AllReadyH.cons (by simp only [List.getElem?_toArray, List.getElem?_cons_succ, List.getElem?_cons_zero]; rfl) (fun K hK => ?_) ?_
            · skip
              obtain ⟨y00, y01, y02, yf0⟩ := P7.out.cells3
              go_simp
              clear y00 y01 y02 yf0
              refine named_store3 P7.out ?_
              intro Ws9 hbk hgr hsz
              have hsz4 := hid hsz
              clear hsz
              replace P8 := hid (P8.out.grown hgr (fun e => P7.out.ne P8.out (by decide) (by simpa using e.symm)))
              replace OM := hid (mown_kept OM.out P7.out tm1 tm2 hgr)
              replace OV := hid (OV.out.keptG hgr (fun v hv e => OV.out.ne_blk P7.out tm1 v hv (by simpa using e)))
              replace HQ := hid (HQ.out.grown hgr HQ.out.size (fun r e => by cases e; have := hszd.out; have := hsz0.out; have := hsz1.out; have := hsz2.out; have := hsz3.out; have := hsz4.out; omega))
              replace P7 := hid hbk
              clear hbk hgr
              refine hK.out _ _ ⟨(XPM.out.step HQ.out).cells3.1, (XPM.out.step HQ.out).cells3.2.1, (XPM.out.step HQ.out).cells3.2.2.1, (XPS.out.step HQ.out).cells6.1, (XPS.out.step HQ.out).cells6.2.1, (XPS.out.step HQ.out).cells6.2.2.1, (XPS.out.step HQ.out).cells6.2.2.2.1, (XPS.out.step HQ.out).cells6.2.2.2.2.1, (XPS.out.step HQ.out).cells6.2.2.2.2.2.1⟩ (fun hS' => ?_)
              clear hK K hS
              have hS := hS'
              clear hS'
              (try simp only [Act.put, List.setIfInBounds_toArray, List.set_cons_zero, List.set_cons_succ])
              refine wpAnyH_ready (rs := [10]) (by kernel_rfl) (by simp) ?_
              refine AllReadyH.cons (by simp only [List.getElem?_toArray, List.getElem?_cons_succ, List.getElem?_cons_zero]; rfl) (fun K hK => ?_) ?_
              · skip
                obtain ⟨y00, y01, y02, y03, y04, y05, yf0⟩ := P8.out.cells6
                go_simp
                clear y00 y01 y02 y03 y04 y05 yf0
                refine named_store_6_6_0 P8.out ?_
                intro Ws10 hbk hgr hsz
                have hsz5 := hid hsz
                clear hsz
                replace P7 := hid (P7.out.grown hgr (fun e => P7.out.ne P8.out (by decide) (by simpa using e)))
                replace OM := hid (mown_kept OM.out P8.out tq1 tq2 hgr)
                replace OV := hid (OV.out.keptG hgr (fun v hv e => OV.out.ne_blk P8.out tq1 v hv (by simpa using e)))
                replace HQ := hid (HQ.out.grown hgr HQ.out.size (fun r e => by cases e; have := hszd.out; have := hsz0.out; have := hsz1.out; have := hsz2.out; have := hsz3.out; have := hsz4.out; have := hsz5.out; omega))
                replace P8 := hid hbk
                clear hbk hgr
                refine hK.out _ _ ⟨(XPM.out.step HQ.out).cells3.1, (XPM.out.step HQ.out).cells3.2.1, (XPM.out.step HQ.out).cells3.2.2.1, (XPS.out.step HQ.out).cells6.1, (XPS.out.step HQ.out).cells6.2.1, (XPS.out.step HQ.out).cells6.2.2.1, (XPS.out.step HQ.out).cells6.2.2.2.1, (XPS.out.step HQ.out).cells6.2.2.2.2.1, (XPS.out.step HQ.out).cells6.2.2.2.2.2.1⟩ (fun hS' => ?_)
                clear hK K hS
                have hS := hS'
                clear hS'
                (try simp only [Act.put, List.setIfInBounds_toArray, List.set_cons_zero, List.set_cons_succ])
                refine wpAnyH_done (by kernel_rfl) ?_ _
                refine NoPanic.normal ?_
                clear hS
                go_wp2_with fail
                go_meet
                exact ⟨_, _, _, _, _, _, _, _, _, _, _, rfl, rfl, ⟨P7.out, P8.out, OM.out, OV.out, HFAR.out, HQ.out, by have := hszd.out; have := hsz0.out; have := hsz1.out; have := hsz2.out; have := hsz3.out; have := hsz4.out; have := hsz5.out; omega, by have := hszd.out; have := hsz0.out; have := hsz1.out; have := hsz2.out; have := hsz3.out; have := hsz4.out; have := hsz5.out; omega⟩⟩
              exact AllReadyH.nil
            exact AllReadyH.nil
          exact AllReadyH.nil
        exact AllReadyH.nil
      refine AllReadyH.cons (by simp only [List.getElem?_toArray, List.getElem?_cons_succ, List.getElem?_cons_zero]; rfl) (fun K hK => ?_) ?_
      · skip
        go_simp
        refine named_alloc ?_
        intro Wa7 hbk hb hsz
        have hsz1 := hid hsz
        replace P8 := hid (P8.out.step hb); replace HQ := hid (below_then HQ.out hb)
        have P7 := hid hbk
        clear hb hbk hsz
        refine hK.out _ _ ⟨(XPM.out.step HQ.out).cells3.1, (XPM.out.step HQ.out).cells3.2.1, (XPM.out.step HQ.out).cells3.2.2.1, (XPS.out.step HQ.out).cells6.1, (XPS.out.step HQ.out).cells6.2.1, (XPS.out.step HQ.out).cells6.2.2.1, (XPS.out.step HQ.out).cells6.2.2.2.1, (XPS.out.step HQ.out).cells6.2.2.2.2.1, (XPS.out.step HQ.out).cells6.2.2.2.2.2.1⟩ (fun hS' => ?_)
        clear hK K hS
        have hS := hS'
        clear hS'
        (try simp only [Act.put, List.setIfInBounds_toArray, List.set_cons_zero, List.set_cons_succ])
        refine wpAnyH_ready (rs := [1]) (by kernel_rfl) (by simp) ?_
        refine AllReadyH.cons (by simp only [List.getElem?_toArray, List.getElem?_cons_succ, List.getElem?_cons_zero]; rfl) (fun K hK => ?_) ?_
        · skip
          go_simp
          refine (ownmem_any A n c B k d m.2.2 m.1 m.2.1 _ (XM.out.step HQ.out)).mono ?_
          rintro e ws1 ⟨A2, n2, c2, B2, k2, d2, rfl, om, hb⟩
          have hsz2 := hid (show Wa7.heap.size ≤ ws1.heap.size from hb.size)
          replace P8 := hid (P8.out.step hb); replace P7 := hid (P7.out.step hb); replace HQ := hid (below_then HQ.out hb)
          clear hb
          have OM0 := hid om
          have hlo := hid (show Wa7.heap.size ≤ ws1.heap.size from hsz2.out)
          have hlo2 := hid (show w2.heap.size ≤ Wa7.heap.size by have := hszd.out; have := hsz0.out; have := hsz1.out; omega)
          clear om
          go_wp2_with fail
          refine hK.out _ _ ⟨(XPM.out.step HQ.out).cells3.1, (XPM.out.step HQ.out).cells3.2.1, (XPM.out.step HQ.out).cells3.2.2.1, (XPS.out.step HQ.out).cells6.1, (XPS.out.step HQ.out).cells6.2.1, (XPS.out.step HQ.out).cells6.2.2.1, (XPS.out.step HQ.out).cells6.2.2.2.1, (XPS.out.step HQ.out).cells6.2.2.2.2.1, (XPS.out.step HQ.out).cells6.2.2.2.2.2.1⟩ (fun hS' => ?_)
          clear hK K hS
          have hS := hS'
          clear hS'
          (try simp only [Act.put, List.setIfInBounds_toArray, List.set_cons_zero, List.set_cons_succ])
          refine wpAnyH_ready (rs := [3]) (by kernel_rfl) (by simp) ?_
          refine AllReadyH.cons (by simp only [List.getElem?_toArray, List.getElem?_cons_succ, List.getElem?_cons_zero]; rfl) (fun K hK => ?_) ?_
          · skip
            go_simp
            refine (stepwrite_any A2 n2 c2 B2 k2 d2 m _ s V vn vc _ OM0.out (by have := hlo.out; have := hszd.out; have := hsz0.out; have := hsz1.out; have := hsz2.out; omega) (XV.out.step HQ.out) HG.out hvn HS.out).mono ?_
            rintro e ws3 ⟨A3, n3, c3, B3, k3, d3, V3, vn3, vc3, rfl, om, ov, hfar, hb⟩
            have hsz3 := hid (show ws1.heap.size ≤ ws3.heap.size from hb.size)
            replace P8 := hid (P8.out.step hb); replace P7 := hid (P7.out.step hb); replace OM0 := hid (OM0.out.step hb); replace HQ := hid (below_then HQ.out hb)
            clear hb
            rw [← HR.out] at om ov ⊢
            dsimp only at om ov ⊢
            have OM := hid (om.mono hlo2.out); have OV := hid (ov.mono hlo2.out); have HFAR := hid hfar
            clear om ov hfar
            go_wp2_with fail
            refine hK.out _ _ ⟨(XPM.out.step HQ.out).cells3.1, (XPM.out.step HQ.out).cells3.2.1, (XPM.out.step HQ.out).cells3.2.2.1, (XPS.out.step HQ.out).cells6.1, (XPS.out.step HQ.out).cells6.2.1, (XPS.out.step HQ.out).cells6.2.2.1, (XPS.out.step HQ.out).cells6.2.2.2.1, (XPS.out.step HQ.out).cells6.2.2.2.2.1, (XPS.out.step HQ.out).cells6.2.2.2.2.2.1⟩ (fun hS' => ?_)
            clear hK K hS
            have hS := hS'
            clear hS'
            (try simp only [Act.put, List.setIfInBounds_toArray, List.set_cons_zero, List.set_cons_succ])
            refine wpAnyH_take (i := 4) (v := ?_) (by simp only [List.getElem?_toArray, List.getElem?_cons_succ, List.getElem?_cons_zero]; rfl) (by kernel_rfl) (by kernel_rfl) (by kernel_rfl) (fun _ _ _ h => h) (Or.inl ⟨by rfl, ?_⟩) hS ?_
            rotate_left
            · intro w' hSw; (try dsimp only at hSw); go_split_ands; go_simp; (try with_reducible rfl)
            (try simp only [Act.put, List.setIfInBounds_toArray, List.set_cons_zero, List.set_cons_succ])
            refine wpAnyH_take (i := 5) (v := ?_) (by simp only [List.getElem?_toArray, List.getElem?_cons_succ, List.getElem?_cons_zero]; rfl) (by kernel_rfl) (by kernel_rfl) (by kernel_rfl) (fun _ _ _ h => h) (Or.inl ⟨by rfl, ?_⟩) hS ?_
            rotate_left
            · intro w' hSw; (try dsimp only at hSw); go_split_ands; go_simp; (try with_reducible rfl)
            (try simp only [Act.put, List.setIfInBounds_toArray, List.set_cons_zero, List.set_cons_succ])
            refine wpAnyH_take (i := 6) (v := ?_) (by simp only [List.getElem?_toArray, List.getElem?_cons_succ, List.getElem?_cons_zero]; rfl) (by kernel_rfl) (by kernel_rfl) (by kernel_rfl) (fun _ _ _ h => h) (Or.inl ⟨by rfl, ?_⟩) hS ?_
            rotate_left
            · intro w' hSw; (try dsimp only at hSw); go_split_ands; go_simp; (try with_reducible rfl)
            (try simp only [Act.put, List.setIfInBounds_toArray, List.set_cons_zero, List.set_cons_succ])
            refine wpAnyH_ready (rs := [9]) (by kernel_rfl) (by simp) ?_
            refine AllReadyH.cons (by simp only [List.getElem?_toArray, List.getElem?_cons_succ, List.getElem?_cons_zero]; rfl) (fun K hK => ?_) ?_
            · skip
              obtain ⟨y00, y01, y02, yf0⟩ := P7.out.cells3
              go_simp
              clear y00 y01 y02 yf0
              refine named_store3 P7.out ?_
              intro Ws9 hbk hgr hsz
              have hsz4 := hid hsz
              clear hsz
              replace P8 := hid (P8.out.grown hgr (fun e => P7.out.ne P8.out (by decide) (by simpa using e.symm)))
              replace OM := hid (mown_kept OM.out P7.out tm1 tm2 hgr)
              replace OV := hid (OV.out.keptG hgr (fun v hv e => OV.out.ne_blk P7.out tm1 v hv (by simpa using e)))
              replace HQ := hid (HQ.out.grown hgr HQ.out.size (fun r e => by cases e; have := hszd.out; have := hsz0.out; have := hsz1.out; have := hsz2.out; have := hsz3.out; have := hsz4.out; omega))
              replace P7 := hid hbk
              clear hbk hgr
              refine hK.out _ _ ⟨(XPM.out.step HQ.out).cells3.1, (XPM.out.step HQ.out).cells3.2.1, (XPM.out.step HQ.out).cells3.2.2.1, (XPS.out.step HQ.out).cells6.1, (XPS.out.step HQ.out).cells6.2.1, (XPS.out.step HQ.out).cells6.2.2.1, (XPS.out.step HQ.out).cells6.2.2.2.1, (XPS.out.step HQ.out).cells6.2.2.2.2.1, (XPS.out.step HQ.out).cells6.2.2.2.2.2.1⟩ (fun hS' => ?_)
              clear hK K hS
              have hS := hS'
              clear hS'
              (try simp only [Act.put, List.setIfInBounds_toArray, List.set_cons_zero, List.set_cons_succ])
              refine wpAnyH_ready (rs := [10]) (by kernel_rfl) (by simp) ?_
              refine AllReadyH.cons (by simp only [List.getElem?_toArray, List.getElem?_cons_succ, List.getElem?_cons_zero]; rfl) (fun K hK => ?_) ?_
              · skip
                obtain ⟨y00, y01, y02, y03, y04, y05, yf0⟩ := P8.out.cells6
                go_simp
                clear y00 y01 y02 y03 y04 y05 yf0
                refine named_store_6_6_0 P8.out ?_
                intro Ws10 hbk hgr hsz
                have hsz5 := hid hsz
                clear hsz
                replace P7 := hid (P7.out.grown hgr (fun e => P7.out.ne P8.out (by decide) (by simpa using e)))
                replace OM := hid (mown_kept OM.out P8.out tq1 tq2 hgr)
                replace OV := hid (OV.out.keptG hgr (fun v hv e => OV.out.ne_blk P8.out tq1 v hv (by simpa using e)))
                replace HQ := hid (HQ.out.grown hgr HQ.out.size (fun r e => by cases e; have := hszd.out; have := hsz0.out; have := hsz1.out; have := hsz2.out; have := hsz3.out; have := hsz4.out; have := hsz5.out; omega))
                replace P8 := hid hbk
                clear hbk hgr
                refine hK.out _ _ ⟨(XPM.out.step HQ.out).cells3.1, (XPM.out.step HQ.out).cells3.2.1, (XPM.out.step HQ.out).cells3.2.2.1, (XPS.out.step HQ.out).cells6.1, (XPS.out.step HQ.out).cells6.2.1, (XPS.out.step HQ.out).cells6.2.2.1, (XPS.out.step HQ.out).cells6.2.2.2.1, (XPS.out.step HQ.out).cells6.2.2.2.2.1, (XPS.out.step HQ.out).cells6.2.2.2.2.2.1⟩ (fun hS' => ?_)
                clear hK K hS
                have hS := hS'
                clear hS'
                (try simp only [Act.put, List.setIfInBounds_toArray, List.set_cons_zero, List.set_cons_succ])
                refine wpAnyH_done (by kernel_rfl) ?_ _
                refine NoPanic.normal ?_
                clear hS
                go_wp2_with fail
                go_meet
                exact ⟨_, _, _, _, _, _, _, _, _, _, _, rfl, rfl, ⟨P7.out, P8.out, OM.out, OV.out, HFAR.out, HQ.out, by have := hszd.out; have := hsz0.out; have := hsz1.out; have := hsz2.out; have := hsz3.out; have := hsz4.out; have := hsz5.out; omega, by have := hszd.out; have := hsz0.out; have := hsz1.out; have := hsz2.out; have := hsz3.out; have := hsz4.out; have := hsz5.out; omega⟩⟩
              exact AllReadyH.nil
            exact AllReadyH.nil
          exact AllReadyH.nil
        exact AllReadyH.nil
      exact AllReadyH.nil
    exact AllReadyH.nil
  case rest =>
    obtain ⟨g7, g8, A3, n3, c3, B3, k3, d3, V3, vn3, vc3, rfl, rfl, hmid⟩ := hcut
    rename World => W4
    have hb := hmid.be
    have P7 := hid hmid.b7; have P8 := hid hmid.b8; have OM := hid (hmid.om.mono (show w.heap.size ≤ w2.heap.size from HB.out.size)); have OV := hid (hmid.ov.mono (show w.heap.size ≤ w2.heap.size from HB.out.size)); have HFAR := hid hmid.far
    have hg7 := hid (show w.heap.size + 4 ≤ g7 from Nat.le_trans QS.out.lt hmid.l7); have hg8 := hid (show w.heap.size + 4 ≤ g8 from Nat.le_trans QS.out.lt hmid.l8)
    clear hmid
    replace QM := hid (QM.out.step hb); replace QS := hid (QS.out.step hb); replace HB := hid (below_then HB.out hb)
    clear hb HQ XM XV XPM XPS HM HV PM PS
    skip
    go_upto_region 6 with fail
    have bx := (Below.refl W4.heap.size W4).drew
    replace QM := hid (QM.out.step bx); replace QS := hid (QS.out.step bx); replace P7 := hid (P7.out.step bx); replace P8 := hid (P8.out.step bx); replace OM := hid (OM.out.step bx); replace OV := hid (OV.out.step bx); replace HB := hid (below_then HB.out bx)
    clear bx
    have hszd := hid (show W4.drew.heap.size = W4.heap.size from rfl)
    refine wp_region_noPanic ?_
    refine wp_region_held_drew (S := (fun W' : World => W'.cell? ⟨g7, 0, none⟩ = some (.slice A3 n3 c3) ∧ W'.cell? ⟨g7, 1, none⟩ = some (.slice B3 k3 d3) ∧ W'.cell? ⟨g7, 2, none⟩ = some (.bool m2.2.2) ∧ W'.cell? ⟨g8, 0, none⟩ = some (.int .i64 s2.a) ∧ W'.cell? ⟨g8, 1, none⟩ = some (.int .i64 s2.f) ∧ W'.cell? ⟨g8, 2, none⟩ = some (.slice V3 vn3 vc3) ∧ W'.cell? ⟨g8, 3, none⟩ = some (.int .i64 s2.ph) ∧ W'.cell? ⟨g8, 4, none⟩ = some (.int .u64 s2.bg) ∧ W'.cell? ⟨g8, 5, none⟩ = some (.int .i64 s2.wr))) (by kernel_rfl) ⟨P7.out.cells3.1, P7.out.cells3.2.1, P7.out.cells3.2.2.1, P8.out.cells6.1, P8.out.cells6.2.1, P8.out.cells6.2.2.1, P8.out.cells6.2.2.2.1, P8.out.cells6.2.2.2.2.1, P8.out.cells6.2.2.2.2.2.1⟩ (fun hS => ?_)
    generalize W4.drew = Wd at *
    refine wpAnyH_take (i := 0) (v := ?_) (by simp only [List.getElem?_toArray, List.getElem?_cons_succ, List.getElem?_cons_zero]; rfl) (by kernel_rfl) (by kernel_rfl) (by kernel_rfl) (fun _ _ _ h => h) (Or.inl ⟨by rfl, ?_⟩) hS ?_
    rotate_left
    · intro w' hSw; (try dsimp only at hSw); go_split_ands; go_simp; (try with_reducible rfl)
    (try simp only [Act.put, List.setIfInBounds_toArray, List.set_cons_zero, List.set_cons_succ])
    refine wpAnyH_take (i := 1) (v := ?_) (by simp only [List.getElem?_toArray, List.getElem?_cons_succ, List.getElem?_cons_zero]; rfl) (by kernel_rfl) (by kernel_rfl) (by kernel_rfl) (fun _ _ _ h => h) (Or.inl ⟨by rfl, ?_⟩) hS ?_
    rotate_left
    · intro w' hSw; (try dsimp only at hSw); go_split_ands; go_simp; (try with_reducible rfl)
    (try simp only [Act.put, List.setIfInBounds_toArray, List.set_cons_zero, List.set_cons_succ])
    refine wpAnyH_ready (rs := [2]) (by kernel_rfl) (by simp) ?_
    refine AllReadyH.cons (by simp only [List.getElem?_toArray, List.getElem?_cons_succ, List.getElem?_cons_zero]; rfl) (fun K hK => ?_) ?_
    · skip
      obtain ⟨y00, y01, y02, yf0⟩ := QM.out.cells3
      go_simp
      clear y00 y01 y02 yf0
      refine named_store3 QM.out ?_
      intro Ws2 hbk hgr hsz
      have hsz0 := hid hsz
      clear hsz
      replace QS := hid (QS.out.grown hgr (by simp <;> omega))
      replace P7 := hid (P7.out.grown hgr (by have := hg7.out; simp; omega))
      replace P8 := hid (P8.out.grown hgr (by have := hg8.out; simp; omega))
      replace OM := hid (mown_kept OM.out QM.out tm1 tm2 hgr)
      replace OV := hid (OV.out.keptG hgr (fun v hv e => OV.out.ne_blk QM.out tm1 v hv (by simpa using e)))
      replace HB := hid (HB.out.grown hgr HB.out.size (fun r e => by cases e; omega))
      replace QM := hid hbk
      clear hbk hgr
      refine hK.out _ _ ⟨P7.out.cells3.1, P7.out.cells3.2.1, P7.out.cells3.2.2.1, P8.out.cells6.1, P8.out.cells6.2.1, P8.out.cells6.2.2.1, P8.out.cells6.2.2.2.1, P8.out.cells6.2.2.2.2.1, P8.out.cells6.2.2.2.2.2.1⟩ (fun hS' => ?_)
      clear hK K hS
      have hS := hS'
      clear hS'
      (try simp only [Act.put, List.setIfInBounds_toArray, List.set_cons_zero, List.set_cons_succ])
      refine wpAnyH_ready (rs := [3]) (by kernel_rfl) (by simp) ?_
      refine AllReadyH.cons (by simp only [List.getElem?_toArray, List.getElem?_cons_succ, List.getElem?_cons_zero]; rfl) (fun K hK => ?_) ?_
      · skip
        obtain ⟨y00, y01, y02, y03, y04, y05, yf0⟩ := QS.out.cells6
        go_simp
        clear y00 y01 y02 y03 y04 y05 yf0
        refine named_store_6_6_0 QS.out ?_
        intro Ws3 hbk hgr hsz
        have hsz1 := hid hsz
        clear hsz
        replace QM := hid (QM.out.grown hgr (by simp <;> omega))
        replace P7 := hid (P7.out.grown hgr (by have := hg7.out; simp; omega))
        replace P8 := hid (P8.out.grown hgr (by have := hg8.out; simp; omega))
        replace OM := hid (mown_kept OM.out QS.out tq1 tq2 hgr)
        replace OV := hid (OV.out.keptG hgr (fun v hv e => OV.out.ne_blk QS.out tq1 v hv (by simpa using e)))
        replace HB := hid (HB.out.grown hgr HB.out.size (fun r e => by cases e; omega))
        replace QS := hid hbk
        clear hbk hgr
        refine hK.out _ _ ⟨P7.out.cells3.1, P7.out.cells3.2.1, P7.out.cells3.2.2.1, P8.out.cells6.1, P8.out.cells6.2.1, P8.out.cells6.2.2.1, P8.out.cells6.2.2.2.1, P8.out.cells6.2.2.2.2.1, P8.out.cells6.2.2.2.2.2.1⟩ (fun hS' => ?_)
        clear hK K hS
        have hS := hS'
        clear hS'
        (try simp only [Act.put, List.setIfInBounds_toArray, List.set_cons_zero, List.set_cons_succ])
        refine wpAnyH_take (i := 4) (v := ?_) (by simp only [List.getElem?_toArray, List.getElem?_cons_succ, List.getElem?_cons_zero]; rfl) (by kernel_rfl) (by kernel_rfl) (by kernel_rfl) (fun _ _ _ h => h) (Or.inl ⟨by rfl, ?_⟩) hS ?_
        rotate_left
        · intro w' hSw; (try dsimp only at hSw); go_split_ands; go_simp; (try with_reducible rfl)
        (try simp only [Act.put, List.setIfInBounds_toArray, List.set_cons_zero, List.set_cons_succ])
        refine wpAnyH_done (by kernel_rfl) ?_ _
        refine NoPanic.normal ?_
        clear hS
        go_wp2
        obtain ⟨v0, v1, v2, vf⟩ := QM.out.cells3
        obtain ⟨q0, q1, q2, q3, q4, q5, qf⟩ := QS.out.cells6
        refine bodyPost_ret (v := .tuple #[mv A3 n3 c3 B3 k3 d3 m2.2.2, .agg #[.int .i64 s2.a, .int .i64 s2.f, .slice V3 vn3 vc3, .int .i64 s2.ph, .int .u64 s2.bg, .int .i64 s2.wr], .int .i64 0]) (by simp [results, Try.results36, go_sem, v0, v1, v2, q0, q1, q2, q3, q4, q5]) rfl ?_
        rw [HE2.out]
        exact ⟨_, _, _, _, _, _, _, _, _, rfl, OM.out, OV.out, HFAR.out, HB.out⟩
      exact AllReadyH.nil
    exact AllReadyH.nil
end Go.Proofs.Ytnkaajkdjbdpaaa
