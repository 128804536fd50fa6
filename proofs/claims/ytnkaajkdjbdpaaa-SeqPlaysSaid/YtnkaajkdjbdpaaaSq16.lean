/- The statements of chapter 06: ownRead, ownWrite. No condition but sizes. -/
import Derived.Test.YtnkaajkdjbdpaaaSq15
namespace Go.Proofs.Ytnkaajkdjbdpaaa
open Go.RowKit
def cutR (s : Srd) : Srd := ⟨s.a, s.f, s.m, s.ph, s.bg, s.vs.take 18, s.tr⟩
def cutW (s : Swr) : Swr := ⟨s.a, s.f, s.vs.take 18, s.ph, s.bg, s.wr⟩
def OrPost (s : Srd) (w : World) (e : Ending) (w' : World) : Prop := ∃ V n c, e = .returned (rdV (cutR s) V n c) ∧ Ow u64v w' w.heap.size 27 V n c (s.vs.take 18) ∧ Below w.heap.size w w'
def OwPost (s : Swr) (w : World) (e : Ending) (w' : World) : Prop := ∃ V n c, e = .returned (wrV (cutW s) V n c) ∧ Ow u64v w' w.heap.size 27 V n c (s.vs.take 18) ∧ Below w.heap.size w w'
set_option maxRecDepth 100000 in
set_option maxHeartbeats 4000000 in
theorem ownread_any (s : Srd) (V : Option Addr) (n c : Nat) (w : World) (hv : Sl u64v 0 w 0 w.heap.size V n s.vs) (hnc : n ≤ c) :
    Calls Try.prog 19 #[rdV s V n c] w (OrPost s w) := by
  have HV := hid hv; have HB := hid (Below.refl w.heap.size w)
  obtain ⟨m4, hm4⟩ : ∃ m, m = min n 18 := ⟨_, rfl⟩
  have hmm : (if (18 : Int) < (n : Int) then (18 : Int) else (n : Int)) = (m4 : Int) := by split <;> omega
  have hmm2 : min (n : Int) 18 = (m4 : Int) := by omega
  have hmc1 : (m4 : Int) ≤ (c : Int) := by omega
  have hmc0 : (0 : Int) ≤ (m4 : Int) := by omega
  have HV4 := hid (show Sl u64v 0 w 0 w.heap.size V m4 (s.vs.take 18) by
    rw [hm4]
    by_cases h18 : n ≤ 18
    · rw [show min n 18 = n by omega, List.take_of_length_le (by rw [hv.len]; exact h18)]; exact hv
    · rw [show min n 18 = 18 by omega]; exact hv.take (by omega))
  clear hv
  have bx := below_box w (.cells (rdc s.a s.f s.m s.ph s.bg V n c s.tr) 29)
  replace HV4 := hid (HV4.out.step bx); replace HB := hid (below_then HB.out bx)
  clear bx
  have PS := hid (Blk.new w 29 (rdc s.a s.f s.m s.ph s.bg V n c s.tr))
  have bx := below_box (w.alloc (.cells (rdc s.a s.f s.m s.ph s.bg V n c s.tr) 29)) (.cells (rdc 0 0 0 0 0 none 0 0 0) 29)
  replace HV4 := hid (HV4.out.step bx); replace PS := hid (PS.out.step bx); replace HB := hid (below_then HB.out bx)
  clear bx
  have QS := hid (Blk.new2 w 29 (rdc 0 0 0 0 0 none 0 0 0) (.cells (rdc s.a s.f s.m s.ph s.bg V n c s.tr) 29))
  have hm18 : m4 ≤ 18 := by omega
  clear hm4
  go_enter Try.func19, Try.ntmps19
  obtain ⟨y00, y01, y02, y03, y04, y05, y06, yf0⟩ := PS.out.cells7
  go_wp2_with fail
  clear y00 y01 y02 y03 y04 y05 y06 yf0
  have hz0 := hid (show ((w.alloc (.cells (rdc s.a s.f s.m s.ph s.bg V n c s.tr) 29)).alloc (.cells (rdc 0 0 0 0 0 none 0 0 0) 29)).heap.size = w.heap.size + 2 by simp)
  generalize (w.alloc (.cells (rdc s.a s.f s.m s.ph s.bg V n c s.tr) 29)).alloc (.cells (rdc 0 0 0 0 0 none 0 0 0) 29) = W0 at *
  refine (clone_u64 V m4 c 0 (s.vs.take 18) _ HV4.out (by omega)).mono ?_
  rintro e w1 ⟨V1, c1, rfl, ov, hb⟩
  have OV := hid (ov.mono (show w.heap.size ≤ W0.heap.size by have := hz0.out; omega))
  replace HV4 := hid (HV4.out.step hb); replace PS := hid (PS.out.step hb); replace QS := hid (QS.out.step hb); replace HB := hid (below_then HB.out hb)
  clear hb ov hmm hmm2 hmc1 hmc0 HV4 HV
  obtain ⟨y00, y01, y02, y03, y04, y05, y06, yf0⟩ := PS.out.cells7
  go_upto_region 2 with fail
  clear y00 y01 y02 y03 y04 y05 y06 yf0
  have PS0 := PS
  have hbk0 : Blk (w1.setCell ⟨w.heap.size, 5, none⟩ (.slice V1 m4 c1)) (w.heap.size) 29 #[.int .i64 s.a, .int .i64 s.f, .int .i64 s.m, .int .i64 s.ph, .int .u64 s.bg, .slice V1 m4 c1, .int .i64 s.tr] := PS.out.setCell 5 (.slice V1 m4 c1)
  have hgr : w1.grownBy (w1.setCell ⟨w.heap.size, 5, none⟩ (.slice V1 m4 c1)) (some (w.heap.size)) := (grown_set (World.grownBy.refl w1 (some (w.heap.size))) 5 (.slice V1 m4 c1))
  replace PS := hid hbk0
  clear hbk0
  generalize w1.setCell ⟨w.heap.size, 5, none⟩ (.slice V1 m4 c1) = W2 at *
  replace OV := hid (OV.out.keptG hgr (fun v hv e => OV.out.ne_blk PS0.out ts1 v hv (by simpa using e)))
  replace QS := hid (QS.out.grown hgr (by simp <;> omega))
  replace HB := hid (HB.out.grown hgr HB.out.size (fun r e => by cases e; omega))
  clear hgr PS0
  obtain ⟨y00, y01, y02, y03, y04, y05, y06, yf0⟩ := PS.out.cells7
  obtain ⟨y10, y11, y12, y13, y14, y15, y16, yf1⟩ := QS.out.cells7
  go_wp2
  clear y00 y01 y02 y03 y04 y05 y06 yf0 y10 y11 y12 y13 y14 y15 y16 yf1
  have QS0 := QS
  have hbk0 : Blk (W2.setCell ⟨w.heap.size + 1, 0, none⟩ (.int .i64 s.a)) (w.heap.size + 1) 29 #[.int .i64 s.a, .int .i64 0, .int .i64 0, .int .i64 0, .int .u64 0, .slice none 0 0, .int .i64 0] := QS.out.setCell 0 (.int .i64 s.a)
  have hbk1 : Blk ((W2.setCell ⟨w.heap.size + 1, 0, none⟩ (.int .i64 s.a)).setCell ⟨w.heap.size + 1, 1, none⟩ (.int .i64 s.f)) (w.heap.size + 1) 29 #[.int .i64 s.a, .int .i64 s.f, .int .i64 0, .int .i64 0, .int .u64 0, .slice none 0 0, .int .i64 0] := hbk0.setCell 1 (.int .i64 s.f)
  have hbk2 : Blk (((W2.setCell ⟨w.heap.size + 1, 0, none⟩ (.int .i64 s.a)).setCell ⟨w.heap.size + 1, 1, none⟩ (.int .i64 s.f)).setCell ⟨w.heap.size + 1, 2, none⟩ (.int .i64 s.m)) (w.heap.size + 1) 29 #[.int .i64 s.a, .int .i64 s.f, .int .i64 s.m, .int .i64 0, .int .u64 0, .slice none 0 0, .int .i64 0] := hbk1.setCell 2 (.int .i64 s.m)
  have hbk3 : Blk ((((W2.setCell ⟨w.heap.size + 1, 0, none⟩ (.int .i64 s.a)).setCell ⟨w.heap.size + 1, 1, none⟩ (.int .i64 s.f)).setCell ⟨w.heap.size + 1, 2, none⟩ (.int .i64 s.m)).setCell ⟨w.heap.size + 1, 3, none⟩ (.int .i64 s.ph)) (w.heap.size + 1) 29 #[.int .i64 s.a, .int .i64 s.f, .int .i64 s.m, .int .i64 s.ph, .int .u64 0, .slice none 0 0, .int .i64 0] := hbk2.setCell 3 (.int .i64 s.ph)
  have hbk4 : Blk (((((W2.setCell ⟨w.heap.size + 1, 0, none⟩ (.int .i64 s.a)).setCell ⟨w.heap.size + 1, 1, none⟩ (.int .i64 s.f)).setCell ⟨w.heap.size + 1, 2, none⟩ (.int .i64 s.m)).setCell ⟨w.heap.size + 1, 3, none⟩ (.int .i64 s.ph)).setCell ⟨w.heap.size + 1, 4, none⟩ (.int .u64 s.bg)) (w.heap.size + 1) 29 #[.int .i64 s.a, .int .i64 s.f, .int .i64 s.m, .int .i64 s.ph, .int .u64 s.bg, .slice none 0 0, .int .i64 0] := hbk3.setCell 4 (.int .u64 s.bg)
  have hbk5 : Blk ((((((W2.setCell ⟨w.heap.size + 1, 0, none⟩ (.int .i64 s.a)).setCell ⟨w.heap.size + 1, 1, none⟩ (.int .i64 s.f)).setCell ⟨w.heap.size + 1, 2, none⟩ (.int .i64 s.m)).setCell ⟨w.heap.size + 1, 3, none⟩ (.int .i64 s.ph)).setCell ⟨w.heap.size + 1, 4, none⟩ (.int .u64 s.bg)).setCell ⟨w.heap.size + 1, 5, none⟩ (.slice V1 m4 c1)) (w.heap.size + 1) 29 #[.int .i64 s.a, .int .i64 s.f, .int .i64 s.m, .int .i64 s.ph, .int .u64 s.bg, .slice V1 m4 c1, .int .i64 0] := hbk4.setCell 5 (.slice V1 m4 c1)
  have hbk6 : Blk (((((((W2.setCell ⟨w.heap.size + 1, 0, none⟩ (.int .i64 s.a)).setCell ⟨w.heap.size + 1, 1, none⟩ (.int .i64 s.f)).setCell ⟨w.heap.size + 1, 2, none⟩ (.int .i64 s.m)).setCell ⟨w.heap.size + 1, 3, none⟩ (.int .i64 s.ph)).setCell ⟨w.heap.size + 1, 4, none⟩ (.int .u64 s.bg)).setCell ⟨w.heap.size + 1, 5, none⟩ (.slice V1 m4 c1)).setCell ⟨w.heap.size + 1, 6, none⟩ (.int .i64 s.tr)) (w.heap.size + 1) 29 #[.int .i64 s.a, .int .i64 s.f, .int .i64 s.m, .int .i64 s.ph, .int .u64 s.bg, .slice V1 m4 c1, .int .i64 s.tr] := hbk5.setCell 6 (.int .i64 s.tr)
  have hgr : W2.grownBy (((((((W2.setCell ⟨w.heap.size + 1, 0, none⟩ (.int .i64 s.a)).setCell ⟨w.heap.size + 1, 1, none⟩ (.int .i64 s.f)).setCell ⟨w.heap.size + 1, 2, none⟩ (.int .i64 s.m)).setCell ⟨w.heap.size + 1, 3, none⟩ (.int .i64 s.ph)).setCell ⟨w.heap.size + 1, 4, none⟩ (.int .u64 s.bg)).setCell ⟨w.heap.size + 1, 5, none⟩ (.slice V1 m4 c1)).setCell ⟨w.heap.size + 1, 6, none⟩ (.int .i64 s.tr)) (some (w.heap.size + 1)) := (grown_set (grown_set (grown_set (grown_set (grown_set (grown_set (grown_set (World.grownBy.refl W2 (some (w.heap.size + 1))) 0 (.int .i64 s.a)) 1 (.int .i64 s.f)) 2 (.int .i64 s.m)) 3 (.int .i64 s.ph)) 4 (.int .u64 s.bg)) 5 (.slice V1 m4 c1)) 6 (.int .i64 s.tr))
  replace QS := hid hbk6
  clear hbk0 hbk1 hbk2 hbk3 hbk4 hbk5 hbk6
  generalize ((((((W2.setCell ⟨w.heap.size + 1, 0, none⟩ (.int .i64 s.a)).setCell ⟨w.heap.size + 1, 1, none⟩ (.int .i64 s.f)).setCell ⟨w.heap.size + 1, 2, none⟩ (.int .i64 s.m)).setCell ⟨w.heap.size + 1, 3, none⟩ (.int .i64 s.ph)).setCell ⟨w.heap.size + 1, 4, none⟩ (.int .u64 s.bg)).setCell ⟨w.heap.size + 1, 5, none⟩ (.slice V1 m4 c1)).setCell ⟨w.heap.size + 1, 6, none⟩ (.int .i64 s.tr) = W3 at *
  obtain ⟨q0, q1, q2, q3, q4, q5, q6, qf⟩ := QS.out.cells7
  refine bodyPost_ret (v := .agg #[.int .i64 s.a, .int .i64 s.f, .int .i64 s.m, .int .i64 s.ph, .int .u64 s.bg, .slice V1 m4 c1, .int .i64 s.tr]) (by simp [results, Try.results19, go_sem, q0, q1, q2, q3, q4, q5, q6]) rfl ⟨V1, m4, c1, rfl, ?_, ?_⟩
  · exact OV.out.keptG hgr (fun v hv e => OV.out.ne_blk QS0.out ts1 v hv (by simpa using e))
  · exact HB.out.grown hgr HB.out.size (fun r e => by cases e; omega)
set_option maxRecDepth 100000 in
set_option maxHeartbeats 4000000 in
theorem ownwrite_any (s : Swr) (V : Option Addr) (n c : Nat) (w : World) (hv : Sl u64v 0 w 0 w.heap.size V n s.vs) (hnc : n ≤ c) :
    Calls Try.prog 21 #[wrV s V n c] w (OwPost s w) := by
  have HV := hid hv; have HB := hid (Below.refl w.heap.size w)
  obtain ⟨m4, hm4⟩ : ∃ m, m = min n 18 := ⟨_, rfl⟩
  have hmm : (if (18 : Int) < (n : Int) then (18 : Int) else (n : Int)) = (m4 : Int) := by split <;> omega
  have hmm2 : min (n : Int) 18 = (m4 : Int) := by omega
  have hmc1 : (m4 : Int) ≤ (c : Int) := by omega
  have hmc0 : (0 : Int) ≤ (m4 : Int) := by omega
  have HV4 := hid (show Sl u64v 0 w 0 w.heap.size V m4 (s.vs.take 18) by
    rw [hm4]
    by_cases h18 : n ≤ 18
    · rw [show min n 18 = n by omega, List.take_of_length_le (by rw [hv.len]; exact h18)]; exact hv
    · rw [show min n 18 = 18 by omega]; exact hv.take (by omega))
  clear hv
  have bx := below_box w (.cells (wrc s.a s.f V n c s.ph s.bg s.wr) 34)
  replace HV4 := hid (HV4.out.step bx); replace HB := hid (below_then HB.out bx)
  clear bx
  have PS := hid (Blk.new w 34 (wrc s.a s.f V n c s.ph s.bg s.wr))
  have bx := below_box (w.alloc (.cells (wrc s.a s.f V n c s.ph s.bg s.wr) 34)) (.cells (wrc 0 0 none 0 0 0 0 0) 34)
  replace HV4 := hid (HV4.out.step bx); replace PS := hid (PS.out.step bx); replace HB := hid (below_then HB.out bx)
  clear bx
  have QS := hid (Blk.new2 w 34 (wrc 0 0 none 0 0 0 0 0) (.cells (wrc s.a s.f V n c s.ph s.bg s.wr) 34))
  have hm18 : m4 ≤ 18 := by omega
  clear hm4
  go_enter Try.func21, Try.ntmps21
  obtain ⟨y00, y01, y02, y03, y04, y05, yf0⟩ := PS.out.cells6
  go_wp2_with fail
  clear y00 y01 y02 y03 y04 y05 yf0
  have hz0 := hid (show ((w.alloc (.cells (wrc s.a s.f V n c s.ph s.bg s.wr) 34)).alloc (.cells (wrc 0 0 none 0 0 0 0 0) 34)).heap.size = w.heap.size + 2 by simp)
  generalize (w.alloc (.cells (wrc s.a s.f V n c s.ph s.bg s.wr) 34)).alloc (.cells (wrc 0 0 none 0 0 0 0 0) 34) = W0 at *
  refine (clone_u64 V m4 c 0 (s.vs.take 18) _ HV4.out (by omega)).mono ?_
  rintro e w1 ⟨V1, c1, rfl, ov, hb⟩
  have OV := hid (ov.mono (show w.heap.size ≤ W0.heap.size by have := hz0.out; omega))
  replace HV4 := hid (HV4.out.step hb); replace PS := hid (PS.out.step hb); replace QS := hid (QS.out.step hb); replace HB := hid (below_then HB.out hb)
  clear hb ov hmm hmm2 hmc1 hmc0 HV4 HV
  obtain ⟨y00, y01, y02, y03, y04, y05, yf0⟩ := PS.out.cells6
  go_upto_region 2 with fail
  clear y00 y01 y02 y03 y04 y05 yf0
  have PS0 := PS
  have hbk0 : Blk (w1.setCell ⟨w.heap.size, 2, none⟩ (.slice V1 m4 c1)) (w.heap.size) 34 #[.int .i64 s.a, .int .i64 s.f, .slice V1 m4 c1, .int .i64 s.ph, .int .u64 s.bg, .int .i64 s.wr] := PS.out.setCell 2 (.slice V1 m4 c1)
  have hgr : w1.grownBy (w1.setCell ⟨w.heap.size, 2, none⟩ (.slice V1 m4 c1)) (some (w.heap.size)) := (grown_set (World.grownBy.refl w1 (some (w.heap.size))) 2 (.slice V1 m4 c1))
  replace PS := hid hbk0
  clear hbk0
  generalize w1.setCell ⟨w.heap.size, 2, none⟩ (.slice V1 m4 c1) = W2 at *
  replace OV := hid (OV.out.keptG hgr (fun v hv e => OV.out.ne_blk PS0.out tq1 v hv (by simpa using e)))
  replace QS := hid (QS.out.grown hgr (by simp <;> omega))
  replace HB := hid (HB.out.grown hgr HB.out.size (fun r e => by cases e; omega))
  clear hgr PS0
  obtain ⟨y00, y01, y02, y03, y04, y05, yf0⟩ := PS.out.cells6
  obtain ⟨y10, y11, y12, y13, y14, y15, yf1⟩ := QS.out.cells6
  go_wp2
  clear y00 y01 y02 y03 y04 y05 yf0 y10 y11 y12 y13 y14 y15 yf1
  have QS0 := QS
  have hbk0 : Blk (W2.setCell ⟨w.heap.size + 1, 0, none⟩ (.int .i64 s.a)) (w.heap.size + 1) 34 #[.int .i64 s.a, .int .i64 0, .slice none 0 0, .int .i64 0, .int .u64 0, .int .i64 0] := QS.out.setCell 0 (.int .i64 s.a)
  have hbk1 : Blk ((W2.setCell ⟨w.heap.size + 1, 0, none⟩ (.int .i64 s.a)).setCell ⟨w.heap.size + 1, 1, none⟩ (.int .i64 s.f)) (w.heap.size + 1) 34 #[.int .i64 s.a, .int .i64 s.f, .slice none 0 0, .int .i64 0, .int .u64 0, .int .i64 0] := hbk0.setCell 1 (.int .i64 s.f)
  have hbk2 : Blk (((W2.setCell ⟨w.heap.size + 1, 0, none⟩ (.int .i64 s.a)).setCell ⟨w.heap.size + 1, 1, none⟩ (.int .i64 s.f)).setCell ⟨w.heap.size + 1, 2, none⟩ (.slice V1 m4 c1)) (w.heap.size + 1) 34 #[.int .i64 s.a, .int .i64 s.f, .slice V1 m4 c1, .int .i64 0, .int .u64 0, .int .i64 0] := hbk1.setCell 2 (.slice V1 m4 c1)
  have hbk3 : Blk ((((W2.setCell ⟨w.heap.size + 1, 0, none⟩ (.int .i64 s.a)).setCell ⟨w.heap.size + 1, 1, none⟩ (.int .i64 s.f)).setCell ⟨w.heap.size + 1, 2, none⟩ (.slice V1 m4 c1)).setCell ⟨w.heap.size + 1, 3, none⟩ (.int .i64 s.ph)) (w.heap.size + 1) 34 #[.int .i64 s.a, .int .i64 s.f, .slice V1 m4 c1, .int .i64 s.ph, .int .u64 0, .int .i64 0] := hbk2.setCell 3 (.int .i64 s.ph)
  have hbk4 : Blk (((((W2.setCell ⟨w.heap.size + 1, 0, none⟩ (.int .i64 s.a)).setCell ⟨w.heap.size + 1, 1, none⟩ (.int .i64 s.f)).setCell ⟨w.heap.size + 1, 2, none⟩ (.slice V1 m4 c1)).setCell ⟨w.heap.size + 1, 3, none⟩ (.int .i64 s.ph)).setCell ⟨w.heap.size + 1, 4, none⟩ (.int .u64 s.bg)) (w.heap.size + 1) 34 #[.int .i64 s.a, .int .i64 s.f, .slice V1 m4 c1, .int .i64 s.ph, .int .u64 s.bg, .int .i64 0] := hbk3.setCell 4 (.int .u64 s.bg)
  have hbk5 : Blk ((((((W2.setCell ⟨w.heap.size + 1, 0, none⟩ (.int .i64 s.a)).setCell ⟨w.heap.size + 1, 1, none⟩ (.int .i64 s.f)).setCell ⟨w.heap.size + 1, 2, none⟩ (.slice V1 m4 c1)).setCell ⟨w.heap.size + 1, 3, none⟩ (.int .i64 s.ph)).setCell ⟨w.heap.size + 1, 4, none⟩ (.int .u64 s.bg)).setCell ⟨w.heap.size + 1, 5, none⟩ (.int .i64 s.wr)) (w.heap.size + 1) 34 #[.int .i64 s.a, .int .i64 s.f, .slice V1 m4 c1, .int .i64 s.ph, .int .u64 s.bg, .int .i64 s.wr] := hbk4.setCell 5 (.int .i64 s.wr)
  have hgr : W2.grownBy ((((((W2.setCell ⟨w.heap.size + 1, 0, none⟩ (.int .i64 s.a)).setCell ⟨w.heap.size + 1, 1, none⟩ (.int .i64 s.f)).setCell ⟨w.heap.size + 1, 2, none⟩ (.slice V1 m4 c1)).setCell ⟨w.heap.size + 1, 3, none⟩ (.int .i64 s.ph)).setCell ⟨w.heap.size + 1, 4, none⟩ (.int .u64 s.bg)).setCell ⟨w.heap.size + 1, 5, none⟩ (.int .i64 s.wr)) (some (w.heap.size + 1)) := (grown_set (grown_set (grown_set (grown_set (grown_set (grown_set (World.grownBy.refl W2 (some (w.heap.size + 1))) 0 (.int .i64 s.a)) 1 (.int .i64 s.f)) 2 (.slice V1 m4 c1)) 3 (.int .i64 s.ph)) 4 (.int .u64 s.bg)) 5 (.int .i64 s.wr))
  replace QS := hid hbk5
  clear hbk0 hbk1 hbk2 hbk3 hbk4 hbk5
  generalize (((((W2.setCell ⟨w.heap.size + 1, 0, none⟩ (.int .i64 s.a)).setCell ⟨w.heap.size + 1, 1, none⟩ (.int .i64 s.f)).setCell ⟨w.heap.size + 1, 2, none⟩ (.slice V1 m4 c1)).setCell ⟨w.heap.size + 1, 3, none⟩ (.int .i64 s.ph)).setCell ⟨w.heap.size + 1, 4, none⟩ (.int .u64 s.bg)).setCell ⟨w.heap.size + 1, 5, none⟩ (.int .i64 s.wr) = W3 at *
  obtain ⟨q0, q1, q2, q3, q4, q5, qf⟩ := QS.out.cells6
  refine bodyPost_ret (v := .agg #[.int .i64 s.a, .int .i64 s.f, .slice V1 m4 c1, .int .i64 s.ph, .int .u64 s.bg, .int .i64 s.wr]) (by simp [results, Try.results21, go_sem, q0, q1, q2, q3, q4, q5]) rfl ⟨V1, m4, c1, rfl, ?_, ?_⟩
  · exact OV.out.keptG hgr (fun v hv e => OV.out.ne_blk QS0.out tq1 v hv (by simpa using e))
  · exact HB.out.grown hgr HB.out.size (fun r e => by cases e; omega)
end Go.Proofs.Ytnkaajkdjbdpaaa
