/- afterglowlaw06.SeqBegins returns true at every numbers, and values, and turns nothing old. No condition but the sizes of memory. -/
import Derived.Test.YtnkaajkdjbdpaaaSq18
namespace Go.Proofs.Ytnkaajkdjbdpaaa
open Go.RowKit
set_option maxRecDepth 100000 in
set_option maxHeartbeats 8000000 in
theorem sqbegins_any (r0 r1 r2 u0 u1 : Int) (V : Option Addr) (n c : Nat) (vs : List Int) (w : World) (hv : Sl u64v 0 w 0 w.heap.size V n vs) (hnc : n ≤ c) :
    Calls Try.prog 3 #[.agg #[.int .i64 r0, .int .i64 r1, .int .i64 r2], .agg #[.int .i64 u0, .int .i64 u1], .slice V n c] w fun e w' => e = .returned (.bool true) ∧ Below w.heap.size w w' := by
  have HB := hid (Below.refl w.heap.size w)
  obtain ⟨m4, hm4⟩ : ∃ m, m = min n 18 := ⟨_, rfl⟩
  obtain ⟨ws, hws⟩ : ∃ l, l = vs.take 18 := ⟨_, rfl⟩
  have hmm : (if (18 : Int) < (n : Int) then (18 : Int) else (n : Int)) = (m4 : Int) := by split <;> omega
  have hmm2 : min (n : Int) 18 = (m4 : Int) := by omega
  have hmc1 : (m4 : Int) ≤ (c : Int) := by omega
  have hmc0 : (0 : Int) ≤ (m4 : Int) := by omega
  have HV := hid (show Sl u64v 0 w 0 w.heap.size V m4 ws by
    rw [hm4, hws]
    by_cases h18 : n ≤ 18
    · rw [show min n 18 = n by omega, List.take_of_length_le (by rw [hv.len]; exact h18)]; exact hv
    · rw [show min n 18 = 18 by omega]; exact hv.take (by omega))
  have hm18 : m4 ≤ 18 := by omega
  clear hv hm4 hws
  have bx := below_box w (.cells #[.int .i64 r0, .int .i64 r1, .int .i64 r2] 22)
  replace HV := hid (HV.out.step bx); replace HB := hid (below_then HB.out bx)
  clear bx
  have PA := hid (Blk.new w 22 #[.int .i64 r0, .int .i64 r1, .int .i64 r2])
  have bx := below_box (w.alloc (.cells #[.int .i64 r0, .int .i64 r1, .int .i64 r2] 22)) (.cells #[.int .i64 u0, .int .i64 u1] 23)
  replace HV := hid (HV.out.step bx); replace PA := hid (PA.out.step bx); replace HB := hid (below_then HB.out bx)
  clear bx
  have PB := hid (Blk.new2 w 23 #[.int .i64 u0, .int .i64 u1] (.cells #[.int .i64 r0, .int .i64 r1, .int .i64 r2] 22))
  go_enter Try.func3, Try.ntmps3
  go_wp2_with fail
  generalize (w.alloc (.cells #[.int .i64 r0, .int .i64 r1, .int .i64 r2] 22)).alloc (.cells #[.int .i64 u0, .int .i64 u1] 23) = W0 at *
  refine (sqwakes_any W0).mono ?_
  rintro e w1 ⟨rfl, hb⟩
  replace HV := hid (HV.out.step hb); replace PA := hid (PA.out.step hb); replace PB := hid (PB.out.step hb); replace HB := hid (below_then HB.out hb)
  clear hb
  go_wp2_with fail
  refine (clone_u64 V m4 c 0 ws _ HV.out (by omega)).mono ?_
  rintro e w2 ⟨V2, c2, rfl, ov, hb⟩
  have OV := hid ov
  clear ov hmm hmm2 hmc1 hmc0
  replace HV := hid (HV.out.step hb); replace PA := hid (PA.out.step hb); replace PB := hid (PB.out.step hb); replace HB := hid (below_then HB.out hb)
  clear hb HV
  obtain ⟨y00, y01, y02, yf0⟩ := PA.out.cells3
  go_wp2_with fail
  clear y00 y01 y02 yf0
  by_cases hr : 0 ≤ r2 ∧ SqG r0 r1 r2
  · skip
    by_cases hw : 1 ≤ (m4 : Int) ∧ SqG u0 u1 m4
    · skip
      refine (sread_any r0 r1 r2 _).mono ?_
      rw [decide_eq_true hr]
      rintro e w3 ⟨rfl, hb⟩
      dsimp only [if_true, if_false, Bool.false_eq_true]
      replace PA := hid (PA.out.step hb); replace PB := hid (PB.out.step hb); replace OV := hid (OV.out.step hb); replace HB := hid (below_then HB.out hb)
      clear hb
      have bx := below_box w3 (.cells (rdc r0 r1 r2 0 0 none 0 0 0) 29)
      replace PA := hid (PA.out.step bx); replace PB := hid (PB.out.step bx); replace OV := hid (OV.out.step bx); replace HB := hid (below_then HB.out bx)
      clear bx
      have QR := hid (Blk.new w3 29 (rdc r0 r1 r2 0 0 none 0 0 0))
      go_upto_region 5 with fail
      generalize w3.alloc (.cells (rdc r0 r1 r2 0 0 none 0 0 0) 29) = W4 at *
      obtain ⟨y00, y01, yf0⟩ := PB.out.cells2
      go_wp2_with fail
      clear y00 y01 yf0
      refine (swrite_any u0 u1 V2 m4 c2 ws _ (OV.out.sl.mono (Nat.zero_le _) (Nat.le_refl _)) (by omega)).mono ?_
      rw [decide_eq_true hw]
      rintro e w5 ⟨V5, c5, rfl, ov, hb⟩
      dsimp only [if_true, if_false, Bool.false_eq_true]
      replace PA := hid (PA.out.step hb); replace PB := hid (PB.out.step hb); replace OV := hid (OV.out.step hb); replace QR := hid (QR.out.step hb); replace HB := hid (below_then HB.out hb)
      clear hb
      have OV5 := hid (ov rfl)
      clear ov
      have bx := below_box w5 (.cells (wrc u0 u1 V5 m4 c5 0 0 0) 34)
      replace PA := hid (PA.out.step bx); replace PB := hid (PB.out.step bx); replace OV := hid (OV.out.step bx); replace QR := hid (QR.out.step bx); replace OV5 := hid (OV5.out.step bx); replace HB := hid (below_then HB.out bx)
      clear bx
      have QW := hid (Blk.new w5 34 (wrc u0 u1 V5 m4 c5 0 0 0))
      go_upto_region 6 with fail
      generalize w5.alloc (.cells (wrc u0 u1 V5 m4 c5 0 0 0) 34) = W6 at *
      have bx := below_box W6 (.cells (rdc 0 0 0 0 0 none 0 0 0) 29)
      obtain ⟨y0, y1, y2, yf⟩ := (PA.out.step bx).cells3
      go_wp2_with fail
      clear bx y0 y1 y2 yf
      refine (rread_any r0 r1 r2 _).mono ?_
      rintro e w' ⟨rfl, rfl⟩
      rw [decide_eq_true hr]
      have bx := below_box W6 (.cells (rdc 0 0 0 0 0 none 0 0 0) 29)
      obtain ⟨y0, y1, y2, yf⟩ := (PA.out.step bx).cells3
      go_upto_region 9 with fail
      clear bx y0 y1 y2 yf
      have bx := below_box W6 (.cells (rdc r0 r1 r2 0 0 none 0 0 0) 29)
      replace PA := hid (PA.out.step bx); replace PB := hid (PB.out.step bx); replace OV := hid (OV.out.step bx); replace QR := hid (QR.out.step bx); replace OV5 := hid (OV5.out.step bx); replace QW := hid (QW.out.step bx); replace HB := hid (below_then HB.out bx)
      clear bx
      have QA := hid (Blk.new W6 29 (rdc r0 r1 r2 0 0 none 0 0 0))
      generalize W6.alloc (.cells (rdc r0 r1 r2 0 0 none 0 0 0) 29) = W7 at *
      have bx := below_box W7 (.cells (wrc 0 0 none 0 0 0 0 0) 34)
      obtain ⟨y0, y1, yf⟩ := (PB.out.step bx).cells2
      go_wp2_with fail
      clear bx y0 y1 yf
      refine (rwrite_any u0 u1 V2 m4 c2 _ (by omega)).mono ?_
      rintro e w' ⟨rfl, rfl⟩
      rw [decide_eq_true hw]
      have bx := below_box W7 (.cells (wrc 0 0 none 0 0 0 0 0) 34)
      obtain ⟨y0, y1, yf⟩ := (PB.out.step bx).cells2
      go_upto_region 12 with fail
      clear bx y0 y1 yf
      have bx := below_box W7 (.cells (wrc u0 u1 V2 m4 c2 0 0 0) 34)
      replace PA := hid (PA.out.step bx); replace PB := hid (PB.out.step bx); replace OV := hid (OV.out.step bx); replace QR := hid (QR.out.step bx); replace OV5 := hid (OV5.out.step bx); replace QW := hid (QW.out.step bx); replace QA := hid (QA.out.step bx); replace HB := hid (below_then HB.out bx)
      clear bx
      have QB := hid (Blk.new W7 34 (wrc u0 u1 V2 m4 c2 0 0 0))
      generalize W7.alloc (.cells (wrc u0 u1 V2 m4 c2 0 0 0) 34) = W8 at *
      obtain ⟨y00, y01, y02, y03, y04, y05, y06, yf0⟩ := QR.out.cells7
      obtain ⟨y10, y11, y12, y13, y14, y15, y16, yf1⟩ := QA.out.cells7
      go_wp2_with fail
      clear y00 y01 y02 y03 y04 y05 y06 yf0 y10 y11 y12 y13 y14 y15 y16 yf1
      have hsr := sameread_any ⟨r0, r1, r2, 0, 0, [], 0⟩ ⟨r0, r1, r2, 0, 0, [], 0⟩ none 0 0 none 0 0 _ (Sl.nil W8 _ _ _) (Sl.nil W8 _ _ _) (by omega)
      rw [decide_eq_true rfl] at hsr
      refine hsr.mono ?_
      rintro e w9 ⟨rfl, hb⟩
      replace PA := hid (PA.out.step hb); replace PB := hid (PB.out.step hb); replace OV := hid (OV.out.step hb); replace QR := hid (QR.out.step hb); replace OV5 := hid (OV5.out.step hb); replace QW := hid (QW.out.step hb); replace QA := hid (QA.out.step hb); replace QB := hid (QB.out.step hb); replace HB := hid (below_then HB.out hb)
      clear hb hsr
      obtain ⟨y00, y01, y02, y03, y04, y05, yf0⟩ := QW.out.cells6
      obtain ⟨y10, y11, y12, y13, y14, y15, yf1⟩ := QB.out.cells6
      go_wp2_with fail
      clear y00 y01 y02 y03 y04 y05 yf0 y10 y11 y12 y13 y14 y15 yf1
      have hsw := samewrite_any ⟨u0, u1, ws, 0, 0, 0⟩ ⟨u0, u1, ws, 0, 0, 0⟩ V5 m4 c5 V2 m4 c2 _ (OV5.out.sl.mono (Nat.zero_le _) (Nat.le_refl _)) (OV.out.sl.mono (Nat.zero_le _) (Nat.le_refl _)) (by omega)
      rw [decide_eq_true rfl] at hsw
      refine hsw.mono ?_
      rintro e w10 ⟨rfl, hb⟩
      replace PA := hid (PA.out.step hb); replace PB := hid (PB.out.step hb); replace OV := hid (OV.out.step hb); replace QR := hid (QR.out.step hb); replace OV5 := hid (OV5.out.step hb); replace QW := hid (QW.out.step hb); replace QA := hid (QA.out.step hb); replace QB := hid (QB.out.step hb); replace HB := hid (below_then HB.out hb)
      clear hb hsw
      go_wp2
      go_ret
      exact ⟨rfl, HB.out⟩
    · skip
      refine (sread_any r0 r1 r2 _).mono ?_
      rw [decide_eq_true hr]
      rintro e w3 ⟨rfl, hb⟩
      dsimp only [if_true, if_false, Bool.false_eq_true]
      replace PA := hid (PA.out.step hb); replace PB := hid (PB.out.step hb); replace OV := hid (OV.out.step hb); replace HB := hid (below_then HB.out hb)
      clear hb
      have bx := below_box w3 (.cells (rdc r0 r1 r2 0 0 none 0 0 0) 29)
      replace PA := hid (PA.out.step bx); replace PB := hid (PB.out.step bx); replace OV := hid (OV.out.step bx); replace HB := hid (below_then HB.out bx)
      clear bx
      have QR := hid (Blk.new w3 29 (rdc r0 r1 r2 0 0 none 0 0 0))
      go_upto_region 5 with fail
      generalize w3.alloc (.cells (rdc r0 r1 r2 0 0 none 0 0 0) 29) = W4 at *
      obtain ⟨y00, y01, yf0⟩ := PB.out.cells2
      go_wp2_with fail
      clear y00 y01 yf0
      refine (swrite_any u0 u1 V2 m4 c2 ws _ (OV.out.sl.mono (Nat.zero_le _) (Nat.le_refl _)) (by omega)).mono ?_
      rw [decide_eq_false hw]
      rintro e w5 ⟨V5, c5, rfl, ov, hb⟩
      dsimp only [if_true, if_false, Bool.false_eq_true]
      replace PA := hid (PA.out.step hb); replace PB := hid (PB.out.step hb); replace OV := hid (OV.out.step hb); replace QR := hid (QR.out.step hb); replace HB := hid (below_then HB.out hb)
      clear hb
      clear ov
      have bx := below_box w5 (.cells (wrc 0 0 none 0 0 0 0 0) 34)
      replace PA := hid (PA.out.step bx); replace PB := hid (PB.out.step bx); replace OV := hid (OV.out.step bx); replace QR := hid (QR.out.step bx); replace HB := hid (below_then HB.out bx)
      clear bx
      have QW := hid (Blk.new w5 34 (wrc 0 0 none 0 0 0 0 0))
      go_upto_region 6 with fail
      generalize w5.alloc (.cells (wrc 0 0 none 0 0 0 0 0) 34) = W6 at *
      have bx := below_box W6 (.cells (rdc 0 0 0 0 0 none 0 0 0) 29)
      obtain ⟨y0, y1, y2, yf⟩ := (PA.out.step bx).cells3
      go_wp2_with fail
      clear bx y0 y1 y2 yf
      refine (rread_any r0 r1 r2 _).mono ?_
      rintro e w' ⟨rfl, rfl⟩
      rw [decide_eq_true hr]
      have bx := below_box W6 (.cells (rdc 0 0 0 0 0 none 0 0 0) 29)
      obtain ⟨y0, y1, y2, yf⟩ := (PA.out.step bx).cells3
      go_upto_region 9 with fail
      clear bx y0 y1 y2 yf
      have bx := below_box W6 (.cells (rdc r0 r1 r2 0 0 none 0 0 0) 29)
      replace PA := hid (PA.out.step bx); replace PB := hid (PB.out.step bx); replace OV := hid (OV.out.step bx); replace QR := hid (QR.out.step bx); replace QW := hid (QW.out.step bx); replace HB := hid (below_then HB.out bx)
      clear bx
      have QA := hid (Blk.new W6 29 (rdc r0 r1 r2 0 0 none 0 0 0))
      generalize W6.alloc (.cells (rdc r0 r1 r2 0 0 none 0 0 0) 29) = W7 at *
      have bx := below_box W7 (.cells (wrc 0 0 none 0 0 0 0 0) 34)
      obtain ⟨y0, y1, yf⟩ := (PB.out.step bx).cells2
      go_wp2_with fail
      clear bx y0 y1 yf
      refine (rwrite_any u0 u1 V2 m4 c2 _ (by omega)).mono ?_
      rintro e w' ⟨rfl, rfl⟩
      rw [decide_eq_false hw]
      have bx := below_box W7 (.cells (wrc 0 0 none 0 0 0 0 0) 34)
      obtain ⟨y0, y1, yf⟩ := (PB.out.step bx).cells2
      go_upto_region 12 with fail
      clear bx y0 y1 yf
      have bx := below_box W7 (.cells (wrc 0 0 none 0 0 0 0 0) 34)
      replace PA := hid (PA.out.step bx); replace PB := hid (PB.out.step bx); replace OV := hid (OV.out.step bx); replace QR := hid (QR.out.step bx); replace QW := hid (QW.out.step bx); replace QA := hid (QA.out.step bx); replace HB := hid (below_then HB.out bx)
      clear bx
      have QB := hid (Blk.new W7 34 (wrc 0 0 none 0 0 0 0 0))
      generalize W7.alloc (.cells (wrc 0 0 none 0 0 0 0 0) 34) = W8 at *
      obtain ⟨y00, y01, y02, y03, y04, y05, y06, yf0⟩ := QR.out.cells7
      obtain ⟨y10, y11, y12, y13, y14, y15, y16, yf1⟩ := QA.out.cells7
      go_wp2_with fail
      clear y00 y01 y02 y03 y04 y05 y06 yf0 y10 y11 y12 y13 y14 y15 y16 yf1
      have hsr := sameread_any ⟨r0, r1, r2, 0, 0, [], 0⟩ ⟨r0, r1, r2, 0, 0, [], 0⟩ none 0 0 none 0 0 _ (Sl.nil W8 _ _ _) (Sl.nil W8 _ _ _) (by omega)
      rw [decide_eq_true rfl] at hsr
      refine hsr.mono ?_
      rintro e w9 ⟨rfl, hb⟩
      replace PA := hid (PA.out.step hb); replace PB := hid (PB.out.step hb); replace OV := hid (OV.out.step hb); replace QR := hid (QR.out.step hb); replace QW := hid (QW.out.step hb); replace QA := hid (QA.out.step hb); replace QB := hid (QB.out.step hb); replace HB := hid (below_then HB.out hb)
      clear hb hsr
      obtain ⟨y00, y01, y02, y03, y04, y05, yf0⟩ := QW.out.cells6
      obtain ⟨y10, y11, y12, y13, y14, y15, yf1⟩ := QB.out.cells6
      go_wp2_with fail
      clear y00 y01 y02 y03 y04 y05 yf0 y10 y11 y12 y13 y14 y15 yf1
      have hsw := samewrite_any ⟨0, 0, [], 0, 0, 0⟩ ⟨0, 0, [], 0, 0, 0⟩ none 0 0 none 0 0 _ (Sl.nil w9 _ _ _) (Sl.nil w9 _ _ _) (by omega)
      rw [decide_eq_true rfl] at hsw
      refine hsw.mono ?_
      rintro e w10 ⟨rfl, hb⟩
      replace PA := hid (PA.out.step hb); replace PB := hid (PB.out.step hb); replace OV := hid (OV.out.step hb); replace QR := hid (QR.out.step hb); replace QW := hid (QW.out.step hb); replace QA := hid (QA.out.step hb); replace QB := hid (QB.out.step hb); replace HB := hid (below_then HB.out hb)
      clear hb hsw
      go_wp2
      go_ret
      exact ⟨rfl, HB.out⟩
  · skip
    by_cases hw : 1 ≤ (m4 : Int) ∧ SqG u0 u1 m4
    · skip
      refine (sread_any r0 r1 r2 _).mono ?_
      rw [decide_eq_false hr]
      rintro e w3 ⟨rfl, hb⟩
      dsimp only [if_true, if_false, Bool.false_eq_true]
      replace PA := hid (PA.out.step hb); replace PB := hid (PB.out.step hb); replace OV := hid (OV.out.step hb); replace HB := hid (below_then HB.out hb)
      clear hb
      have bx := below_box w3 (.cells (rdc 0 0 0 0 0 none 0 0 0) 29)
      replace PA := hid (PA.out.step bx); replace PB := hid (PB.out.step bx); replace OV := hid (OV.out.step bx); replace HB := hid (below_then HB.out bx)
      clear bx
      have QR := hid (Blk.new w3 29 (rdc 0 0 0 0 0 none 0 0 0))
      go_upto_region 5 with fail
      generalize w3.alloc (.cells (rdc 0 0 0 0 0 none 0 0 0) 29) = W4 at *
      obtain ⟨y00, y01, yf0⟩ := PB.out.cells2
      go_wp2_with fail
      clear y00 y01 yf0
      refine (swrite_any u0 u1 V2 m4 c2 ws _ (OV.out.sl.mono (Nat.zero_le _) (Nat.le_refl _)) (by omega)).mono ?_
      rw [decide_eq_true hw]
      rintro e w5 ⟨V5, c5, rfl, ov, hb⟩
      dsimp only [if_true, if_false, Bool.false_eq_true]
      replace PA := hid (PA.out.step hb); replace PB := hid (PB.out.step hb); replace OV := hid (OV.out.step hb); replace QR := hid (QR.out.step hb); replace HB := hid (below_then HB.out hb)
      clear hb
      have OV5 := hid (ov rfl)
      clear ov
      have bx := below_box w5 (.cells (wrc u0 u1 V5 m4 c5 0 0 0) 34)
      replace PA := hid (PA.out.step bx); replace PB := hid (PB.out.step bx); replace OV := hid (OV.out.step bx); replace QR := hid (QR.out.step bx); replace OV5 := hid (OV5.out.step bx); replace HB := hid (below_then HB.out bx)
      clear bx
      have QW := hid (Blk.new w5 34 (wrc u0 u1 V5 m4 c5 0 0 0))
      go_upto_region 6 with fail
      generalize w5.alloc (.cells (wrc u0 u1 V5 m4 c5 0 0 0) 34) = W6 at *
      have bx := below_box W6 (.cells (rdc 0 0 0 0 0 none 0 0 0) 29)
      obtain ⟨y0, y1, y2, yf⟩ := (PA.out.step bx).cells3
      go_wp2_with fail
      clear bx y0 y1 y2 yf
      refine (rread_any r0 r1 r2 _).mono ?_
      rintro e w' ⟨rfl, rfl⟩
      rw [decide_eq_false hr]
      have bx := below_box W6 (.cells (rdc 0 0 0 0 0 none 0 0 0) 29)
      obtain ⟨y0, y1, y2, yf⟩ := (PA.out.step bx).cells3
      go_upto_region 9 with fail
      clear bx y0 y1 y2 yf
      have bx := below_box W6 (.cells (rdc 0 0 0 0 0 none 0 0 0) 29)
      replace PA := hid (PA.out.step bx); replace PB := hid (PB.out.step bx); replace OV := hid (OV.out.step bx); replace QR := hid (QR.out.step bx); replace OV5 := hid (OV5.out.step bx); replace QW := hid (QW.out.step bx); replace HB := hid (below_then HB.out bx)
      clear bx
      have QA := hid (Blk.new W6 29 (rdc 0 0 0 0 0 none 0 0 0))
      generalize W6.alloc (.cells (rdc 0 0 0 0 0 none 0 0 0) 29) = W7 at *
      have bx := below_box W7 (.cells (wrc 0 0 none 0 0 0 0 0) 34)
      obtain ⟨y0, y1, yf⟩ := (PB.out.step bx).cells2
      go_wp2_with fail
      clear bx y0 y1 yf
      refine (rwrite_any u0 u1 V2 m4 c2 _ (by omega)).mono ?_
      rintro e w' ⟨rfl, rfl⟩
      rw [decide_eq_true hw]
      have bx := below_box W7 (.cells (wrc 0 0 none 0 0 0 0 0) 34)
      obtain ⟨y0, y1, yf⟩ := (PB.out.step bx).cells2
      go_upto_region 12 with fail
      clear bx y0 y1 yf
      have bx := below_box W7 (.cells (wrc u0 u1 V2 m4 c2 0 0 0) 34)
      replace PA := hid (PA.out.step bx); replace PB := hid (PB.out.step bx); replace OV := hid (OV.out.step bx); replace QR := hid (QR.out.step bx); replace OV5 := hid (OV5.out.step bx); replace QW := hid (QW.out.step bx); replace QA := hid (QA.out.step bx); replace HB := hid (below_then HB.out bx)
      clear bx
      have QB := hid (Blk.new W7 34 (wrc u0 u1 V2 m4 c2 0 0 0))
      generalize W7.alloc (.cells (wrc u0 u1 V2 m4 c2 0 0 0) 34) = W8 at *
      obtain ⟨y00, y01, y02, y03, y04, y05, y06, yf0⟩ := QR.out.cells7
      obtain ⟨y10, y11, y12, y13, y14, y15, y16, yf1⟩ := QA.out.cells7
      go_wp2_with fail
      clear y00 y01 y02 y03 y04 y05 y06 yf0 y10 y11 y12 y13 y14 y15 y16 yf1
      have hsr := sameread_any ⟨0, 0, 0, 0, 0, [], 0⟩ ⟨0, 0, 0, 0, 0, [], 0⟩ none 0 0 none 0 0 _ (Sl.nil W8 _ _ _) (Sl.nil W8 _ _ _) (by omega)
      rw [decide_eq_true rfl] at hsr
      refine hsr.mono ?_
      rintro e w9 ⟨rfl, hb⟩
      replace PA := hid (PA.out.step hb); replace PB := hid (PB.out.step hb); replace OV := hid (OV.out.step hb); replace QR := hid (QR.out.step hb); replace OV5 := hid (OV5.out.step hb); replace QW := hid (QW.out.step hb); replace QA := hid (QA.out.step hb); replace QB := hid (QB.out.step hb); replace HB := hid (below_then HB.out hb)
      clear hb hsr
      obtain ⟨y00, y01, y02, y03, y04, y05, yf0⟩ := QW.out.cells6
      obtain ⟨y10, y11, y12, y13, y14, y15, yf1⟩ := QB.out.cells6
      go_wp2_with fail
      clear y00 y01 y02 y03 y04 y05 yf0 y10 y11 y12 y13 y14 y15 yf1
      have hsw := samewrite_any ⟨u0, u1, ws, 0, 0, 0⟩ ⟨u0, u1, ws, 0, 0, 0⟩ V5 m4 c5 V2 m4 c2 _ (OV5.out.sl.mono (Nat.zero_le _) (Nat.le_refl _)) (OV.out.sl.mono (Nat.zero_le _) (Nat.le_refl _)) (by omega)
      rw [decide_eq_true rfl] at hsw
      refine hsw.mono ?_
      rintro e w10 ⟨rfl, hb⟩
      replace PA := hid (PA.out.step hb); replace PB := hid (PB.out.step hb); replace OV := hid (OV.out.step hb); replace QR := hid (QR.out.step hb); replace OV5 := hid (OV5.out.step hb); replace QW := hid (QW.out.step hb); replace QA := hid (QA.out.step hb); replace QB := hid (QB.out.step hb); replace HB := hid (below_then HB.out hb)
      clear hb hsw
      go_wp2
      go_ret
      exact ⟨rfl, HB.out⟩
    · skip
      refine (sread_any r0 r1 r2 _).mono ?_
      rw [decide_eq_false hr]
      rintro e w3 ⟨rfl, hb⟩
      dsimp only [if_true, if_false, Bool.false_eq_true]
      replace PA := hid (PA.out.step hb); replace PB := hid (PB.out.step hb); replace OV := hid (OV.out.step hb); replace HB := hid (below_then HB.out hb)
      clear hb
      have bx := below_box w3 (.cells (rdc 0 0 0 0 0 none 0 0 0) 29)
      replace PA := hid (PA.out.step bx); replace PB := hid (PB.out.step bx); replace OV := hid (OV.out.step bx); replace HB := hid (below_then HB.out bx)
      clear bx
      have QR := hid (Blk.new w3 29 (rdc 0 0 0 0 0 none 0 0 0))
      go_upto_region 5 with fail
      generalize w3.alloc (.cells (rdc 0 0 0 0 0 none 0 0 0) 29) = W4 at *
      obtain ⟨y00, y01, yf0⟩ := PB.out.cells2
      go_wp2_with fail
      clear y00 y01 yf0
      refine (swrite_any u0 u1 V2 m4 c2 ws _ (OV.out.sl.mono (Nat.zero_le _) (Nat.le_refl _)) (by omega)).mono ?_
      rw [decide_eq_false hw]
      rintro e w5 ⟨V5, c5, rfl, ov, hb⟩
      dsimp only [if_true, if_false, Bool.false_eq_true]
      replace PA := hid (PA.out.step hb); replace PB := hid (PB.out.step hb); replace OV := hid (OV.out.step hb); replace QR := hid (QR.out.step hb); replace HB := hid (below_then HB.out hb)
      clear hb
      clear ov
      have bx := below_box w5 (.cells (wrc 0 0 none 0 0 0 0 0) 34)
      replace PA := hid (PA.out.step bx); replace PB := hid (PB.out.step bx); replace OV := hid (OV.out.step bx); replace QR := hid (QR.out.step bx); replace HB := hid (below_then HB.out bx)
      clear bx
      have QW := hid (Blk.new w5 34 (wrc 0 0 none 0 0 0 0 0))
      go_upto_region 6 with fail
      generalize w5.alloc (.cells (wrc 0 0 none 0 0 0 0 0) 34) = W6 at *
      have bx := below_box W6 (.cells (rdc 0 0 0 0 0 none 0 0 0) 29)
      obtain ⟨y0, y1, y2, yf⟩ := (PA.out.step bx).cells3
      go_wp2_with fail
      clear bx y0 y1 y2 yf
      refine (rread_any r0 r1 r2 _).mono ?_
      rintro e w' ⟨rfl, rfl⟩
      rw [decide_eq_false hr]
      have bx := below_box W6 (.cells (rdc 0 0 0 0 0 none 0 0 0) 29)
      obtain ⟨y0, y1, y2, yf⟩ := (PA.out.step bx).cells3
      go_upto_region 9 with fail
      clear bx y0 y1 y2 yf
      have bx := below_box W6 (.cells (rdc 0 0 0 0 0 none 0 0 0) 29)
      replace PA := hid (PA.out.step bx); replace PB := hid (PB.out.step bx); replace OV := hid (OV.out.step bx); replace QR := hid (QR.out.step bx); replace QW := hid (QW.out.step bx); replace HB := hid (below_then HB.out bx)
      clear bx
      have QA := hid (Blk.new W6 29 (rdc 0 0 0 0 0 none 0 0 0))
      generalize W6.alloc (.cells (rdc 0 0 0 0 0 none 0 0 0) 29) = W7 at *
      have bx := below_box W7 (.cells (wrc 0 0 none 0 0 0 0 0) 34)
      obtain ⟨y0, y1, yf⟩ := (PB.out.step bx).cells2
      go_wp2_with fail
      clear bx y0 y1 yf
      refine (rwrite_any u0 u1 V2 m4 c2 _ (by omega)).mono ?_
      rintro e w' ⟨rfl, rfl⟩
      rw [decide_eq_false hw]
      have bx := below_box W7 (.cells (wrc 0 0 none 0 0 0 0 0) 34)
      obtain ⟨y0, y1, yf⟩ := (PB.out.step bx).cells2
      go_upto_region 12 with fail
      clear bx y0 y1 yf
      have bx := below_box W7 (.cells (wrc 0 0 none 0 0 0 0 0) 34)
      replace PA := hid (PA.out.step bx); replace PB := hid (PB.out.step bx); replace OV := hid (OV.out.step bx); replace QR := hid (QR.out.step bx); replace QW := hid (QW.out.step bx); replace QA := hid (QA.out.step bx); replace HB := hid (below_then HB.out bx)
      clear bx
      have QB := hid (Blk.new W7 34 (wrc 0 0 none 0 0 0 0 0))
      generalize W7.alloc (.cells (wrc 0 0 none 0 0 0 0 0) 34) = W8 at *
      obtain ⟨y00, y01, y02, y03, y04, y05, y06, yf0⟩ := QR.out.cells7
      obtain ⟨y10, y11, y12, y13, y14, y15, y16, yf1⟩ := QA.out.cells7
      go_wp2_with fail
      clear y00 y01 y02 y03 y04 y05 y06 yf0 y10 y11 y12 y13 y14 y15 y16 yf1
      have hsr := sameread_any ⟨0, 0, 0, 0, 0, [], 0⟩ ⟨0, 0, 0, 0, 0, [], 0⟩ none 0 0 none 0 0 _ (Sl.nil W8 _ _ _) (Sl.nil W8 _ _ _) (by omega)
      rw [decide_eq_true rfl] at hsr
      refine hsr.mono ?_
      rintro e w9 ⟨rfl, hb⟩
      replace PA := hid (PA.out.step hb); replace PB := hid (PB.out.step hb); replace OV := hid (OV.out.step hb); replace QR := hid (QR.out.step hb); replace QW := hid (QW.out.step hb); replace QA := hid (QA.out.step hb); replace QB := hid (QB.out.step hb); replace HB := hid (below_then HB.out hb)
      clear hb hsr
      obtain ⟨y00, y01, y02, y03, y04, y05, yf0⟩ := QW.out.cells6
      obtain ⟨y10, y11, y12, y13, y14, y15, yf1⟩ := QB.out.cells6
      go_wp2_with fail
      clear y00 y01 y02 y03 y04 y05 yf0 y10 y11 y12 y13 y14 y15 yf1
      have hsw := samewrite_any ⟨0, 0, [], 0, 0, 0⟩ ⟨0, 0, [], 0, 0, 0⟩ none 0 0 none 0 0 _ (Sl.nil w9 _ _ _) (Sl.nil w9 _ _ _) (by omega)
      rw [decide_eq_true rfl] at hsw
      refine hsw.mono ?_
      rintro e w10 ⟨rfl, hb⟩
      replace PA := hid (PA.out.step hb); replace PB := hid (PB.out.step hb); replace OV := hid (OV.out.step hb); replace QR := hid (QR.out.step hb); replace QW := hid (QW.out.step hb); replace QA := hid (QA.out.step hb); replace QB := hid (QB.out.step hb); replace HB := hid (below_then HB.out hb)
      clear hb hsw
      go_wp2
      go_ret
      exact ⟨rfl, HB.out⟩
end Go.Proofs.Ytnkaajkdjbdpaaa
