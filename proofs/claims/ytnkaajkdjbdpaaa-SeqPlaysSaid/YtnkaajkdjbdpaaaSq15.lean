/- The statements of chapter 06: live, wakes. No condition. -/
import Derived.Test.YtnkaajkdjbdpaaaSq14
namespace Go.Proofs.Ytnkaajkdjbdpaaa
open Go.RowKit
def LivePost (n : Nat) (w : World) (e : Ending) (w' : World) : Prop :=
  ∃ A c B d, e = .returned (.tuple #[mv A n c B n d false, .bool true]) ∧ Mown w' w.heap.size A n c B n d (List.replicate n 0) (List.replicate n true) ∧ Below w.heap.size w w'
theorem wake_val : sqplayC (List.replicate 8 0, List.replicate 8 true, false) ⟨0, 1, 2, 0, 0, [], 0⟩ [⟨0, 1, [7, 8], 0, 0, 0⟩] [false, false, true, false, false, false, true, true, true, true] = (0, ([2, 7, 8, 0, 0, 0, 0, 0], List.replicate 8 true, false), ⟨0, 1, 2, 4, 2, [7, 8], 0⟩) := by
  kernel_rfl
set_option maxRecDepth 100000 in
set_option maxHeartbeats 4000000 in
theorem live_any (n : Nat) (w : World) (h1 : 1 ≤ n) (h2 : n ≤ 4096) (ht : turnF (List.replicate n 0, List.replicate n false, false) 0 n true 0 5 = (0, (List.replicate n 0, List.replicate n true, false))) :
    Calls Try.prog 28 #[.int .i64 n] w (LivePost n w) := by
  have HB := hid (Below.refl w.heap.size w); have HT := hid ht
  clear ht
  have bx := below_box w (.cells (mcs none 0 0 none 0 0 false) 44)
  replace HB := hid (below_then HB.out bx)
  clear bx
  have PR := hid (Blk.new w 44 (mcs none 0 0 none 0 0 false))
  go_enter Try.func28, Try.ntmps28
  go_wp2_with fail
  have hz0 := hid (show (w.alloc (.cells (mcs none 0 0 none 0 0 false) 44)).heap.size = w.heap.size + 1 by simp)
  generalize w.alloc (.cells (mcs none 0 0 none 0 0 false) 44) = W0 at *
  refine (mnew_ok n W0 h1 h2).mono ?_
  rintro e w1 ⟨ga, gb, rfl, om, hb⟩
  have hs1 := hid hb.size
  have HM := hid om
  clear om
  replace PR := hid (PR.out.step hb); replace HB := hid (below_then HB.out hb)
  clear hb
  have bx := below_box w1 (.cells (mcs (some ⟨ga, 0, none⟩) n n (some ⟨gb, 0, none⟩) n n false) 44)
  replace PR := hid (PR.out.step bx); replace HM := hid (HM.out.step bx); replace HB := hid (below_then HB.out bx)
  clear bx
  have PM := hid (Blk.new w1 44 (mcs (some ⟨ga, 0, none⟩) n n (some ⟨gb, 0, none⟩) n n false))
  obtain ⟨y00, y01, y02, yf0⟩ := PM.out.cells3
  go_wp2_with fail
  clear y00 y01 y02 yf0
  have hz1 := hid (show (w1.alloc (.cells (mcs (some ⟨ga, 0, none⟩) n n (some ⟨gb, 0, none⟩) n n false) 44)).heap.size = w1.heap.size + 1 by simp)
  generalize w1.alloc (.cells (mcs (some ⟨ga, 0, none⟩) n n (some ⟨gb, 0, none⟩) n n false) 44) = W1 at *
  refine (mlive_any _ n n _ n n false 0 n _ _ W1 HM.out.mem (by omega) (by omega)).mono ?_
  rintro e w2 ⟨A2, n2, c2, B2, m2, d2, rfl, h2', hb⟩
  rw [HT.out] at h2' ⊢
  dsimp only at h2' ⊢
  obtain rfl : n = n2 := by rw [← h2'.oa.len]; simp
  obtain rfl : n = m2 := by rw [← h2'.ob.len]; simp
  have hs2 := hid hb.size
  have HM2 := hid h2'
  clear h2'
  clear HM
  replace PR := hid (PR.out.step hb); replace PM := hid (PM.out.step hb); replace HB := hid (below_then HB.out hb)
  clear hb
  obtain ⟨y00, y01, y02, yf0⟩ := PM.out.cells3
  have hgr : w2.grownBy (((w2.setCell ⟨w1.heap.size, 0, none⟩ (.slice A2 n c2)).setCell ⟨w1.heap.size, 1, none⟩ (.slice B2 n d2)).setCell ⟨w1.heap.size, 2, none⟩ (.bool false)) (some w1.heap.size) := (grown_set (grown_set (grown_set (World.grownBy.refl w2 (some w1.heap.size)) 0 (.slice A2 n c2)) 1 (.slice B2 n d2)) 2 (.bool false))
  have hpm : Blk (((w2.setCell ⟨w1.heap.size, 0, none⟩ (.slice A2 n c2)).setCell ⟨w1.heap.size, 1, none⟩ (.slice B2 n d2)).setCell ⟨w1.heap.size, 2, none⟩ (.bool false)) w1.heap.size 44 #[.slice A2 n c2, .slice B2 n d2, .bool false] := ((PM.out.setCell 0 (.slice A2 n c2)).setCell 1 (.slice B2 n d2)).setCell 2 (.bool false)
  have hM := hid (mown_kept HM2.out PM.out tm1 tm2 hgr)
  have hPR := hid (PR.out.grown hgr (by have := hs1.out; have := hz0.out; simp; omega))
  have hHB := hid (HB.out.grown hgr HB.out.size (fun r e => by cases e; have := hs1.out; have := hz0.out; omega))
  obtain ⟨z0, z1, z2, zf⟩ := hpm.cells3
  obtain ⟨v0, v1, v2, vf⟩ := hPR.out.cells3
  have PMn := hid hpm
  clear hpm hgr HM2 PR HB
  go_wp2_with fail
  clear y00 y01 y02 yf0 z0 z1 z2 zf v0 v1 v2 vf PM
  generalize (((w2.setCell ⟨w1.heap.size, 0, none⟩ (.slice A2 n c2)).setCell ⟨w1.heap.size, 1, none⟩ (.slice B2 n d2)).setCell ⟨w1.heap.size, 2, none⟩ (.bool false)) = Wp at *
  have PR0 := hPR
  have hbk0 : Blk (Wp.setCell ⟨w.heap.size, 0, none⟩ (.slice A2 n c2)) (w.heap.size) 44 #[.slice A2 n c2, .slice none 0 0, .bool false] := hPR.out.setCell 0 (.slice A2 n c2)
  have hbk1 : Blk ((Wp.setCell ⟨w.heap.size, 0, none⟩ (.slice A2 n c2)).setCell ⟨w.heap.size, 1, none⟩ (.slice B2 n d2)) (w.heap.size) 44 #[.slice A2 n c2, .slice B2 n d2, .bool false] := hbk0.setCell 1 (.slice B2 n d2)
  have hbk2 : Blk (((Wp.setCell ⟨w.heap.size, 0, none⟩ (.slice A2 n c2)).setCell ⟨w.heap.size, 1, none⟩ (.slice B2 n d2)).setCell ⟨w.heap.size, 2, none⟩ (.bool false)) (w.heap.size) 44 #[.slice A2 n c2, .slice B2 n d2, .bool false] := hbk1.setCell 2 (.bool false)
  have hgr : Wp.grownBy (((Wp.setCell ⟨w.heap.size, 0, none⟩ (.slice A2 n c2)).setCell ⟨w.heap.size, 1, none⟩ (.slice B2 n d2)).setCell ⟨w.heap.size, 2, none⟩ (.bool false)) (some (w.heap.size)) := (grown_set (grown_set (grown_set (World.grownBy.refl Wp (some (w.heap.size))) 0 (.slice A2 n c2)) 1 (.slice B2 n d2)) 2 (.bool false))
  replace hPR := hid hbk2
  clear hbk0 hbk1 hbk2
  generalize ((Wp.setCell ⟨w.heap.size, 0, none⟩ (.slice A2 n c2)).setCell ⟨w.heap.size, 1, none⟩ (.slice B2 n d2)).setCell ⟨w.heap.size, 2, none⟩ (.bool false) = Wf at *
  obtain ⟨q0, q1, q2, qf⟩ := hPR.out.cells3
  refine bodyPost_ret (v := .tuple #[mv A2 n c2 B2 n d2 false, .bool true]) (by simp [results, Try.results28, go_sem, q0, q1, q2]) rfl ⟨A2, c2, B2, d2, rfl, ?_, ?_⟩
  · exact (mown_kept hM.out PR0.out tm1 tm2 hgr).mono (by have := hz1.out; have := hs1.out; have := hz0.out; omega)
  · exact hHB.out.grown hgr hHB.out.size (fun r e => by cases e; omega)
set_option maxRecDepth 100000 in
set_option maxHeartbeats 8000000 in
theorem sqwakes_any (w : World) : Calls Try.prog 10 #[] w fun e w' => e = .returned (.bool true) ∧ Below w.heap.size w w' := by
  have HB := hid (Below.refl w.heap.size w)
  go_enter Try.func10, Try.ntmps10
  go_wp2_with fail
  refine (live_any 8 w (by decide) (by decide) (by decide +kernel)).mono ?_
  rintro e w1 ⟨A1, c1, B1, d1, rfl, om, hb⟩
  have HM := hid om
  clear om
  replace HB := hid (below_then HB.out hb)
  clear hb
  have bx := below_box w1 (.cells (mcs A1 8 c1 B1 8 d1 false) 44)
  replace HM := hid (HM.out.step bx); replace HB := hid (below_then HB.out bx)
  clear bx
  have PM := hid (Blk.new w1 44 (mcs A1 8 c1 B1 8 d1 false))
  go_wp2_with fail
  generalize w1.alloc (.cells (mcs A1 8 c1 B1 8 d1 false) 44) = W1 at *
  refine (sread_any 0 1 2 W1).mono ?_
  rw [show decide ((0 : Int) ≤ 2 ∧ SqG 0 1 2) = true from by decide]
  rintro e w2 ⟨rfl, hb⟩
  dsimp only [if_true]
  replace HM := hid (HM.out.step hb); replace PM := hid (PM.out.step hb); replace HB := hid (below_then HB.out hb)
  clear hb
  have bx := below_box w2 (.cells (rdc 0 1 2 0 0 none 0 0 0) 29)
  replace HM := hid (HM.out.step bx); replace PM := hid (PM.out.step bx); replace HB := hid (below_then HB.out bx)
  clear bx
  have PR := hid (Blk.new w2 29 (rdc 0 1 2 0 0 none 0 0 0))
  go_upto_region 3 with fail
  generalize w2.alloc (.cells (rdc 0 1 2 0 0 none 0 0 0) 29) = W2 at *
  have HL := hid (Sl.lit (enc := u64v) (d := 0) (w := W2) (e := 27) (g := W2.heap.size) [7, 8] (#[.int .u64 7, .int .u64 8]) (by simp) (by simp))
  have bx := below_box W2 (.cells #[.int .u64 7, .int .u64 8] 27)
  replace HM := hid (HM.out.step bx); replace PM := hid (PM.out.step bx); replace PR := hid (PR.out.step bx); replace HB := hid (below_then HB.out bx)
  clear bx
  go_wp2_with fail
  generalize W2.alloc (.cells #[.int .u64 7, .int .u64 8] 27) = W3 at *
  refine (swrite_any 0 1 _ 2 2 [7, 8] W3 HL.out (by decide)).mono ?_
  rw [show decide ((1 : Int) ≤ (2 : Nat) ∧ SqG 0 1 (2 : Nat)) = true from by decide]
  rintro e w4 ⟨V4, c4, rfl, ov, hb⟩
  dsimp only [if_true]
  have OV := hid (ov rfl)
  clear ov
  replace HM := hid (HM.out.step hb); replace PM := hid (PM.out.step hb); replace PR := hid (PR.out.step hb); replace HL := hid (HL.out.step hb); replace HB := hid (below_then HB.out hb)
  clear hb
  clear HL
  have bx := below_box w4 (.cells (wrc 0 1 V4 2 c4 0 0 0) 34)
  replace HM := hid (HM.out.step bx); replace PM := hid (PM.out.step bx); replace PR := hid (PR.out.step bx); replace OV := hid (OV.out.step bx); replace HB := hid (below_then HB.out bx)
  clear bx
  have PW := hid (Blk.new w4 34 (wrc 0 1 V4 2 c4 0 0 0))
  obtain ⟨y00, y01, y02, yf0⟩ := PM.out.cells3
  obtain ⟨y10, y11, y12, y13, y14, y15, y16, yf1⟩ := PR.out.cells7
  obtain ⟨y20, y21, y22, y23, y24, y25, yf2⟩ := PW.out.cells6
  go_upto_region 4 with fail
  clear y00 y01 y02 yf0 y10 y11 y12 y13 y14 y15 y16 yf1 y20 y21 y22 y23 y24 y25 yf2
  generalize w4.alloc (.cells (wrc 0 1 V4 2 c4 0 0 0) 34) = W5 at *
  obtain ⟨y00, y01, y02, yf0⟩ := PM.out.cells3
  obtain ⟨y10, y11, y12, y13, y14, y15, y16, yf1⟩ := PR.out.cells7
  obtain ⟨y20, y21, y22, y23, y24, y25, yf2⟩ := PW.out.cells6
  go_wp2_with fail
  clear y00 y01 y02 yf0 y10 y11 y12 y13 y14 y15 y16 yf1 y20 y21 y22 y23 y24 y25 yf2
  have HLW := hid (Sm.lit (sz := 6) (enc := encW) (d := zWe) (w := W5) (e := 34) (cs := #[.int .i64 0, .int .i64 1, .slice V4 2 c4, .int .i64 0, .int .u64 0, .int .i64 0]) (g := W5.heap.size) [((⟨0, 1, [7, 8], 0, 0, 0⟩, V4, 2, c4) : WrE)] (by simp) (by intro k hk j hj; have hk' : k < 1 := hk; have hj' : j < 6 := hj; match k, hk', j, hj' with | 0, _, 0, _ => rfl | 0, _, 1, _ => rfl | 0, _, 2, _ => rfl | 0, _, 3, _ => rfl | 0, _, 4, _ => rfl | 0, _, 5, _ => rfl))
  have bx := below_box W5 (.cells #[.int .i64 0, .int .i64 1, .slice V4 2 c4, .int .i64 0, .int .u64 0, .int .i64 0] 34)
  replace HM := hid (HM.out.step bx); replace PM := hid (PM.out.step bx); replace PR := hid (PR.out.step bx); replace OV := hid (OV.out.step bx); replace PW := hid (PW.out.step bx); replace HB := hid (below_then HB.out bx)
  clear bx
  have hzl := hid (show (W5.alloc (.cells #[.int .i64 0, .int .i64 1, .slice V4 2 c4, .int .i64 0, .int .u64 0, .int .i64 0] 34)).heap.size = W5.heap.size + 1 by simp)
  generalize W5.alloc (.cells #[.int .i64 0, .int .i64 1, .slice V4 2 c4, .int .i64 0, .int .u64 0, .int .i64 0] 34) = W6 at *
  have HLP := hid (Sl.lit (enc := blv) (d := false) (w := W6) (e := 4) (g := W5.heap.size + 1) [false, false, true, false, false, false, true, true, true, true] (#[.bool false, .bool false, .bool true, .bool false, .bool false, .bool false, .bool true, .bool true, .bool true, .bool true]) (by have := hzl.out; omega) (by simp))
  have bx := below_box W6 (.cells #[.bool false, .bool false, .bool true, .bool false, .bool false, .bool false, .bool true, .bool true, .bool true, .bool true] 4)
  replace HM := hid (HM.out.step bx); replace PM := hid (PM.out.step bx); replace PR := hid (PR.out.step bx); replace OV := hid (OV.out.step bx); replace PW := hid (PW.out.step bx); replace HLW := hid (HLW.out.step bx); replace HB := hid (below_then HB.out bx)
  clear bx
  generalize W6.alloc (.cells #[.bool false, .bool false, .bool true, .bool false, .bool false, .bool false, .bool true, .bool true, .bool true, .bool true] 4) = W7 at *
  have hvs : VRows W7 W7.heap.size [((⟨0, 1, [7, 8], 0, 0, 0⟩, V4, 2, c4) : WrE)] := fun x hx => by
    obtain rfl : x = _ := by simpa using hx
    exact ⟨.inr ⟨_, _, OV.out⟩, by show 2 ≤ 100000; decide⟩
  have hpl := seqplay_any A1 8 c1 B1 8 d1 (List.replicate 8 0, List.replicate 8 true, false) ⟨0, 1, 2, 0, 0, [], 0⟩ none 0 0 _ 1 1 [(⟨0, 1, [7, 8], 0, 0, 0⟩, V4, 2, c4)] _ 10 10 [false, false, true, false, false, false, true, true, true, true] W7 HM.out.mem (Sl.nil _ _ _ _) (by omega) HLW.out hvs (by omega) HLP.out (by omega)
  have HVL := hid wake_val
  rw [show List.map Prod.fst [((⟨0, 1, [7, 8], 0, 0, 0⟩, V4, 2, c4) : WrE)] = [⟨0, 1, [7, 8], 0, 0, 0⟩] from rfl, HVL.out] at hpl
  with_reducible refine hpl.mono ?_
  rintro e w8 ⟨A8, n8, c8, B8, k8, d8, V8, vn8, vc8, rfl, om, ov, hb⟩
  dsimp only at om ov ⊢
  obtain rfl : 8 = n8 := om.oa.len
  obtain rfl : 8 = k8 := om.ob.len
  obtain rfl : 2 = vn8 := ov.len
  have OM := hid om; have OV8 := hid ov
  clear om ov hpl hvs HVL
  clear HLW HLP HM PM PR PW OV
  replace HB := hid (below_then HB.out hb)
  clear hb
  have bx := below_box w8 (.cells (mcs A8 8 c8 B8 8 d8 false) 44)
  replace OM := hid (OM.out.step bx); replace OV8 := hid (OV8.out.step bx); replace HB := hid (below_then HB.out bx)
  clear bx
  have PN := hid (Blk.new w8 44 (mcs A8 8 c8 B8 8 d8 false))
  have bx := below_box (w8.alloc (.cells (mcs A8 8 c8 B8 8 d8 false) 44)) (.cells (rdc 0 1 2 4 2 V8 2 vc8 0) 29)
  replace OM := hid (OM.out.step bx); replace OV8 := hid (OV8.out.step bx); replace PN := hid (PN.out.step bx); replace HB := hid (below_then HB.out bx)
  clear bx
  have PT := hid (Blk.new2 w8 29 (rdc 0 1 2 4 2 V8 2 vc8 0) (.cells (mcs A8 8 c8 B8 8 d8 false) 44))
  go_upto_region 5 with fail
  have hz9 := hid (show ((w8.alloc (.cells (mcs A8 8 c8 B8 8 d8 false) 44)).alloc (.cells (rdc 0 1 2 4 2 V8 2 vc8 0) 29)).heap.size = w8.heap.size + 2 by simp)
  generalize (w8.alloc (.cells (mcs A8 8 c8 B8 8 d8 false) 44)).alloc (.cells (rdc 0 1 2 4 2 V8 2 vc8 0) 29) = W9 at *
  go_wp2_with fail
  refine (sread_any 0 0 1 W9).mono ?_
  rw [show decide ((0 : Int) ≤ 1 ∧ SqG 0 0 1) = false from by decide]
  rintro e w10 ⟨rfl, hb⟩
  dsimp only [Bool.false_eq_true, if_false]
  replace OM := hid (OM.out.step hb); replace OV8 := hid (OV8.out.step hb); replace PN := hid (PN.out.step hb); replace PT := hid (PT.out.step hb); replace HB := hid (below_then HB.out hb)
  clear hb
  have bx := below_box w10 (.cells (rdc 0 0 0 0 0 none 0 0 0) 29)
  replace OM := hid (OM.out.step bx); replace OV8 := hid (OV8.out.step bx); replace PN := hid (PN.out.step bx); replace PT := hid (PT.out.step bx); replace HB := hid (below_then HB.out bx)
  clear bx
  go_upto_region 6 with fail
  generalize w10.alloc (.cells (rdc 0 0 0 0 0 none 0 0 0) 29) = W11 at *
  obtain ⟨ga, rfl, _, _, a0, _⟩ := OM.out.oa.at_ 0 (k := 0) (by omega)
  obtain ⟨y00, y01, y02, yf0⟩ := PN.out.cells3
  obtain ⟨y10, y11, y12, y13, y14, y15, y16, yf1⟩ := PT.out.cells7
  simp only [List.getElem?_cons_zero, Option.getD_some] at a0
  go_wp2_with fail
  clear a0 y00 y01 y02 yf0 y10 y11 y12 y13 y14 y15 y16 yf1
  have HK := hid (Sl.lit (enc := u64v) (d := 0) (w := W11) (e := 27) (g := W11.heap.size) [7, 8] (#[.int .u64 7, .int .u64 8]) (by simp) (by simp))
  have bx := below_box W11 (.cells #[.int .u64 7, .int .u64 8] 27)
  replace OM := hid (OM.out.step bx); replace OV8 := hid (OV8.out.step bx); replace PN := hid (PN.out.step bx); replace PT := hid (PT.out.step bx); replace HB := hid (below_then HB.out bx)
  clear bx
  generalize W11.alloc (.cells #[.int .u64 7, .int .u64 8] 27) = W12 at *
  refine (equal_u64 V8 _ 2 vc8 2 2 _ _ _ _ [7, 8] [7, 8] W12 (OV8.out.sl (d := (0 : Int))) HK.out (by omega) (by simp)).mono ?_
  rintro e w13 ⟨rfl, hb⟩
  rw [show decide (([7, 8] : List Int) = [7, 8]) = true from rfl]
  replace OM := hid (OM.out.step hb); replace OV8 := hid (OV8.out.step hb); replace PN := hid (PN.out.step hb); replace PT := hid (PT.out.step hb); replace HK := hid (HK.out.step hb); replace HB := hid (below_then HB.out hb)
  clear hb
  obtain ⟨ga', hga, _, _, a0, _⟩ := OM.out.oa.at_ 0 (k := 0) (by omega)
  obtain rfl : ga = ga' := by simpa using hga
  simp only [List.getElem?_cons_zero, Option.getD_some] at a0
  clear hga
  obtain ⟨y00, y01, y02, yf0⟩ := PN.out.cells3
  obtain ⟨y10, y11, y12, y13, y14, y15, y16, yf1⟩ := PT.out.cells7
  go_wp2
  go_ret
  exact ⟨rfl, HB.out⟩
end Go.Proofs.Ytnkaajkdjbdpaaa
