/- afterglowlaw06.SeqAlone returns true at every row of values, and turns nothing old. No condition but the sizes of memory. -/
import Derived.Test.YtnkaajkdjbdpaaaSq18
import Derived.Test.YtnkaajkdjbdpaaaSqPm
namespace Go.Proofs.Ytnkaajkdjbdpaaa
open Go.RowKit
/-- behind i steps of the write -/
structure QAw (w W : World) (gm gw gr : Nat) (V2 : Option Addr) (m4 c2 : Nat) (ws : List Int) (i : Nat) : Prop where
  out : ∃ A n c B k d V vn vc m s, Blk W gm 44 (mcs A n c B k d m.2.2) ∧ Mown W w.heap.size A n c B k d m.1 m.2.1 ∧ Blk W gw 34 (wrc s.a s.f V vn vc s.ph s.bg s.wr) ∧ Ow u64v W w.heap.size 27 V vn vc s.vs ∧ AlW ws i m s ∧ MGood m.1 m.2.1 ∧ WrOkS s
  rd : Blk W gr 29 (rdc 19 1 m4 0 0 none 0 0 0)
  ov : Ow u64v W w.heap.size 27 V2 m4 c2 ws
  be : Below w.heap.size w W
/-- behind i steps of the read -/
structure QAr (w W : World) (gm gw gr : Nat) (V2 : Option Addr) (m4 c2 : Nat) (ws : List Int) (i : Nat) : Prop where
  out : ∃ A n c B k d V vn vc m s U un uc t, Blk W gm 44 (mcs A n c B k d m.2.2) ∧ Mown W w.heap.size A n c B k d m.1 m.2.1 ∧ Blk W gr 29 (rdc s.a s.f s.m s.ph s.bg V vn vc s.tr) ∧ Ow u64v W w.heap.size 27 V vn vc s.vs ∧ Blk W gw 34 (wrc t.a t.f U un uc t.ph t.bg t.wr) ∧ Ow u64v W w.heap.size 27 U un uc t.vs ∧ AlM ws m ∧ m.2.2 = false ∧ AlR ws i s ∧ MGood m.1 m.2.1 ∧ RdOkS s ∧ WrOkS t ∧ t.ph = 4
  ov : Ow u64v W w.heap.size 27 V2 m4 c2 ws
  be : Below w.heap.size w W
set_option maxRecDepth 100000 in
set_option maxHeartbeats 8000000 in
theorem sqalone_any (V : Option Addr) (n c : Nat) (vs : List Int) (w : World) (hv : Sl u64v 0 w 0 w.heap.size V n vs) (hnc : n ≤ c) :
    Calls Try.prog 9 #[.slice V n c] w fun e w' => e = .returned (.bool true) ∧ Below w.heap.size w w' := by
  have HB := hid (Below.refl w.heap.size w)
  obtain ⟨m4, hm4⟩ : ∃ m, m = min n 16 := ⟨_, rfl⟩
  obtain ⟨ws, hws⟩ : ∃ l, l = vs.take 16 := ⟨_, rfl⟩
  have hmm : (if (16 : Int) < (n : Int) then (16 : Int) else (n : Int)) = (m4 : Int) := by split <;> omega
  have hmm2 : min (n : Int) 16 = (m4 : Int) := by omega
  have hmc1 : (m4 : Int) ≤ (c : Int) := by omega
  have hmc0 : (0 : Int) ≤ (m4 : Int) := by omega
  have HV := hid (show Sl u64v 0 w 0 w.heap.size V m4 ws by
    rw [hm4, hws]
    by_cases h18 : n ≤ 16
    · rw [show min n 16 = n by omega, List.take_of_length_le (by rw [hv.len]; exact h18)]; exact hv
    · rw [show min n 16 = 16 by omega]; exact hv.take (by omega))
  have hm16 : m4 ≤ 16 := by omega
  clear hv hm4 hws
  go_enter Try.func9, Try.ntmps9
  go_wp2_with fail
  refine (sqwakes_any w).mono ?_
  rintro e w1 ⟨rfl, hb⟩
  replace HV := hid (HV.out.step hb); replace HB := hid (below_then HB.out hb)
  clear hb
  go_wp2_with fail
  refine (clone_u64 V m4 c 0 ws _ HV.out (by omega)).mono ?_
  rintro e w2 ⟨V2, c2, rfl, ov, hb⟩
  have hs1 := HB.out.size
  have OV2 := hid (ov.mono (show w.heap.size ≤ w1.heap.size from hs1))
  have hs2 := hid (Nat.le_trans hs1 hb.size)
  clear ov hmm hmm2 hmc1 hmc0 hs1
  replace HV := hid (HV.out.step hb); replace HB := hid (below_then HB.out hb)
  clear hb HV
  go_wp2_with fail
  refine (live_any 20 w2 (by decide) (by decide) (by decide +kernel)).mono ?_
  rintro e w3 ⟨A, c3, B, d3, rfl, om, hb⟩
  have OM := hid (om.mono (show w.heap.size ≤ w2.heap.size from hs2.out))
  have hs3 := hid (Nat.le_trans hs2.out hb.size)
  clear om hs2
  replace OV2 := hid (OV2.out.step hb); replace HB := hid (below_then HB.out hb)
  clear hb
  have bx := below_box w3 (.cells (mcs A 20 c3 B 20 d3 false) 44)
  replace OV2 := hid (OV2.out.step bx); replace OM := hid (OM.out.step bx); replace HB := hid (below_then HB.out bx)
  clear bx
  have PM := hid (Blk.new w3 44 (mcs A 20 c3 B 20 d3 false))
  go_upto_region 5 with fail
  have hz3 := hid (show (w3.alloc (.cells (mcs A 20 c3 B 20 d3 false) 44)).heap.size = w3.heap.size + 1 by simp)
  generalize w3.alloc (.cells (mcs A 20 c3 B 20 d3 false) 44) = W3 at *
  have GM := hid (show w.heap.size ≤ w3.heap.size from hs3.out)
  have hlv := hid OV2.out.len
  go_wp2_with fail
  refine (swrite_any 19 1 V2 m4 c2 ws _ (OV2.out.sl.mono (Nat.zero_le _) (Nat.le_refl _)) (by omega)).mono ?_
  by_cases h0 : 1 ≤ m4
  rotate_left
  · obtain rfl : m4 = 0 := by omega
    rw [decide_eq_false (fun h => by have := h.1; omega)]
    rintro e w5 ⟨V5, c5, rfl, ov, hb⟩
    dsimp only [if_true, if_false, Bool.false_eq_true]
    replace OV2 := hid (OV2.out.step hb); replace OM := hid (OM.out.step hb); replace PM := hid (PM.out.step hb); replace HB := hid (below_then HB.out hb)
    clear hb ov
    have bx := below_box w5 (.cells (wrc 0 0 none 0 0 0 0 0) 34)
    replace OV2 := hid (OV2.out.step bx); replace OM := hid (OM.out.step bx); replace PM := hid (PM.out.step bx); replace HB := hid (below_then HB.out bx)
    clear bx
    have QW := hid (Blk.new w5 34 (wrc 0 0 none 0 0 0 0 0))
    go_upto_region 6 with fail
    generalize w5.alloc (.cells (wrc 0 0 none 0 0 0 0 0) 34) = W5 at *
    go_wp2_with fail
    refine (sread_any 19 1 0 W5).mono ?_
    rw [decide_eq_true (by decide)]
    rintro e w6 ⟨rfl, hb⟩
    dsimp only [if_true]
    replace OV2 := hid (OV2.out.step hb); replace OM := hid (OM.out.step hb); replace PM := hid (PM.out.step hb); replace QW := hid (QW.out.step hb); replace HB := hid (below_then HB.out hb)
    clear hb
    have bx := below_box w6 (.cells (rdc 19 1 0 0 0 none 0 0 0) 29)
    replace OV2 := hid (OV2.out.step bx); replace OM := hid (OM.out.step bx); replace PM := hid (PM.out.step bx); replace QW := hid (QW.out.step bx); replace HB := hid (below_then HB.out bx)
    clear bx
    have QR := hid (Blk.new w6 29 (rdc 19 1 0 0 0 none 0 0 0))
    go_upto_region 7 with fail
    generalize w6.alloc (.cells (rdc 19 1 0 0 0 none 0 0 0) 29) = W6 at *
    go_wp2
    go_ret
    exact ⟨rfl, HB.out⟩
  rw [decide_eq_true ⟨by omega, by unfold SqG; omega⟩]
  rintro e w5 ⟨V5, c5, rfl, ov, hb⟩
  dsimp only [if_true]
  have OV5 := hid ((ov rfl).mono (show w.heap.size ≤ W3.heap.size from HB.out.size))
  have hs5 := hid (show w3.heap.size + 1 ≤ w5.heap.size by have := hb.size; have := hz3.out; omega)
  replace OV2 := hid (OV2.out.step hb); replace OM := hid (OM.out.step hb); replace PM := hid (PM.out.step hb); replace HB := hid (below_then HB.out hb)
  clear hb ov
  have bx := below_box w5 (.cells (wrc 19 1 V5 m4 c5 0 0 0) 34)
  replace OV2 := hid (OV2.out.step bx); replace OM := hid (OM.out.step bx); replace PM := hid (PM.out.step bx); replace OV5 := hid (OV5.out.step bx); replace HB := hid (below_then HB.out bx)
  clear bx
  have PW := hid (Blk.new w5 34 (wrc 19 1 V5 m4 c5 0 0 0))
  go_upto_region 6 with fail
  have hz5 := hid (show (w5.alloc (.cells (wrc 19 1 V5 m4 c5 0 0 0) 34)).heap.size = w5.heap.size + 1 by simp)
  generalize w5.alloc (.cells (wrc 19 1 V5 m4 c5 0 0 0) 34) = W5 at *
  go_wp2_with fail
  refine (sread_any 19 1 m4 W5).mono ?_
  rw [decide_eq_true ⟨by omega, by unfold SqG; omega⟩]
  rintro e w6 ⟨rfl, hb⟩
  dsimp only [if_true]
  have hs6 := hid (show w5.heap.size + 1 ≤ w6.heap.size by have := hb.size; have := hz5.out; omega)
  replace OV2 := hid (OV2.out.step hb); replace OM := hid (OM.out.step hb); replace PM := hid (PM.out.step hb); replace OV5 := hid (OV5.out.step hb); replace PW := hid (PW.out.step hb); replace HB := hid (below_then HB.out hb)
  clear hb
  have bx := below_box w6 (.cells (rdc 19 1 m4 0 0 none 0 0 0) 29)
  replace OV2 := hid (OV2.out.step bx); replace OM := hid (OM.out.step bx); replace PM := hid (PM.out.step bx); replace OV5 := hid (OV5.out.step bx); replace PW := hid (PW.out.step bx); replace HB := hid (below_then HB.out bx)
  clear bx
  have PR := hid (Blk.new w6 29 (rdc 19 1 m4 0 0 none 0 0 0))
  go_upto_region 7 with fail
  generalize w6.alloc (.cells (rdc 19 1 m4 0 0 none 0 0 0) 29) = W6 at *
  have hpos : 0 < m4 := by omega
  have hposd : decide (0 < m4) = true := decide_eq_true hpos
  have hm1 : IntKind.i64.wrap ((m4 : Int) + 1) = (m4 : Int) + 1 := by rw [IntKind.wrap_i64]; omega
  have hm2 : IntKind.i64.wrap ((m4 : Int) + 2) = (m4 : Int) + 2 := by rw [IntKind.wrap_i64]; omega
  have hm3 : IntKind.i64.wrap ((m4 : Int) + 3) = (m4 : Int) + 3 := by rw [IntKind.wrap_i64]; omega
  have GW := hid (show w3.heap.size + 1 ≤ w5.heap.size from hs5.out)
  have GR := hid (show w5.heap.size + 1 ≤ w6.heap.size from hs6.out)
  have hst : QAw w W6 w3.heap.size w5.heap.size w6.heap.size V2 m4 c2 ws 0 := ⟨⟨A, 20, c3, B, 20, d3, V5, m4, c5, (List.replicate 20 0, List.replicate 20 true, false), ⟨19, 1, ws, 0, 0, 0⟩, PM.out, OM.out, PW.out, OV5.out, ⟨rfl, rfl, rfl, rfl, rfl, rfl, rfl, rfl, by simp, rfl, fun k hk h => by omega⟩, by decide +kernel, by unfold WrOkS WrOk SqG; dsimp only; rw [hlv.out]; omega⟩, PR.out, OV2.out, HB.out⟩
  have HST := hid hst
  clear hst
  go_wp2_with fail
  go_loopw [6, 9, 54] (fun e _ i wr => e = .int .i64 0 ∧ ∃ j : Nat, j ≤ m4 + 3 ∧ i = .int .i64 j ∧ QAw w wr w3.heap.size w5.heap.size w6.heap.size V2 m4 c2 ws j) (fun _ _ i _ => m4 + 3 - (intOf i).toNat)
  case atStart => exact ⟨rfl, 0, Nat.zero_le _, rfl, HST.out⟩
  case round =>
    obtain ⟨rfl, j, hj, rfl, hI⟩ := hrel
    obtain ⟨⟨A1, n1, c1, B1, k1, d1, V1, vn1, vc1, m, s, h1, h2, h3, h4, h5, h6, h7⟩, h8, h9, h10⟩ := hI
    clear PM OM PW OV5 PR OV2 HB HST
    have PM := hid h1; have OM := hid h2; have PW := hid h3; have OV := hid h4; have HAL := hid h5; have HGD := hid h6; have HOK := hid h7; have PR := hid h8; have OV2 := hid h9; have HB := hid h10
    clear h1 h2 h3 h4 h5 h6 h7 h8 h9 h10
    by_cases hjn : j < m4 + 3
    rotate_left
    · skip
      obtain rfl : j = m4 + 3 := by omega
      have hnn : ¬ (((m4 + 3 : Nat) : Int) < (m4 : Int) + 3) := by omega
      have HAM := hid (show AlM ws m ∧ s.ph = 4 by have h := HAL.out; rw [← hlv.out] at h; exact h.done)
      have hfl := hid HAL.out.fl
      go_wp2_with fail
      have hst : QAr w _ w3.heap.size w5.heap.size w6.heap.size V2 m4 c2 ws 0 := ⟨⟨A1, n1, c1, B1, k1, d1, none, 0, 0, m, ⟨19, 1, m4, 0, 0, [], 0⟩, V1, vn1, vc1, s, PM.out, OM.out, PR.out, Ow.nil _ _ _, PW.out, OV.out, HAM.out.1, hfl.out, ⟨rfl, rfl, by rw [hlv.out], fun h => absurd h (by omega), rfl, rfl⟩, HGD.out, by unfold RdOkS RdOk SqG; dsimp only; simp; omega, HOK.out, HAM.out.2⟩, OV2.out, HB.out⟩
      have HST := hid hst
      clear hst PM OM PW OV PR OV2 HB HAL HGD HOK HAM hfl
      go_loopw [6, 10, 99] (fun e _ i wr => e = .int .i64 0 ∧ ∃ j : Nat, j ≤ m4 + 2 ∧ i = .int .i64 j ∧ QAr w wr w3.heap.size w5.heap.size w6.heap.size V2 m4 c2 ws j) (fun _ _ i _ => m4 + 2 - (intOf i).toNat)
      case atStart => exact ⟨rfl, 0, Nat.zero_le _, rfl, HST.out⟩
      case round =>
        clear hj hjn
        obtain ⟨rfl, j, hj, rfl, hI⟩ := hrel
        obtain ⟨⟨A2, n2, c2', B2, k2, d2, V3, vn2, vc2, m2, s2, U, un, uc, t2, h1, h2, h3, h4, h5, h6, h7, h8, h9, h10, h11, h12, h13⟩, h14, h15⟩ := hI
        clear HST
        have PM := hid h1; have OM := hid h2; have PR := hid h3; have OV := hid h4; have PW := hid h5; have OU := hid h6; have HAM := hid h7; have HFL := hid h8; have HAR := hid h9; have HGD := hid h10; have HOK := hid h11; have HOW := hid h12; have HP4 := hid h13; have OV2 := hid h14; have HB := hid h15
        clear h1 h2 h3 h4 h5 h6 h7 h8 h9 h10 h11 h12 h13 h14 h15
        by_cases hjn : j < m4 + 2
        rotate_left
        · skip
          obtain rfl : j = m4 + 2 := by omega
          have hnn : ¬ (((m4 + 2 : Nat) : Int) < (m4 : Int) + 2) := by omega
          obtain ⟨y00, y01, y02, yf0⟩ := PM.out.cells3
          obtain ⟨y10, y11, y12, y13, y14, y15, yf1⟩ := PW.out.cells6
          go_wp2_with fail
          clear y00 y01 y02 yf0 y10 y11 y12 y13 y14 y15 yf1
          have HC := hid (show swriteC m2 t2 = (0, m2, t2) by unfold swriteC; rw [if_neg (not_not_intro HGD.out), if_neg (not_not_intro HOW.out), swrite_over HP4.out])
          have hun := hid (show un ≤ 100000 by have h := HOW.out.2.1.2.2.2.2.1; have := OU.out.len; omega)
          refine (apiwrite_any A2 n2 c2' B2 k2 d2 m2 t2 U un uc _ OM.out.mem (OU.out.sl.mono (Nat.zero_le _) (Nat.le_refl _)) hun.out).mono ?_
          rw [HC.out]
          rintro e w7 ⟨A3, n3, c3', B3, k3, d3', V4, vn3, vc3, rfl, om, ov, _, hb⟩
          dsimp only at om ov
          have hs7 := hid HB.out.size
          have HPL := hid PW.out.lt
          replace PM := hid (PM.out.step hb); replace OM := hid (OM.out.step hb); replace PR := hid (PR.out.step hb); replace OV := hid (OV.out.step hb); replace PW := hid (PW.out.step hb); replace OU := hid (OU.out.step hb); replace OV2 := hid (OV2.out.step hb); replace HB := hid (below_then HB.out hb)
          have OM3 := hid (om.mono (show w.heap.size ≤ _ from hs7.out))
          have hs8 := hid hb.size
          clear om ov hb
          have bx := below_box w7 (.cells (mcs A3 n3 c3' B3 k3 d3' m2.2.2) 44)
          replace PM := hid (PM.out.step bx); replace OM := hid (OM.out.step bx); replace PR := hid (PR.out.step bx); replace OV := hid (OV.out.step bx); replace PW := hid (PW.out.step bx); replace OU := hid (OU.out.step bx); replace OV2 := hid (OV2.out.step bx); replace OM3 := hid (OM3.out.step bx); replace HB := hid (below_then HB.out bx)
          clear bx
          have PN := hid (Blk.new w7 44 (mcs A3 n3 c3' B3 k3 d3' m2.2.2))
          obtain ⟨y00, y01, y02, y03, y04, y05, yf0⟩ := PW.out.cells6
          go_upto_region 26 with fail
          clear y00 y01 y02 y03 y04 y05 yf0
          generalize w7.alloc (.cells (mcs A3 n3 c3' B3 k3 d3' m2.2.2) 44) = W7 at *
          have PX := PW
          have hbk0 : Blk (W7.setCell ⟨w5.heap.size, 0, none⟩ (.int .i64 t2.a)) (w5.heap.size) 34 #[.int .i64 t2.a, .int .i64 t2.f, .slice U un uc, .int .i64 t2.ph, .int .u64 t2.bg, .int .i64 t2.wr] := PW.out.setCell 0 (.int .i64 t2.a)
          have hbk1 : Blk ((W7.setCell ⟨w5.heap.size, 0, none⟩ (.int .i64 t2.a)).setCell ⟨w5.heap.size, 1, none⟩ (.int .i64 t2.f)) (w5.heap.size) 34 #[.int .i64 t2.a, .int .i64 t2.f, .slice U un uc, .int .i64 t2.ph, .int .u64 t2.bg, .int .i64 t2.wr] := hbk0.setCell 1 (.int .i64 t2.f)
          have hbk2 : Blk (((W7.setCell ⟨w5.heap.size, 0, none⟩ (.int .i64 t2.a)).setCell ⟨w5.heap.size, 1, none⟩ (.int .i64 t2.f)).setCell ⟨w5.heap.size, 2, none⟩ (.slice V4 vn3 vc3)) (w5.heap.size) 34 #[.int .i64 t2.a, .int .i64 t2.f, .slice V4 vn3 vc3, .int .i64 t2.ph, .int .u64 t2.bg, .int .i64 t2.wr] := hbk1.setCell 2 (.slice V4 vn3 vc3)
          have hbk3 : Blk ((((W7.setCell ⟨w5.heap.size, 0, none⟩ (.int .i64 t2.a)).setCell ⟨w5.heap.size, 1, none⟩ (.int .i64 t2.f)).setCell ⟨w5.heap.size, 2, none⟩ (.slice V4 vn3 vc3)).setCell ⟨w5.heap.size, 3, none⟩ (.int .i64 t2.ph)) (w5.heap.size) 34 #[.int .i64 t2.a, .int .i64 t2.f, .slice V4 vn3 vc3, .int .i64 t2.ph, .int .u64 t2.bg, .int .i64 t2.wr] := hbk2.setCell 3 (.int .i64 t2.ph)
          have hbk4 : Blk (((((W7.setCell ⟨w5.heap.size, 0, none⟩ (.int .i64 t2.a)).setCell ⟨w5.heap.size, 1, none⟩ (.int .i64 t2.f)).setCell ⟨w5.heap.size, 2, none⟩ (.slice V4 vn3 vc3)).setCell ⟨w5.heap.size, 3, none⟩ (.int .i64 t2.ph)).setCell ⟨w5.heap.size, 4, none⟩ (.int .u64 t2.bg)) (w5.heap.size) 34 #[.int .i64 t2.a, .int .i64 t2.f, .slice V4 vn3 vc3, .int .i64 t2.ph, .int .u64 t2.bg, .int .i64 t2.wr] := hbk3.setCell 4 (.int .u64 t2.bg)
          have hbk5 : Blk ((((((W7.setCell ⟨w5.heap.size, 0, none⟩ (.int .i64 t2.a)).setCell ⟨w5.heap.size, 1, none⟩ (.int .i64 t2.f)).setCell ⟨w5.heap.size, 2, none⟩ (.slice V4 vn3 vc3)).setCell ⟨w5.heap.size, 3, none⟩ (.int .i64 t2.ph)).setCell ⟨w5.heap.size, 4, none⟩ (.int .u64 t2.bg)).setCell ⟨w5.heap.size, 5, none⟩ (.int .i64 t2.wr)) (w5.heap.size) 34 #[.int .i64 t2.a, .int .i64 t2.f, .slice V4 vn3 vc3, .int .i64 t2.ph, .int .u64 t2.bg, .int .i64 t2.wr] := hbk4.setCell 5 (.int .i64 t2.wr)
          have hgr : W7.grownBy ((((((W7.setCell ⟨w5.heap.size, 0, none⟩ (.int .i64 t2.a)).setCell ⟨w5.heap.size, 1, none⟩ (.int .i64 t2.f)).setCell ⟨w5.heap.size, 2, none⟩ (.slice V4 vn3 vc3)).setCell ⟨w5.heap.size, 3, none⟩ (.int .i64 t2.ph)).setCell ⟨w5.heap.size, 4, none⟩ (.int .u64 t2.bg)).setCell ⟨w5.heap.size, 5, none⟩ (.int .i64 t2.wr)) (some (w5.heap.size)) := (grown_set (grown_set (grown_set (grown_set (grown_set (grown_set (World.grownBy.refl W7 (some (w5.heap.size))) 0 (.int .i64 t2.a)) 1 (.int .i64 t2.f)) 2 (.slice V4 vn3 vc3)) 3 (.int .i64 t2.ph)) 4 (.int .u64 t2.bg)) 5 (.int .i64 t2.wr))
          replace PW := hid hbk5
          clear hbk0 hbk1 hbk2 hbk3 hbk4 hbk5
          generalize (((((W7.setCell ⟨w5.heap.size, 0, none⟩ (.int .i64 t2.a)).setCell ⟨w5.heap.size, 1, none⟩ (.int .i64 t2.f)).setCell ⟨w5.heap.size, 2, none⟩ (.slice V4 vn3 vc3)).setCell ⟨w5.heap.size, 3, none⟩ (.int .i64 t2.ph)).setCell ⟨w5.heap.size, 4, none⟩ (.int .u64 t2.bg)).setCell ⟨w5.heap.size, 5, none⟩ (.int .i64 t2.wr) = W8 at *
          replace OM := hid (mown_kept OM.out PX.out tq1 tq2 hgr)
          replace OM3 := hid (mown_kept OM3.out PX.out tq1 tq2 hgr)
          replace OV := hid (OV.out.keptG hgr (fun v hv e => OV.out.ne_blk PX.out tq1 v hv (by simpa using e)))
          replace OV2 := hid (OV2.out.keptG hgr (fun v hv e => OV2.out.ne_blk PX.out tq1 v hv (by simpa using e)))
          have h57 := hid (show w5.heap.size < w7.heap.size from Nat.lt_of_lt_of_le HPL.out hs8.out)
          replace PM := hid (PM.out.grown hgr (by have := GM.out; have := GW.out; have := GR.out; have := h57.out; simp; omega))
          replace PR := hid (PR.out.grown hgr (by have := GM.out; have := GW.out; have := GR.out; have := h57.out; simp; omega))
          replace PN := hid (PN.out.grown hgr (by have := GM.out; have := GW.out; have := GR.out; have := h57.out; simp; omega))
          replace HB := hid (HB.out.grown hgr HB.out.size (fun r e => by cases e; have := GM.out; have := GW.out; have := GR.out; omega))
          clear hgr PX OU
          have hph := hid (show s2.vs = ws by rw [HAR.out.v, List.take_of_length_le (by rw [hlv.out]; omega)])
          obtain rfl : vn2 = m4 := by rw [← OV.out.len, hph.out, hlv.out]
          obtain rfl : n2 = 20 := by rw [← OM.out.oa.len, HAM.out.lw]
          obtain rfl : n3 = 20 := by rw [← OM3.out.oa.len, HAM.out.lw]
          obtain ⟨y00, y01, y02, yf0⟩ := PN.out.cells3
          obtain ⟨y10, y11, y12, yf1⟩ := PM.out.cells3
          go_wp2_with fail
          clear y00 y01 y02 yf0 y10 y11 y12 yf1
          refine (equal_u64 A3 A2 20 c3' 20 c2' 0 _ 0 _ m2.1 m2.1 _ (OM3.out.oa.sl.mono (Nat.zero_le _) (Nat.le_refl _)) (OM.out.oa.sl.mono (Nat.zero_le _) (Nat.le_refl _)) (by omega) (by omega)).mono ?_
          rintro e w9 ⟨rfl, hb⟩
          replace PM := hid (PM.out.step hb); replace OM := hid (OM.out.step hb); replace PR := hid (PR.out.step hb); replace OV := hid (OV.out.step hb); replace PW := hid (PW.out.step hb); replace OV2 := hid (OV2.out.step hb); replace OM3 := hid (OM3.out.step hb); replace PN := hid (PN.out.step hb); replace HB := hid (below_then HB.out hb)
          clear hb
          rw [show decide (m2.1 = m2.1) = true from decide_eq_true rfl]
          obtain ⟨y00, y01, y02, y03, y04, y05, y06, yf0⟩ := PR.out.cells7
          go_wp2_with fail
          clear y00 y01 y02 y03 y04 y05 y06 yf0
          refine (equal_u64 V3 V2 vn2 vc2 vn2 c2 0 _ 0 _ s2.vs ws _ (OV.out.sl.mono (Nat.zero_le _) (Nat.le_refl _)) (OV2.out.sl.mono (Nat.zero_le _) (Nat.le_refl _)) (by omega) (by omega)).mono ?_
          rintro e w10 ⟨rfl, hb⟩
          replace PM := hid (PM.out.step hb); replace OM := hid (OM.out.step hb); replace PR := hid (PR.out.step hb); replace OV := hid (OV.out.step hb); replace PW := hid (PW.out.step hb); replace OV2 := hid (OV2.out.step hb); replace OM3 := hid (OM3.out.step hb); replace PN := hid (PN.out.step hb); replace HB := hid (below_then HB.out hb)
          clear hb
          rw [show decide (s2.vs = ws) = true from decide_eq_true hph.out]
          obtain ⟨ga, rfl, _, _, a0, _⟩ := OM.out.oa.at_ 0 (k := 19) (by omega)
          have a1 : m2.1[19]?.getD 0 = 2 := HAM.out.cnt
          rw [a1] at a0
          have hf := HFL.out
          rw [hf] at PM
          have h4 := HP4.out
          rw [h4] at PW
          clear a1 hf h4
          obtain ⟨y00, y01, y02, yf0⟩ := PM.out.cells3
          obtain ⟨y10, y11, y12, y13, y14, y15, yf1⟩ := PW.out.cells6
          go_wp2
          go_ret
          exact ⟨rfl, HB.out⟩
        have hji : (j : Int) < (m4 : Int) + 2 := by omega
        obtain ⟨y00, y01, y02, yf0⟩ := PM.out.cells3
        obtain ⟨y10, y11, y12, y13, y14, y15, y16, yf1⟩ := PR.out.cells7
        go_wp2_with fail
        clear y00 y01 y02 yf0 y10 y11 y12 y13 y14 y15 y16 yf1
        obtain ⟨⟨m3, s3⟩, hr⟩ : ∃ x, x = sreadF m2 s2 := ⟨_, rfl⟩
        have HC := hid (show sreadC m2 s2 = (0, m3, s3) by unfold sreadC; rw [if_neg (not_not_intro HGD.out), if_neg (not_not_intro HOK.out), hr])
        have hst := HAR.out.step (by rw [hlv.out]; omega) (by rw [hlv.out]; omega) HAM.out (by rw [hlv.out]; exact hjn)
        rw [← hr] at hst
        obtain ⟨e1, hst2⟩ := hst
        dsimp only at e1 hst2
        subst e1
        have HAR2 := hid hst2
        have HOK2 := hid (show RdOkS s3 by have h := sreadF_ok (m := m3) HOK.out; rwa [← hr] at h)
        have hvn2 := hid (show vn2 ≤ 100000 by have h := OV.out.len; rw [HAR.out.v, List.length_take, hlv.out] at h; omega)
        clear hst2
        refine (apiread_any A2 n2 c2' B2 k2 d2 m3 s2 V3 vn2 vc2 _ OM.out.mem (OV.out.sl.mono (Nat.zero_le _) (Nat.le_refl _)) hvn2.out).mono ?_
        rw [HC.out]
        rintro e w7 ⟨A3, n3, c3', B3, k3, d3', V4, vn3, vc3, rfl, om, ov, _, hb⟩
        dsimp only at om ov
        have hs7 := hid HB.out.size
        replace PM := hid (PM.out.step hb); replace OM := hid (OM.out.step hb); replace PR := hid (PR.out.step hb); replace OV := hid (OV.out.step hb); replace PW := hid (PW.out.step hb); replace OU := hid (OU.out.step hb); replace OV2 := hid (OV2.out.step hb); replace HB := hid (below_then HB.out hb)
        have OM3 := hid (om.mono (show w.heap.size ≤ _ from hs7.out)); have OV3 := hid (ov.mono (show w.heap.size ≤ _ from hs7.out))
        clear om ov hb hr OM OV
        have hgr : w7.grownBy (((w7.setCell ⟨w3.heap.size, 0, none⟩ (.slice A3 n3 c3')).setCell ⟨w3.heap.size, 1, none⟩ (.slice B3 k3 d3')).setCell ⟨w3.heap.size, 2, none⟩ (.bool m3.2.2)) (some (w3.heap.size)) := (grown_set (grown_set (grown_set (World.grownBy.refl w7 (some (w3.heap.size))) 0 (.slice A3 n3 c3')) 1 (.slice B3 k3 d3')) 2 (.bool m3.2.2))
        have PX := PM; have hpx : Hid (Blk (((w7.setCell ⟨w3.heap.size, 0, none⟩ (.slice A3 n3 c3')).setCell ⟨w3.heap.size, 1, none⟩ (.slice B3 k3 d3')).setCell ⟨w3.heap.size, 2, none⟩ (.bool m3.2.2)) (w3.heap.size) 44 #[.slice A3 n3 c3', .slice B3 k3 d3', .bool m3.2.2]) := hid (((PM.out.setCell 0 (.slice A3 n3 c3')).setCell 1 (.slice B3 k3 d3')).setCell 2 (.bool m3.2.2))
        obtain ⟨y00, y01, y02, yf0⟩ := PX.out.cells3
        replace OM3 := hid (mown_kept OM3.out PX.out tm1 tm2 hgr)
        replace OV3 := hid (OV3.out.keptG hgr (fun v hv e => OV3.out.ne_blk PX.out tm1 v hv (by simpa using e)))
        replace OV2 := hid (OV2.out.keptG hgr (fun v hv e => OV2.out.ne_blk PX.out tm1 v hv (by simpa using e)))
        replace OU := hid (OU.out.keptG hgr (fun v hv e => OU.out.ne_blk PX.out tm1 v hv (by simpa using e)))
        replace PW := hid (PW.out.grown hgr (by have := GM.out; have := GW.out; have := GR.out; simp; omega))
        replace PR := hid (PR.out.grown hgr (by have := GM.out; have := GW.out; have := GR.out; simp; omega))
        replace HB := hid (HB.out.grown hgr HB.out.size (fun r e => by cases e; have := GM.out; have := GW.out; have := GR.out; omega))
        replace PM := hpx
        clear hgr hpx
        obtain ⟨z0, z1, z2, z3, z4, z5, z6, zf⟩ := PR.out.cells7
        go_upto_region 22 with fail
        clear y00 y01 y02 yf0 z0 z1 z2 z3 z4 z5 z6 zf PX
        generalize (((w7.setCell ⟨w3.heap.size, 0, none⟩ (.slice A3 n3 c3')).setCell ⟨w3.heap.size, 1, none⟩ (.slice B3 k3 d3')).setCell ⟨w3.heap.size, 2, none⟩ (.bool m3.2.2)) = Wp at *
        have PX := PR
        have hbk0 : Blk (Wp.setCell ⟨w6.heap.size, 0, none⟩ (.int .i64 s3.a)) (w6.heap.size) 29 #[.int .i64 s3.a, .int .i64 s2.f, .int .i64 s2.m, .int .i64 s2.ph, .int .u64 s2.bg, .slice V3 vn2 vc2, .int .i64 s2.tr] := PR.out.setCell 0 (.int .i64 s3.a)
        have hbk1 : Blk ((Wp.setCell ⟨w6.heap.size, 0, none⟩ (.int .i64 s3.a)).setCell ⟨w6.heap.size, 1, none⟩ (.int .i64 s3.f)) (w6.heap.size) 29 #[.int .i64 s3.a, .int .i64 s3.f, .int .i64 s2.m, .int .i64 s2.ph, .int .u64 s2.bg, .slice V3 vn2 vc2, .int .i64 s2.tr] := hbk0.setCell 1 (.int .i64 s3.f)
        have hbk2 : Blk (((Wp.setCell ⟨w6.heap.size, 0, none⟩ (.int .i64 s3.a)).setCell ⟨w6.heap.size, 1, none⟩ (.int .i64 s3.f)).setCell ⟨w6.heap.size, 2, none⟩ (.int .i64 s3.m)) (w6.heap.size) 29 #[.int .i64 s3.a, .int .i64 s3.f, .int .i64 s3.m, .int .i64 s2.ph, .int .u64 s2.bg, .slice V3 vn2 vc2, .int .i64 s2.tr] := hbk1.setCell 2 (.int .i64 s3.m)
        have hbk3 : Blk ((((Wp.setCell ⟨w6.heap.size, 0, none⟩ (.int .i64 s3.a)).setCell ⟨w6.heap.size, 1, none⟩ (.int .i64 s3.f)).setCell ⟨w6.heap.size, 2, none⟩ (.int .i64 s3.m)).setCell ⟨w6.heap.size, 3, none⟩ (.int .i64 s3.ph)) (w6.heap.size) 29 #[.int .i64 s3.a, .int .i64 s3.f, .int .i64 s3.m, .int .i64 s3.ph, .int .u64 s2.bg, .slice V3 vn2 vc2, .int .i64 s2.tr] := hbk2.setCell 3 (.int .i64 s3.ph)
        have hbk4 : Blk (((((Wp.setCell ⟨w6.heap.size, 0, none⟩ (.int .i64 s3.a)).setCell ⟨w6.heap.size, 1, none⟩ (.int .i64 s3.f)).setCell ⟨w6.heap.size, 2, none⟩ (.int .i64 s3.m)).setCell ⟨w6.heap.size, 3, none⟩ (.int .i64 s3.ph)).setCell ⟨w6.heap.size, 4, none⟩ (.int .u64 s3.bg)) (w6.heap.size) 29 #[.int .i64 s3.a, .int .i64 s3.f, .int .i64 s3.m, .int .i64 s3.ph, .int .u64 s3.bg, .slice V3 vn2 vc2, .int .i64 s2.tr] := hbk3.setCell 4 (.int .u64 s3.bg)
        have hbk5 : Blk ((((((Wp.setCell ⟨w6.heap.size, 0, none⟩ (.int .i64 s3.a)).setCell ⟨w6.heap.size, 1, none⟩ (.int .i64 s3.f)).setCell ⟨w6.heap.size, 2, none⟩ (.int .i64 s3.m)).setCell ⟨w6.heap.size, 3, none⟩ (.int .i64 s3.ph)).setCell ⟨w6.heap.size, 4, none⟩ (.int .u64 s3.bg)).setCell ⟨w6.heap.size, 5, none⟩ (.slice V4 vn3 vc3)) (w6.heap.size) 29 #[.int .i64 s3.a, .int .i64 s3.f, .int .i64 s3.m, .int .i64 s3.ph, .int .u64 s3.bg, .slice V4 vn3 vc3, .int .i64 s2.tr] := hbk4.setCell 5 (.slice V4 vn3 vc3)
        have hbk6 : Blk (((((((Wp.setCell ⟨w6.heap.size, 0, none⟩ (.int .i64 s3.a)).setCell ⟨w6.heap.size, 1, none⟩ (.int .i64 s3.f)).setCell ⟨w6.heap.size, 2, none⟩ (.int .i64 s3.m)).setCell ⟨w6.heap.size, 3, none⟩ (.int .i64 s3.ph)).setCell ⟨w6.heap.size, 4, none⟩ (.int .u64 s3.bg)).setCell ⟨w6.heap.size, 5, none⟩ (.slice V4 vn3 vc3)).setCell ⟨w6.heap.size, 6, none⟩ (.int .i64 s3.tr)) (w6.heap.size) 29 #[.int .i64 s3.a, .int .i64 s3.f, .int .i64 s3.m, .int .i64 s3.ph, .int .u64 s3.bg, .slice V4 vn3 vc3, .int .i64 s3.tr] := hbk5.setCell 6 (.int .i64 s3.tr)
        have hgr : Wp.grownBy (((((((Wp.setCell ⟨w6.heap.size, 0, none⟩ (.int .i64 s3.a)).setCell ⟨w6.heap.size, 1, none⟩ (.int .i64 s3.f)).setCell ⟨w6.heap.size, 2, none⟩ (.int .i64 s3.m)).setCell ⟨w6.heap.size, 3, none⟩ (.int .i64 s3.ph)).setCell ⟨w6.heap.size, 4, none⟩ (.int .u64 s3.bg)).setCell ⟨w6.heap.size, 5, none⟩ (.slice V4 vn3 vc3)).setCell ⟨w6.heap.size, 6, none⟩ (.int .i64 s3.tr)) (some (w6.heap.size)) := (grown_set (grown_set (grown_set (grown_set (grown_set (grown_set (grown_set (World.grownBy.refl Wp (some (w6.heap.size))) 0 (.int .i64 s3.a)) 1 (.int .i64 s3.f)) 2 (.int .i64 s3.m)) 3 (.int .i64 s3.ph)) 4 (.int .u64 s3.bg)) 5 (.slice V4 vn3 vc3)) 6 (.int .i64 s3.tr))
        replace PR := hid hbk6
        clear hbk0 hbk1 hbk2 hbk3 hbk4 hbk5 hbk6
        generalize ((((((Wp.setCell ⟨w6.heap.size, 0, none⟩ (.int .i64 s3.a)).setCell ⟨w6.heap.size, 1, none⟩ (.int .i64 s3.f)).setCell ⟨w6.heap.size, 2, none⟩ (.int .i64 s3.m)).setCell ⟨w6.heap.size, 3, none⟩ (.int .i64 s3.ph)).setCell ⟨w6.heap.size, 4, none⟩ (.int .u64 s3.bg)).setCell ⟨w6.heap.size, 5, none⟩ (.slice V4 vn3 vc3)).setCell ⟨w6.heap.size, 6, none⟩ (.int .i64 s3.tr) = W8 at *
        replace OM3 := hid (mown_kept OM3.out PX.out ts1 ts2 hgr)
        replace OV3 := hid (OV3.out.keptG hgr (fun v hv e => OV3.out.ne_blk PX.out ts1 v hv (by simpa using e)))
        replace OV2 := hid (OV2.out.keptG hgr (fun v hv e => OV2.out.ne_blk PX.out ts1 v hv (by simpa using e)))
        replace OU := hid (OU.out.keptG hgr (fun v hv e => OU.out.ne_blk PX.out ts1 v hv (by simpa using e)))
        replace PW := hid (PW.out.grown hgr (by have := GM.out; have := GW.out; have := GR.out; simp; omega))
        replace PM := hid (PM.out.grown hgr (by have := GM.out; have := GW.out; have := GR.out; simp; omega))
        replace HB := hid (HB.out.grown hgr HB.out.size (fun r e => by cases e; have := GM.out; have := GW.out; have := GR.out; omega))
        clear hgr PX
        have hw1 : IntKind.i64.wrap ((j : Int) + 1) = (j : Int) + 1 := by rw [IntKind.wrap_i64]; omega
        by_cases hjm : j = m4 + 1
        · skip
          have b1 : (s3.ph == 4) = true := by have h := HAR2.out.ph; rw [hlv.out] at h; rw [h]; (repeat' split) <;> first | rfl | omega
          have b2 : ((j : Int) == (m4 : Int) + 1) = true := by simp; omega
          obtain ⟨y00, y01, y02, y03, y04, y05, y06, yf0⟩ := PR.out.cells7
          go_wp2_with fail
          go_roundw
          case rel => exact ⟨rfl, j + 1, by omega, by go_num, ⟨⟨_, _, _, _, _, _, _, _, _, m3, s3, _, _, _, t2, PM.out, OM3.out, PR.out, OV3.out, PW.out, OU.out, HAM.out, HFL.out, HAR2.out, HGD.out, HOK2.out, HOW.out, HP4.out⟩, OV2.out, HB.out⟩⟩
          case measure => simp [intOf]; omega
        · skip
          have b1 : (s3.ph == 4) = false := by have h := HAR2.out.ph; rw [hlv.out] at h; rw [h]; (repeat' split) <;> first | rfl | omega
          have b2 : ((j : Int) == (m4 : Int) + 1) = false := by simp; omega
          obtain ⟨y00, y01, y02, y03, y04, y05, y06, yf0⟩ := PR.out.cells7
          go_wp2_with fail
          go_roundw
          case rel => exact ⟨rfl, j + 1, by omega, by go_num, ⟨⟨_, _, _, _, _, _, _, _, _, m3, s3, _, _, _, t2, PM.out, OM3.out, PR.out, OV3.out, PW.out, OU.out, HAM.out, HFL.out, HAR2.out, HGD.out, HOK2.out, HOW.out, HP4.out⟩, OV2.out, HB.out⟩⟩
          case measure => simp [intOf]; omega
    have hji : (j : Int) < (m4 : Int) + 3 := by omega
    obtain ⟨y00, y01, y02, yf0⟩ := PM.out.cells3
    obtain ⟨y10, y11, y12, y13, y14, y15, yf1⟩ := PW.out.cells6
    go_wp2_with fail
    clear y00 y01 y02 yf0 y10 y11 y12 y13 y14 y15 yf1
    obtain ⟨⟨m2, s2⟩, hr⟩ : ∃ x, x = swriteF m s := ⟨_, rfl⟩
    have HC := hid (show swriteC m s = (0, m2, s2) by unfold swriteC; rw [if_neg (not_not_intro HGD.out), if_neg (not_not_intro HOK.out), hr])
    have HAL2 := hid (show AlW ws (j + 1) m2 s2 by have h := HAL.out.step (by rw [hlv.out]; omega) (by rw [hlv.out]; omega) (by rw [hlv.out]; exact hjn); rwa [← hr] at h)
    have HGD2 := hid (show MGood m2.1 m2.2.1 by have h := swriteF_good (s := s) HGD.out; rwa [← hr] at h)
    have HOK2 := hid (show WrOkS s2 by have h := swriteF_ok (m := m) HOK.out; rwa [← hr] at h)
    refine (apiwrite_any A1 n1 c1 B1 k1 d1 m s V1 vn1 vc1 _ OM.out.mem (OV.out.sl.mono (Nat.zero_le _) (Nat.le_refl _)) (by rw [← OV.out.len, HAL.out.v, hlv.out]; omega)).mono ?_
    rw [HC.out]
    rintro e w7 ⟨A3, n3, c3', B3, k3, d3', V3, vn3, vc3, rfl, om, ov, _, hb⟩
    dsimp only at om ov
    have hs7 := hid HB.out.size
    replace PM := hid (PM.out.step hb); replace OM := hid (OM.out.step hb); replace PW := hid (PW.out.step hb); replace OV := hid (OV.out.step hb); replace PR := hid (PR.out.step hb); replace OV2 := hid (OV2.out.step hb); replace HB := hid (below_then HB.out hb)
    have OM3 := hid (om.mono (show w.heap.size ≤ _ from hs7.out)); have OV3 := hid (ov.mono (show w.heap.size ≤ _ from hs7.out))
    clear om ov hb hr OM OV
    have hgr : w7.grownBy (((w7.setCell ⟨w3.heap.size, 0, none⟩ (.slice A3 n3 c3')).setCell ⟨w3.heap.size, 1, none⟩ (.slice B3 k3 d3')).setCell ⟨w3.heap.size, 2, none⟩ (.bool m2.2.2)) (some (w3.heap.size)) := (grown_set (grown_set (grown_set (World.grownBy.refl w7 (some (w3.heap.size))) 0 (.slice A3 n3 c3')) 1 (.slice B3 k3 d3')) 2 (.bool m2.2.2))
    have PX := PM; have hpx : Hid (Blk (((w7.setCell ⟨w3.heap.size, 0, none⟩ (.slice A3 n3 c3')).setCell ⟨w3.heap.size, 1, none⟩ (.slice B3 k3 d3')).setCell ⟨w3.heap.size, 2, none⟩ (.bool m2.2.2)) (w3.heap.size) 44 #[.slice A3 n3 c3', .slice B3 k3 d3', .bool m2.2.2]) := hid (((PM.out.setCell 0 (.slice A3 n3 c3')).setCell 1 (.slice B3 k3 d3')).setCell 2 (.bool m2.2.2))
    obtain ⟨y00, y01, y02, yf0⟩ := PX.out.cells3
    replace OM3 := hid (mown_kept OM3.out PX.out tm1 tm2 hgr)
    replace OV3 := hid (OV3.out.keptG hgr (fun v hv e => OV3.out.ne_blk PX.out tm1 v hv (by simpa using e)))
    replace OV2 := hid (OV2.out.keptG hgr (fun v hv e => OV2.out.ne_blk PX.out tm1 v hv (by simpa using e)))
    replace PR := hid (PR.out.grown hgr (by have := GM.out; have := GW.out; have := GR.out; simp; omega))
    replace PW := hid (PW.out.grown hgr (by have := GM.out; have := GW.out; have := GR.out; simp; omega))
    replace HB := hid (HB.out.grown hgr HB.out.size (fun r e => by cases e; have := GM.out; have := GW.out; have := GR.out; omega))
    replace PM := hpx
    clear hgr hpx
    obtain ⟨z0, z1, z2, z3, z4, z5, zf⟩ := PW.out.cells6
    go_upto_region 15 with fail
    clear y00 y01 y02 yf0 z0 z1 z2 z3 z4 z5 zf PX
    generalize (((w7.setCell ⟨w3.heap.size, 0, none⟩ (.slice A3 n3 c3')).setCell ⟨w3.heap.size, 1, none⟩ (.slice B3 k3 d3')).setCell ⟨w3.heap.size, 2, none⟩ (.bool m2.2.2)) = Wp at *
    have PX := PW
    have hbk0 : Blk (Wp.setCell ⟨w5.heap.size, 0, none⟩ (.int .i64 s2.a)) (w5.heap.size) 34 #[.int .i64 s2.a, .int .i64 s.f, .slice V1 vn1 vc1, .int .i64 s.ph, .int .u64 s.bg, .int .i64 s.wr] := PW.out.setCell 0 (.int .i64 s2.a)
    have hbk1 : Blk ((Wp.setCell ⟨w5.heap.size, 0, none⟩ (.int .i64 s2.a)).setCell ⟨w5.heap.size, 1, none⟩ (.int .i64 s2.f)) (w5.heap.size) 34 #[.int .i64 s2.a, .int .i64 s2.f, .slice V1 vn1 vc1, .int .i64 s.ph, .int .u64 s.bg, .int .i64 s.wr] := hbk0.setCell 1 (.int .i64 s2.f)
    have hbk2 : Blk (((Wp.setCell ⟨w5.heap.size, 0, none⟩ (.int .i64 s2.a)).setCell ⟨w5.heap.size, 1, none⟩ (.int .i64 s2.f)).setCell ⟨w5.heap.size, 2, none⟩ (.slice V3 vn3 vc3)) (w5.heap.size) 34 #[.int .i64 s2.a, .int .i64 s2.f, .slice V3 vn3 vc3, .int .i64 s.ph, .int .u64 s.bg, .int .i64 s.wr] := hbk1.setCell 2 (.slice V3 vn3 vc3)
    have hbk3 : Blk ((((Wp.setCell ⟨w5.heap.size, 0, none⟩ (.int .i64 s2.a)).setCell ⟨w5.heap.size, 1, none⟩ (.int .i64 s2.f)).setCell ⟨w5.heap.size, 2, none⟩ (.slice V3 vn3 vc3)).setCell ⟨w5.heap.size, 3, none⟩ (.int .i64 s2.ph)) (w5.heap.size) 34 #[.int .i64 s2.a, .int .i64 s2.f, .slice V3 vn3 vc3, .int .i64 s2.ph, .int .u64 s.bg, .int .i64 s.wr] := hbk2.setCell 3 (.int .i64 s2.ph)
    have hbk4 : Blk (((((Wp.setCell ⟨w5.heap.size, 0, none⟩ (.int .i64 s2.a)).setCell ⟨w5.heap.size, 1, none⟩ (.int .i64 s2.f)).setCell ⟨w5.heap.size, 2, none⟩ (.slice V3 vn3 vc3)).setCell ⟨w5.heap.size, 3, none⟩ (.int .i64 s2.ph)).setCell ⟨w5.heap.size, 4, none⟩ (.int .u64 s2.bg)) (w5.heap.size) 34 #[.int .i64 s2.a, .int .i64 s2.f, .slice V3 vn3 vc3, .int .i64 s2.ph, .int .u64 s2.bg, .int .i64 s.wr] := hbk3.setCell 4 (.int .u64 s2.bg)
    have hbk5 : Blk ((((((Wp.setCell ⟨w5.heap.size, 0, none⟩ (.int .i64 s2.a)).setCell ⟨w5.heap.size, 1, none⟩ (.int .i64 s2.f)).setCell ⟨w5.heap.size, 2, none⟩ (.slice V3 vn3 vc3)).setCell ⟨w5.heap.size, 3, none⟩ (.int .i64 s2.ph)).setCell ⟨w5.heap.size, 4, none⟩ (.int .u64 s2.bg)).setCell ⟨w5.heap.size, 5, none⟩ (.int .i64 s2.wr)) (w5.heap.size) 34 #[.int .i64 s2.a, .int .i64 s2.f, .slice V3 vn3 vc3, .int .i64 s2.ph, .int .u64 s2.bg, .int .i64 s2.wr] := hbk4.setCell 5 (.int .i64 s2.wr)
    have hgr : Wp.grownBy ((((((Wp.setCell ⟨w5.heap.size, 0, none⟩ (.int .i64 s2.a)).setCell ⟨w5.heap.size, 1, none⟩ (.int .i64 s2.f)).setCell ⟨w5.heap.size, 2, none⟩ (.slice V3 vn3 vc3)).setCell ⟨w5.heap.size, 3, none⟩ (.int .i64 s2.ph)).setCell ⟨w5.heap.size, 4, none⟩ (.int .u64 s2.bg)).setCell ⟨w5.heap.size, 5, none⟩ (.int .i64 s2.wr)) (some (w5.heap.size)) := (grown_set (grown_set (grown_set (grown_set (grown_set (grown_set (World.grownBy.refl Wp (some (w5.heap.size))) 0 (.int .i64 s2.a)) 1 (.int .i64 s2.f)) 2 (.slice V3 vn3 vc3)) 3 (.int .i64 s2.ph)) 4 (.int .u64 s2.bg)) 5 (.int .i64 s2.wr))
    replace PW := hid hbk5
    clear hbk0 hbk1 hbk2 hbk3 hbk4 hbk5
    generalize (((((Wp.setCell ⟨w5.heap.size, 0, none⟩ (.int .i64 s2.a)).setCell ⟨w5.heap.size, 1, none⟩ (.int .i64 s2.f)).setCell ⟨w5.heap.size, 2, none⟩ (.slice V3 vn3 vc3)).setCell ⟨w5.heap.size, 3, none⟩ (.int .i64 s2.ph)).setCell ⟨w5.heap.size, 4, none⟩ (.int .u64 s2.bg)).setCell ⟨w5.heap.size, 5, none⟩ (.int .i64 s2.wr) = W8 at *
    replace OM3 := hid (mown_kept OM3.out PX.out tq1 tq2 hgr)
    replace OV3 := hid (OV3.out.keptG hgr (fun v hv e => OV3.out.ne_blk PX.out tq1 v hv (by simpa using e)))
    replace OV2 := hid (OV2.out.keptG hgr (fun v hv e => OV2.out.ne_blk PX.out tq1 v hv (by simpa using e)))
    replace PR := hid (PR.out.grown hgr (by have := GM.out; have := GW.out; have := GR.out; simp; omega))
    replace PM := hid (PM.out.grown hgr (by have := GM.out; have := GW.out; have := GR.out; simp; omega))
    replace HB := hid (HB.out.grown hgr HB.out.size (fun r e => by cases e; have := GM.out; have := GW.out; have := GR.out; omega))
    clear hgr PX
    obtain rfl : 20 = n3 := by rw [← OM3.out.oa.len, HAL2.out.lw]
    obtain ⟨ga, rfl, _, _, a0, _⟩ := OM3.out.oa.at_ 0 (k := 19) (by omega)
    have hw1 : IntKind.i64.wrap ((j : Int) + 1) = (j : Int) + 1 := by rw [IntKind.wrap_i64]; omega
    by_cases hj0 : j = 0
    · skip
      have a1 : m2.1[19]?.getD 0 = 0 := by have h := HAL2.out.cnt; rw [hlv.out] at h; rw [h]; (repeat' split) <;> omega
      rw [a1] at a0
      have b1 : (s2.ph == 4) = false := by have h := HAL2.out.ph; rw [hlv.out] at h; rw [h]; (repeat' split) <;> first | rfl | omega
      have b2 : ((j : Int) == (m4 : Int) + 2) = false := by simp; omega
      have b3 : decide ((1 : Int) ≤ (j : Int)) = false := decide_eq_false (by omega)
      have b4 : decide ((j : Int) < (m4 : Int) + 2) = true := decide_eq_true (by omega)
      obtain ⟨y00, y01, y02, yf0⟩ := PM.out.cells3
      obtain ⟨y10, y11, y12, y13, y14, y15, yf1⟩ := PW.out.cells6
      go_wp2_with fail
      go_roundw
      case rel => exact ⟨rfl, j + 1, by omega, by go_num, ⟨⟨_, _, _, _, _, _, _, _, _, m2, s2, PM.out, OM3.out, PW.out, OV3.out, HAL2.out, HGD2.out, HOK2.out⟩, PR.out, OV2.out, HB.out⟩⟩
      case measure => simp [intOf]; omega
    by_cases hjm : j < m4 + 2
    · skip
      have a1 : m2.1[19]?.getD 0 = 1 := by have h := HAL2.out.cnt; rw [hlv.out] at h; rw [h]; (repeat' split) <;> omega
      rw [a1] at a0
      have b1 : (s2.ph == 4) = false := by have h := HAL2.out.ph; rw [hlv.out] at h; rw [h]; (repeat' split) <;> first | rfl | omega
      have b2 : ((j : Int) == (m4 : Int) + 2) = false := by simp; omega
      have b3 : decide ((1 : Int) ≤ (j : Int)) = true := decide_eq_true (by omega)
      have b4 : decide ((j : Int) < (m4 : Int) + 2) = true := decide_eq_true (by omega)
      obtain ⟨y00, y01, y02, yf0⟩ := PM.out.cells3
      obtain ⟨y10, y11, y12, y13, y14, y15, yf1⟩ := PW.out.cells6
      go_wp2_with fail
      go_roundw
      case rel => exact ⟨rfl, j + 1, by omega, by go_num, ⟨⟨_, _, _, _, _, _, _, _, _, m2, s2, PM.out, OM3.out, PW.out, OV3.out, HAL2.out, HGD2.out, HOK2.out⟩, PR.out, OV2.out, HB.out⟩⟩
      case measure => simp [intOf]; omega
    · skip
      have a1 : m2.1[19]?.getD 0 = 2 := by have h := HAL2.out.cnt; rw [hlv.out] at h; rw [h]; (repeat' split) <;> omega
      rw [a1] at a0
      have b1 : (s2.ph == 4) = true := by have h := HAL2.out.ph; rw [hlv.out] at h; rw [h]; (repeat' split) <;> first | rfl | omega
      have b2 : ((j : Int) == (m4 : Int) + 2) = true := by simp; omega
      have b3 : decide ((1 : Int) ≤ (j : Int)) = true := decide_eq_true (by omega)
      have b4 : decide ((j : Int) < (m4 : Int) + 2) = false := decide_eq_false (by omega)
      obtain ⟨y00, y01, y02, yf0⟩ := PM.out.cells3
      obtain ⟨y10, y11, y12, y13, y14, y15, yf1⟩ := PW.out.cells6
      go_wp2_with fail
      go_roundw
      case rel => exact ⟨rfl, j + 1, by omega, by go_num, ⟨⟨_, _, _, _, _, _, _, _, _, m2, s2, PM.out, OM3.out, PW.out, OV3.out, HAL2.out, HGD2.out, HOK2.out⟩, PR.out, OV2.out, HB.out⟩⟩
      case measure => simp [intOf]; omega
end Go.Proofs.Ytnkaajkdjbdpaaa
