/- afterglowlaw13.QueuePuts. -/
import Derived.Test.YtkdbmlddndgjjaaQw
import Derived.Deep.RegionHeld3
namespace Go.Proofs.Ytkdbmlddndgjjaa
open Go.RowKit
theorem putF_len (o : Int) (l : List Cb) (x a : Int) : (putF o l x a).2.1.length ≤ l.length + 1 := by
  unfold putF
  split
  · simp
  · split
    · simp
    · split
      · simp
      · split <;> simp
theorem endF_len (o : Int) (l : List Cb) (x : Int) : (endF o l x).2.1.length ≤ l.length := by
  unfold endF
  split
  · simp
  · split <;> simp
theorem putF_bad {o : Int} {l : List Cb} (x a : Int) (h : ¬ QGood o l) : putF o l x a = (0, [], 230) := by rw [putF, if_pos h]
theorem endF_bad {o : Int} {l : List Cb} (x : Int) (h : ¬ QGood o l) : endF o l x = (0, [], 230) := by rw [endF, if_pos h]
theorem sameQ_self (o : Int) (l : List Cb) : sameQ o l o l = true := by simp [sameQ]
theorem idx_two (p q : Int) (i : Nat) (hi : i < 2) : ∃ x : Int, ∀ W, (Instr.index 27 (.agg #[.int .u64 p, .int .u64 q]) (.int .i64 i)).run Try.prog W = .ok (.int .u64 x) W := by
  obtain rfl | rfl : i = 0 ∨ i = 1 := by omega
  · refine ⟨p, fun W => ?_⟩
    rw [Int.natCast_zero]
    rfl
  · refine ⟨q, fun W => ?_⟩
    rw [show ((1 : Nat) : Int) = 1 from rfl]
    rfl
set_option maxRecDepth 100000 in
set_option maxHeartbeats 8000000 in
theorem qputs_any (A : Option Addr) (n c : Nat) (o : Int) (xs : List Cb) (L : Option Addr) (nl cl : Nat) (ws : List Int) (p q : Int) (w : World) (hx : Sm 2 encC (0, 0) w 0 w.heap.size A n xs) (hnc : n ≤ c) (h0 : 0 ≤ o)
    (hw : Sl u64v 0 w 0 w.heap.size L nl ws) (hnl : nl ≤ 9223372036854775807) :
    Calls Try.prog 3 #[qv A n c o, .slice L nl cl, .agg #[.int .u64 p, .int .u64 q]] w fun e w' => e = .returned (.bool true) ∧ Below w.heap.size w w' := by
  have HX := hid hx; have HW := hid hw; have HB := hid (Below.refl w.heap.size w)
  clear hx hw
  have bx := below_box w (.cells (qcs A n c o) 25)
  replace HX := hid (HX.out.step bx); replace HW := hid (HW.out.step bx); replace HB := hid (below_then HB.out bx)
  clear bx
  have P3 := hid (Blk.new w 25 (qcs A n c o))
  have bx := below_box (w.alloc (.cells (qcs A n c o) 25)) (.cells #[.int .u64 p, .int .u64 q] 27)
  replace HX := hid (HX.out.step bx); replace HW := hid (HW.out.step bx); replace P3 := hid (P3.out.step bx); replace HB := hid (below_then HB.out bx)
  clear bx
  have P5 := hid (Blk.new2 w 27 #[.int .u64 p, .int .u64 q] (.cells (qcs A n c o) 25))
  go_enter Try.func3, Try.ntmps3
  go_wp2_with fail
  generalize (w.alloc (.cells (qcs A n c o) 25)).alloc (.cells #[.int .u64 p, .int .u64 q] 27) = W0 at *
  refine (qwakes_any W0).mono ?_
  rintro e w1 ⟨rfl, hb⟩
  replace HX := hid (HX.out.step hb); replace HW := hid (HW.out.step hb); replace P3 := hid (P3.out.step hb); replace P5 := hid (P5.out.step hb); replace HB := hid (below_then HB.out hb)
  clear hb
  obtain ⟨y00, y01, yf0⟩ := P3.out.cells2
  go_wp2_with fail
  clear y00 y01 yf0
  refine (qown_any A n c o xs w1 HX.out hnc).mono ?_
  rintro e w2 ⟨A2, n2, c2, rfl, hn2, ho, hb⟩
  replace HX := hid (HX.out.step hb); replace HW := hid (HW.out.step hb); replace P3 := hid (P3.out.step hb); replace P5 := hid (P5.out.step hb); replace HB := hid (below_then HB.out hb)
  have hnc2 := ho.cap.1
  have O2 := hid (Qown.ofOm ho)
  clear ho hb
  obtain ⟨ys, hys⟩ : ∃ ys, ys = xs.take 20 := ⟨_, rfl⟩
  rw [← hys] at O2
  have HYS := hid hys
  have hyl := hid (show ys.length ≤ 20 by rw [hys]; exact List.length_take_le _ _)
  clear hys
  have bx := below_box w2 (.cells (qcs A2 n2 c2 o) 25)
  replace HX := hid (HX.out.step bx); replace HW := hid (HW.out.step bx); replace P3 := hid (P3.out.step bx); replace P5 := hid (P5.out.step bx); replace O2 := hid (O2.out.step bx); replace HB := hid (below_then HB.out bx)
  clear bx
  have P7 := hid (Blk.new w2 25 (qcs A2 n2 c2 o))
  obtain ⟨y00, y01, yf0⟩ := P7.out.cells2
  go_wp2_with fail
  clear y00 y01 yf0
  generalize w2.alloc (.cells (qcs A2 n2 c2 o) 25) = W2 at *
  refine (qright_any A2 n2 c2 o ys W2 (O2.out.sm.mono (Nat.zero_le _) (Nat.le_refl _)) (by omega) hnc2 h0).mono ?_
  rintro e w3 ⟨rfl, hb⟩
  replace HX := hid (HX.out.step hb); replace HW := hid (HW.out.step hb); replace P3 := hid (P3.out.step hb); replace P5 := hid (P5.out.step hb); replace O2 := hid (O2.out.step hb); replace P7 := hid (P7.out.step hb); replace HB := hid (below_then HB.out hb)
  clear hb
  obtain ⟨bR, hbR⟩ : ∃ b, b = decide (QGood o ys) := ⟨_, rfl⟩
  rw [← hbR]
  have HBR := hid hbR
  clear hbR
  go_wp2_with fail
  have HBx := HB; have X3 := P3; have X5 := P5; have X7 := P7; have XO := O2; have XX := HX; have XW := HW; have H0 := hid (Below.refl w3.heap.size w3)
  go_loopw [30] (fun i wr => ∃ j : Nat, j ≤ nl ∧ i = .int .i64 j ∧ Below w3.heap.size w3 wr) (fun i _ => nl - (intOf i).toNat)
  case atStart => exact ⟨0, Nat.zero_le _, rfl, H0.out⟩
  case round =>
    clear HB P3 P5 P7 O2 HX HW H0
    obtain ⟨j, hj, rfl, hbr⟩ := hrel
    have HB := hid (below_then HBx.out hbr); have P3 := hid (X3.out.step hbr); have P5 := hid (X5.out.step hbr); have P7 := hid (X7.out.step hbr); have O2 := hid (XO.out.step hbr); have HX := hid (XX.out.step hbr); have HW := hid (XW.out.step hbr); have HBr := hid hbr; have HL := hid (Below.refl wr.heap.size wr)
    have hsr := hid hbr.size; have hs0 := hid (HBx.out.size)
    clear hbr
    by_cases hjl : j < nl
    · by_cases hj6 : j = 6
      · subst hj6
        simp only [show ((6 : Nat) : Int) = 6 from rfl]
        obtain ⟨b, off, rfl, _, hbh, hc⟩ := HW.out.row (by omega)
        have f0 := hc 6 hjl
        clear hc
        obtain ⟨y00, y01, yf0⟩ := P5.out.cells2
        go_wp2_with fail
        clear y00 y01 yf0 f0
        generalize hD : decide ((6 : Int) < (nl : Int)) = bD
        clear hD hjl hj
        clear HL HBr hsr
        have H1 := hid (Below.refl wr.heap.size wr); have HBy := HB; have Y3 := P3; have Y7 := P7; have YO := O2; have YX := HX
        replace hs0 := hid HBy.out.size
        go_loopw [69] (fun i wz => ∃ j : Nat, j ≤ 2 ∧ i = .int .i64 j ∧ Below wr.heap.size wr wz) (fun i _ => 2 - (intOf i).toNat)
        case atStart => exact ⟨0, Nat.zero_le _, rfl, H1.out⟩
        case round =>
          clear HB P3 P5 P7 O2 HX HW H1 X3 X5 X7 XO XX XW
          rename World => wz
          obtain ⟨i, hi, rfl, hbr⟩ := hrel
          have HB := hid (below_then HBy.out hbr); have P3 := hid (Y3.out.step hbr); have P7 := hid (Y7.out.step hbr); have O2 := hid (YO.out.step hbr); have HX := hid (YX.out.step hbr); have HBr := hid hbr; have HL := hid (Below.refl wz.heap.size wz)
          have hsr := hid hbr.size
          clear hbr
          rcases Nat.lt_or_ge i 2 with hi2 | hi2
          · obtain ⟨y, hy⟩ := idx_two p q i hi2
            have hi2i : (i : Int) < 2 := by omega
            obtain ⟨y00, y01, yf0⟩ := P7.out.cells2
            go_wp2_with fail
            clear y00 y01 yf0 hy
            refine (qend_any A2 n2 c2 o ys y wz (O2.out.sm.mono (Nat.zero_le _) (Nat.le_refl _)) (by omega) h0).mono ?_
            rintro e w18 ⟨A8, n8, c8, rfl, o8, hb, _⟩
            obtain ⟨r, hr⟩ : ∃ r, r = endF o ys y := ⟨_, rfl⟩
            obtain ⟨ro, rl, rc⟩ := r
            have hlen := endF_len o ys y
            rw [← hr] at o8 hlen ⊢
            have HR := hid hr
            clear hr
            dsimp only at o8 hlen ⊢
            have hn8 : n8 ≤ 21 := by have := o8.sm.len; have := hyl.out; omega
            replace P3 := hid (P3.out.step hb); replace P7 := hid (P7.out.step hb); replace O2 := hid (O2.out.step hb); replace HX := hid (HX.out.step hb); replace HB := hid (below_then HB.out hb); replace HBr := hid (below_then HBr.out hb); replace HL := hid (below_then HL.out hb)
            have OX := hid o8; have H8 := hid (Below.refl w18.heap.size w18)
            have hs8 := hid hb.size
            clear hb o8 hlen
            have bx := below_box w18 (.cells (qcs A8 n8 c8 ro) 25)
            replace P3 := hid (P3.out.step bx); replace P7 := hid (P7.out.step bx); replace O2 := hid (O2.out.step bx); replace HX := hid (HX.out.step bx); replace HB := hid (below_then HB.out bx); replace HBr := hid (below_then HBr.out bx); replace HL := hid (below_then HL.out bx); replace H8 := hid (below_then H8.out bx)
            clear bx
            have P18 := hid (Blk.new w18 25 (qcs A8 n8 c8 ro))
            have bx := below_box (w18.alloc (.cells (qcs A8 n8 c8 ro) 25)) (.cells (qcs none 0 0 0) 25)
            replace P3 := hid (P3.out.step bx); replace P7 := hid (P7.out.step bx); replace O2 := hid (O2.out.step bx); replace HX := hid (HX.out.step bx); replace P18 := hid (P18.out.step bx); replace HB := hid (below_then HB.out bx); replace HBr := hid (below_then HBr.out bx); replace HL := hid (below_then HL.out bx); replace H8 := hid (below_then H8.out bx)
            clear bx
            have P20 := hid (Blk.new2 w18 25 (qcs none 0 0 0) (.cells (qcs A8 n8 c8 ro) 25))
            rcases bR with _ | _
            · skip
              have hbad : ¬ QGood o ys := of_decide_eq_false HBR.out.symm
              have hr := HR.out
              rw [endF_bad y hbad] at hr
              simp only [Prod.mk.injEq] at hr
              obtain ⟨rfl, rfl, rfl⟩ := hr
              clear hbad
              have hcc : ((230 : Int) != 230) = false := by simp
              obtain ⟨y00, y01, yf0⟩ := P18.out.cells2
              obtain ⟨y10, y11, yf1⟩ := P20.out.cells2
              go_wp2_with fail
              clear y00 y01 yf0 y10 y11 yf1
              have O8 := hid (OX.out.step H8.out)
              refine (qrsame_any A8 n8 c8 0 [] none 0 0 0 [] _ (O8.out.sm.mono (Nat.zero_le _) (Nat.le_refl _)) (Sm.nil _ _ _ _) (by omega) (by omega)).mono ?_
              rintro e w14 ⟨rfl, hb⟩
              replace P3 := hid (P3.out.step hb); replace P7 := hid (P7.out.step hb); replace O2 := hid (O2.out.step hb); replace HX := hid (HX.out.step hb); replace P18 := hid (P18.out.step hb); replace P20 := hid (P20.out.step hb); replace O8 := hid (O8.out.step hb); replace HB := hid (below_then HB.out hb); replace HBr := hid (below_then HBr.out hb); replace HL := hid (below_then HL.out hb); replace H8 := hid (below_then H8.out hb)
              clear hb
              rw [sameQ_self]
              obtain ⟨y00, y01, yf0⟩ := P18.out.cells2
              go_wp2_with fail
              clear y00 y01 yf0
              refine (qspoil_any wz.heap.size A8 n8 c8 0 [] _ O8.out HL.out.size (by omega)).mono ?_
              rintro e w16 ⟨⟨v, rfl⟩, hb⟩
              have HN := hid (HBr.out.trans (hb.mono hsr.out))
              clear hb hcc
              go_wp2
              go_roundw
              case rel => exact ⟨i + 1, by omega, by go_num, HN.out⟩
              case measure => simp [intOf] <;> omega
            · have HG := hid (of_decide_eq_true HBR.out.symm)
              by_cases h1 : y < o
              · have h1' : ¬ o ≤ y := by omega
                have hr := HR.out
                rw [endF, if_neg (not_not_intro HG.out), if_pos (by omega)] at hr
                simp only [Prod.mk.injEq] at hr
                obtain ⟨rfl, rfl, rfl⟩ := hr
                have hcc : ((2 : Int) != 2) = false := by simp
                obtain ⟨y00, y01, yf0⟩ := P7.out.cells2
                obtain ⟨y10, y11, yf1⟩ := P18.out.cells2
                obtain ⟨y20, y21, yf2⟩ := P20.out.cells2
                go_wp2_with fail
                clear y00 y01 yf0 y10 y11 yf1 y20 y21 yf2
                have O8 := hid (OX.out.step H8.out)
                refine (qrsame_any A8 n8 c8 0 [] none 0 0 0 [] _ (O8.out.sm.mono (Nat.zero_le _) (Nat.le_refl _)) (Sm.nil _ _ _ _) (by omega) (by omega)).mono ?_
                rintro e w14 ⟨rfl, hb⟩
                replace P3 := hid (P3.out.step hb); replace P7 := hid (P7.out.step hb); replace O2 := hid (O2.out.step hb); replace HX := hid (HX.out.step hb); replace P18 := hid (P18.out.step hb); replace P20 := hid (P20.out.step hb); replace O8 := hid (O8.out.step hb); replace HB := hid (below_then HB.out hb); replace HBr := hid (below_then HBr.out hb); replace HL := hid (below_then HL.out hb); replace H8 := hid (below_then H8.out hb)
                clear hb
                rw [sameQ_self]
                obtain ⟨y00, y01, yf0⟩ := P18.out.cells2
                go_wp2_with fail
                clear y00 y01 yf0
                refine (qspoil_any wz.heap.size A8 n8 c8 0 [] _ O8.out HL.out.size (by omega)).mono ?_
                rintro e w16 ⟨⟨v, rfl⟩, hb⟩
                have HN := hid (HBr.out.trans (hb.mono hsr.out))
                clear hb hcc
                go_wp2
                go_roundw
                case rel => exact ⟨i + 1, by omega, by go_num, HN.out⟩
                case measure => simp [intOf] <;> omega
              · have h1' : o ≤ y := by omega
                by_cases h2 : 9223372036854775806 < y
                · have h2' : ¬ y ≤ 9223372036854775806 := by omega
                  have hr := HR.out
                  rw [endF, if_neg (not_not_intro HG.out), if_pos (by omega)] at hr
                  simp only [Prod.mk.injEq] at hr
                  obtain ⟨rfl, rfl, rfl⟩ := hr
                  have hcc : ((2 : Int) != 2) = false := by simp
                  obtain ⟨y00, y01, yf0⟩ := P7.out.cells2
                  obtain ⟨y10, y11, yf1⟩ := P18.out.cells2
                  obtain ⟨y20, y21, yf2⟩ := P20.out.cells2
                  go_wp2_with fail
                  clear y00 y01 yf0 y10 y11 yf1 y20 y21 yf2
                  have O8 := hid (OX.out.step H8.out)
                  refine (qrsame_any A8 n8 c8 0 [] none 0 0 0 [] _ (O8.out.sm.mono (Nat.zero_le _) (Nat.le_refl _)) (Sm.nil _ _ _ _) (by omega) (by omega)).mono ?_
                  rintro e w14 ⟨rfl, hb⟩
                  replace P3 := hid (P3.out.step hb); replace P7 := hid (P7.out.step hb); replace O2 := hid (O2.out.step hb); replace HX := hid (HX.out.step hb); replace P18 := hid (P18.out.step hb); replace P20 := hid (P20.out.step hb); replace O8 := hid (O8.out.step hb); replace HB := hid (below_then HB.out hb); replace HBr := hid (below_then HBr.out hb); replace HL := hid (below_then HL.out hb); replace H8 := hid (below_then H8.out hb)
                  clear hb
                  rw [sameQ_self]
                  obtain ⟨y00, y01, yf0⟩ := P18.out.cells2
                  go_wp2_with fail
                  clear y00 y01 yf0
                  refine (qspoil_any wz.heap.size A8 n8 c8 0 [] _ O8.out HL.out.size (by omega)).mono ?_
                  rintro e w16 ⟨⟨v, rfl⟩, hb⟩
                  have HN := hid (HBr.out.trans (hb.mono hsr.out))
                  clear hb hcc
                  go_wp2
                  go_roundw
                  case rel => exact ⟨i + 1, by omega, by go_num, HN.out⟩
                  case measure => simp [intOf] <;> omega
                · have h2' : y ≤ 9223372036854775806 := by omega
                  have hr := HR.out
                  rw [endF, if_neg (not_not_intro HG.out), if_neg (by omega)] at hr
                  simp only [Prod.mk.injEq] at hr
                  obtain ⟨e1, e2, rfl⟩ := hr
                  obtain rfl := e1.symm
                  obtain rfl := e2.symm
                  have hcc : ((0 : Int) != 0) = false := by simp
                  obtain ⟨y00, y01, yf0⟩ := P7.out.cells2
                  obtain ⟨y10, y11, yf1⟩ := P3.out.cells2
                  go_wp2_with fail
                  clear y00 y01 yf0 y10 y11 yf1
                  refine (qown_any A n c o xs _ HX.out hnc).mono ?_
                  rintro e w13 ⟨A13, n13, c13, rfl, hn13, ho, hb⟩
                  replace P3 := hid (P3.out.step hb); replace P7 := hid (P7.out.step hb); replace O2 := hid (O2.out.step hb); replace HX := hid (HX.out.step hb); replace P18 := hid (P18.out.step hb); replace P20 := hid (P20.out.step hb); replace HB := hid (below_then HB.out hb); replace HBr := hid (below_then HBr.out hb); replace HL := hid (below_then HL.out hb); replace H8 := hid (below_then H8.out hb)
                  rw [← HYS.out] at ho
                  have O13 := hid (Qown.ofOm ho)
                  clear ho hb
                  have h20 := hid P20.out.lt
                  have hl13 : Hid (w18.heap.size + 1 < ((w18.alloc (.cells (qcs A8 n8 c8 y) 25)).alloc (.cells (qcs none 0 0 0) 25)).heap.size) := hid (by simp)
                  have PX := hid ((P20.out.setCell 0 (.slice A13 n13 c13)).setCell 1 (.int .u64 o))
                  have PY := hid (PX.out.setCell 1 (.int .u64 y))
                  replace P18 := hid (P18.out.far (p := ⟨w18.heap.size + 1, 0, none⟩) (by simp <;> omega) (.slice A13 n13 c13))
                  replace HB := hid (HB.out.setCell (p := ⟨w18.heap.size + 1, 0, none⟩) (by have := hs8.out; have := HBr.out.size; have := HB.out.size; have := hsr.out; have := hs0.out; simp <;> omega) (.slice A13 n13 c13))
                  replace HBr := hid (HBr.out.setCell (p := ⟨w18.heap.size + 1, 0, none⟩) (by have := hs8.out; have := HBr.out.size; have := HB.out.size; have := hsr.out; have := hs0.out; simp <;> omega) (.slice A13 n13 c13))
                  replace HL := hid (HL.out.setCell (p := ⟨w18.heap.size + 1, 0, none⟩) (by have := hs8.out; have := HBr.out.size; have := HB.out.size; have := hsr.out; have := hs0.out; simp <;> omega) (.slice A13 n13 c13))
                  replace H8 := hid (H8.out.setCell (p := ⟨w18.heap.size + 1, 0, none⟩) (by have := hs8.out; have := HBr.out.size; have := HB.out.size; have := hsr.out; have := hs0.out; simp <;> omega) (.slice A13 n13 c13))
                  replace P18 := hid (P18.out.far (p := ⟨w18.heap.size + 1, 1, none⟩) (by simp <;> omega) (.int .u64 o))
                  replace HB := hid (HB.out.setCell (p := ⟨w18.heap.size + 1, 1, none⟩) (by have := hs8.out; have := HBr.out.size; have := HB.out.size; have := hsr.out; have := hs0.out; simp <;> omega) (.int .u64 o))
                  replace HBr := hid (HBr.out.setCell (p := ⟨w18.heap.size + 1, 1, none⟩) (by have := hs8.out; have := HBr.out.size; have := HB.out.size; have := hsr.out; have := hs0.out; simp <;> omega) (.int .u64 o))
                  replace HL := hid (HL.out.setCell (p := ⟨w18.heap.size + 1, 1, none⟩) (by have := hs8.out; have := HBr.out.size; have := HB.out.size; have := hsr.out; have := hs0.out; simp <;> omega) (.int .u64 o))
                  replace H8 := hid (H8.out.setCell (p := ⟨w18.heap.size + 1, 1, none⟩) (by have := hs8.out; have := HBr.out.size; have := HB.out.size; have := hsr.out; have := hs0.out; simp <;> omega) (.int .u64 o))
                  replace P18 := hid (P18.out.far (p := ⟨w18.heap.size + 1, 1, none⟩) (by simp <;> omega) (.int .u64 y))
                  replace HB := hid (HB.out.setCell (p := ⟨w18.heap.size + 1, 1, none⟩) (by have := hs8.out; have := HBr.out.size; have := HB.out.size; have := hsr.out; have := hs0.out; simp <;> omega) (.int .u64 y))
                  replace HBr := hid (HBr.out.setCell (p := ⟨w18.heap.size + 1, 1, none⟩) (by have := hs8.out; have := HBr.out.size; have := HB.out.size; have := hsr.out; have := hs0.out; simp <;> omega) (.int .u64 y))
                  replace HL := hid (HL.out.setCell (p := ⟨w18.heap.size + 1, 1, none⟩) (by have := hs8.out; have := HBr.out.size; have := HB.out.size; have := hsr.out; have := hs0.out; simp <;> omega) (.int .u64 y))
                  replace H8 := hid (H8.out.setCell (p := ⟨w18.heap.size + 1, 1, none⟩) (by have := hs8.out; have := HBr.out.size; have := HB.out.size; have := hsr.out; have := hs0.out; simp <;> omega) (.int .u64 y))
                  replace O13 := hid (O13.out.setCell (p := ⟨w18.heap.size + 1, 0, none⟩) hl13.out (.slice A13 n13 c13))
                  replace O13 := hid (O13.out.setCell (p := ⟨w18.heap.size + 1, 1, none⟩) hl13.out (.int .u64 o))
                  replace O13 := hid (O13.out.setCell (p := ⟨w18.heap.size + 1, 1, none⟩) hl13.out (.int .u64 y))
                  obtain ⟨u0, u1, uf⟩ := P20.out.cells2
                  obtain ⟨x0, x1, xf⟩ := PX.out.cells2
                  obtain ⟨y00, y01, yf0⟩ := PY.out.cells2
                  obtain ⟨y10, y11, yf1⟩ := P18.out.cells2
                  go_wp2_with fail
                  clear y00 y01 yf0 y10 y11 yf1 u0 u1 uf x0 x1 xf
                  have O8 := hid (OX.out.step H8.out)
                  refine (qrsame_any A8 n8 c8 y ys A13 n13 c13 y ys _ (O8.out.sm.mono (Nat.zero_le _) (Nat.le_refl _)) (O13.out.sm.mono (Nat.zero_le _) (Nat.le_refl _)) (by omega) (by omega)).mono ?_
                  rintro e w14 ⟨rfl, hb⟩
                  replace P18 := hid (P18.out.step hb); replace O13 := hid (O13.out.step hb); replace O8 := hid (O8.out.step hb); replace HB := hid (below_then HB.out hb); replace HBr := hid (below_then HBr.out hb); replace HL := hid (below_then HL.out hb); replace H8 := hid (below_then H8.out hb)
                  clear hb
                  rw [sameQ_self]
                  obtain ⟨y00, y01, yf0⟩ := P18.out.cells2
                  go_wp2_with fail
                  clear y00 y01 yf0
                  refine (qspoil_any wz.heap.size A8 n8 c8 y ys _ O8.out HL.out.size (by omega)).mono ?_
                  rintro e w16 ⟨⟨v, rfl⟩, hb⟩
                  have HN := hid (HBr.out.trans (hb.mono hsr.out))
                  clear hb hcc
                  go_wp2
                  go_roundw
                  case rel => exact ⟨i + 1, by omega, by go_num, HN.out⟩
                  case measure => simp [intOf] <;> omega
          · obtain rfl : i = 2 := by omega
            have HE := hid (show sameQ o ys o (xs.take 20) = true by rw [← HYS.out]; exact sameQ_self _ _)
            have HS : Hid (∀ w', Below wz.heap.size wz w' → (Below wz.heap.size wz w' ∧ w'.cell? ⟨w2.heap.size, 0, none⟩ = some (.slice A2 n2 c2) ∧ w'.cell? ⟨w2.heap.size, 1, none⟩ = some (.int .u64 o) ∧ w'.cell? ⟨w.heap.size, 0, none⟩ = some (.slice A n c) ∧ w'.cell? ⟨w.heap.size, 1, none⟩ = some (.int .u64 o))) := hid (fun w' hh => ⟨hh, (P7.out.step hh).cells2.1, (P7.out.step hh).cells2.2.1, (P3.out.step hh).cells2.1, (P3.out.step hh).cells2.2.1⟩)
            clear P3 P7
            go_wp2_with fail
            obtain ⟨_, k0, k1, k2, k3⟩ := HS.out wz (Below.refl _ _)
            go_region_held3 (fun w' => Below wz.heap.size wz w' ∧ w'.cell? ⟨w2.heap.size, 0, none⟩ = some (.slice A2 n2 c2) ∧ w'.cell? ⟨w2.heap.size, 1, none⟩ = some (.int .u64 o) ∧ w'.cell? ⟨w.heap.size, 0, none⟩ = some (.slice A n c) ∧ w'.cell? ⟨w.heap.size, 1, none⟩ = some (.int .u64 o))
              (first | (exact HS.out _ (Below.refl _ _).drew) | (go_keep; done) | (go_split_ands; exact HS.out _ (below_then (by assumption) hb)))
              (first
                | (go_at_call 8; go_split_ands; (with_reducible refine (qown_any A n c o xs _ (HX.out.step (by first | assumption | exact (Below.refl _ _).drew)) hnc).mono ?_); rintro e w' ⟨A', n', c', rfl, hn', ho, hb⟩)
                | (go_at_call 12; go_split_ands; (with_reducible refine (qrsame_any A2 n2 c2 o ys A' n' c' o (xs.take 20) w' (((O2.out.step (below_then (by assumption) hb)).sm).mono (Nat.zero_le _) (Nat.le_refl _)) ((Qown.ofOm ho).sm.mono (Nat.zero_le _) (Nat.le_refl _)) (by omega) (by omega)).mono ?_); rw [HE.out]; rintro e w'' ⟨rfl, hb⟩))
            go_wp2
            go_split_ands
            refine bodyPost_ret (v := .bool true) (by simp [results, Try.results3, go_sem]) rfl ⟨rfl, below_then HB.out (by assumption)⟩
      · have hj6b : ((j : Int) == 6) = false := by simp; omega
        obtain ⟨b, off, rfl, _, hbh, hc⟩ := HW.out.row (by omega)
        have f0 := hc j hjl
        obtain ⟨x, hxx⟩ : ∃ x, x = ws[j]?.getD 0 := ⟨_, rfl⟩
        rw [← hxx] at f0
        clear hc hxx
        obtain ⟨y00, y01, yf0⟩ := P7.out.cells2
        go_wp2_with fail
        clear y00 y01 yf0 f0
        generalize wrap64 (x.tmod 4) = a
        clear P5 HX HW P3
        refine (qput_any A2 n2 c2 o ys x a wr (O2.out.sm.mono (Nat.zero_le _) (Nat.le_refl _)) (by omega) h0 hnc2).mono ?_
        rintro e w8 ⟨A8, n8, c8, rfl, o8, hb, _⟩
        obtain ⟨r, hr⟩ : ∃ r, r = putF o ys x a := ⟨_, rfl⟩
        obtain ⟨ro, rl, rc⟩ := r
        have hlen := putF_len o ys x a
        rw [← hr] at o8 hlen ⊢
        have HR := hid hr
        clear hr
        dsimp only at o8 hlen ⊢
        have hn8 : n8 ≤ 21 := by have := o8.sm.len; have := hyl.out; omega
        replace P7 := hid (P7.out.step hb); replace O2 := hid (O2.out.step hb); replace HB := hid (below_then HB.out hb); replace HBr := hid (below_then HBr.out hb); replace HL := hid (below_then HL.out hb)
        have OX := hid o8; have H8 := hid (Below.refl w8.heap.size w8)
        have hs8 := hid hb.size
        clear hb o8 hlen
        have bx := below_box w8 (.cells (qcs A8 n8 c8 ro) 25)
        replace P7 := hid (P7.out.step bx); replace O2 := hid (O2.out.step bx); replace HB := hid (below_then HB.out bx); replace HBr := hid (below_then HBr.out bx); replace HL := hid (below_then HL.out bx); replace H8 := hid (below_then H8.out bx)
        clear bx
        have P12 := hid (Blk.new w8 25 (qcs A8 n8 c8 ro))
        have bx := below_box (w8.alloc (.cells (qcs A8 n8 c8 ro) 25)) (.cells (qcs none 0 0 0) 25)
        replace P7 := hid (P7.out.step bx); replace O2 := hid (O2.out.step bx); replace P12 := hid (P12.out.step bx); replace HB := hid (below_then HB.out bx); replace HBr := hid (below_then HBr.out bx); replace HL := hid (below_then HL.out bx); replace H8 := hid (below_then H8.out bx)
        clear bx
        have P14 := hid (Blk.new2 w8 25 (qcs none 0 0 0) (.cells (qcs A8 n8 c8 ro) 25))
        rcases bR with _ | _
        · skip
          have hbad : ¬ QGood o ys := of_decide_eq_false HBR.out.symm
          have hr := HR.out
          rw [putF_bad x a hbad] at hr
          simp only [Prod.mk.injEq] at hr
          obtain ⟨rfl, rfl, rfl⟩ := hr
          clear hbad
          have hcc : ((230 : Int) != 230) = false := by simp
          obtain ⟨y00, y01, yf0⟩ := P12.out.cells2
          obtain ⟨y10, y11, yf1⟩ := P14.out.cells2
          go_wp2_with fail
          clear y00 y01 yf0 y10 y11 yf1
          have O8 := hid (OX.out.step H8.out)
          refine (qrsame_any A8 n8 c8 0 [] none 0 0 0 [] _ (O8.out.sm.mono (Nat.zero_le _) (Nat.le_refl _)) (Sm.nil _ _ _ _) (by omega) (by omega)).mono ?_
          rintro e w14 ⟨rfl, hb⟩
          replace P7 := hid (P7.out.step hb); replace O2 := hid (O2.out.step hb); replace P12 := hid (P12.out.step hb); replace P14 := hid (P14.out.step hb); replace O8 := hid (O8.out.step hb); replace HB := hid (below_then HB.out hb); replace HBr := hid (below_then HBr.out hb); replace HL := hid (below_then HL.out hb); replace H8 := hid (below_then H8.out hb)
          clear hb
          rw [sameQ_self]
          obtain ⟨y00, y01, yf0⟩ := P12.out.cells2
          go_wp2_with fail
          clear y00 y01 yf0
          refine (qspoil_any wr.heap.size A8 n8 c8 0 [] _ O8.out HL.out.size (by omega)).mono ?_
          rintro e w16 ⟨⟨v, rfl⟩, hb⟩
          have HN := hid (HBr.out.trans (hb.mono hsr.out))
          clear hb hcc
          go_wp2
          go_roundw
          case rel => exact ⟨j + 1, by omega, by go_num, HN.out⟩
          case measure => simp [intOf] <;> omega
        · have HG := hid (of_decide_eq_true HBR.out.symm)
          have hcc : (rc != rc) = false := by simp
          obtain ⟨y00, y01, yf0⟩ := P7.out.cells2
          go_wp2_with fail
          clear y00 y01 yf0
          refine (qrput_any A2 n2 c2 o ys x a _ (O2.out.sm.mono (Nat.zero_le _) (Nat.le_refl _)) (by omega) h0 hnc2 HG.out).mono ?_
          rintro e w13 ⟨A13, n13, c13, rfl, o13, hb, _⟩
          replace P7 := hid (P7.out.step hb); replace O2 := hid (O2.out.step hb); replace P12 := hid (P12.out.step hb); replace P14 := hid (P14.out.step hb); replace HB := hid (below_then HB.out hb); replace HBr := hid (below_then HBr.out hb); replace HL := hid (below_then HL.out hb); replace H8 := hid (below_then H8.out hb)
          rw [← HR.out] at o13 ⊢
          dsimp only at o13 ⊢
          have O13 := hid o13
          clear o13 hb
          have hn13 : n13 ≤ 21 := by have := O13.out.sm.len; have := OX.out.sm.len; omega
          have hl13 : Hid (w8.heap.size + 1 < ((w8.alloc (.cells (qcs A8 n8 c8 ro) 25)).alloc (.cells (qcs none 0 0 0) 25)).heap.size) := hid (by simp)
          have PY := hid ((P14.out.setCell 0 (.slice A13 n13 c13)).setCell 1 (.int .u64 ro))
          replace P12 := hid (P12.out.far (p := ⟨w8.heap.size + 1, 0, none⟩) (by simp <;> omega) (.slice A13 n13 c13))
          replace HB := hid (HB.out.setCell (p := ⟨w8.heap.size + 1, 0, none⟩) (by have := hs8.out; have := HBr.out.size; have := HB.out.size; have := hsr.out; have := hs0.out; simp <;> omega) (.slice A13 n13 c13))
          replace HBr := hid (HBr.out.setCell (p := ⟨w8.heap.size + 1, 0, none⟩) (by have := hs8.out; have := HBr.out.size; have := HB.out.size; have := hsr.out; have := hs0.out; simp <;> omega) (.slice A13 n13 c13))
          replace HL := hid (HL.out.setCell (p := ⟨w8.heap.size + 1, 0, none⟩) (by have := hs8.out; have := HBr.out.size; have := HB.out.size; have := hsr.out; have := hs0.out; simp <;> omega) (.slice A13 n13 c13))
          replace H8 := hid (H8.out.setCell (p := ⟨w8.heap.size + 1, 0, none⟩) (by have := hs8.out; have := HBr.out.size; have := HB.out.size; have := hsr.out; have := hs0.out; simp <;> omega) (.slice A13 n13 c13))
          replace P12 := hid (P12.out.far (p := ⟨w8.heap.size + 1, 1, none⟩) (by simp <;> omega) (.int .u64 ro))
          replace HB := hid (HB.out.setCell (p := ⟨w8.heap.size + 1, 1, none⟩) (by have := hs8.out; have := HBr.out.size; have := HB.out.size; have := hsr.out; have := hs0.out; simp <;> omega) (.int .u64 ro))
          replace HBr := hid (HBr.out.setCell (p := ⟨w8.heap.size + 1, 1, none⟩) (by have := hs8.out; have := HBr.out.size; have := HB.out.size; have := hsr.out; have := hs0.out; simp <;> omega) (.int .u64 ro))
          replace HL := hid (HL.out.setCell (p := ⟨w8.heap.size + 1, 1, none⟩) (by have := hs8.out; have := HBr.out.size; have := HB.out.size; have := hsr.out; have := hs0.out; simp <;> omega) (.int .u64 ro))
          replace H8 := hid (H8.out.setCell (p := ⟨w8.heap.size + 1, 1, none⟩) (by have := hs8.out; have := HBr.out.size; have := HB.out.size; have := hsr.out; have := hs0.out; simp <;> omega) (.int .u64 ro))
          replace O13 := hid (O13.out.setCell (p := ⟨w8.heap.size + 1, 0, none⟩) hl13.out (.slice A13 n13 c13))
          replace O13 := hid (O13.out.setCell (p := ⟨w8.heap.size + 1, 1, none⟩) hl13.out (.int .u64 ro))
          obtain ⟨u0, u1, uf⟩ := P14.out.cells2
          obtain ⟨y00, y01, yf0⟩ := PY.out.cells2
          obtain ⟨y10, y11, yf1⟩ := P12.out.cells2
          go_wp2_with fail
          clear y00 y01 yf0 y10 y11 yf1 u0 u1 uf
          have O8 := hid (OX.out.step H8.out)
          refine (qrsame_any A8 n8 c8 ro rl A13 n13 c13 ro rl _ (O8.out.sm.mono (Nat.zero_le _) (Nat.le_refl _)) (O13.out.sm.mono (Nat.zero_le _) (Nat.le_refl _)) (by omega) (by omega)).mono ?_
          rintro e w14 ⟨rfl, hb⟩
          replace P12 := hid (P12.out.step hb); replace O13 := hid (O13.out.step hb); replace O8 := hid (O8.out.step hb); replace HB := hid (below_then HB.out hb); replace HBr := hid (below_then HBr.out hb); replace HL := hid (below_then HL.out hb); replace H8 := hid (below_then H8.out hb)
          clear hb
          rw [sameQ_self]
          obtain ⟨y00, y01, yf0⟩ := P12.out.cells2
          go_wp2_with fail
          clear y00 y01 yf0
          refine (qspoil_any wr.heap.size A8 n8 c8 ro rl _ O8.out HL.out.size (by omega)).mono ?_
          rintro e w16 ⟨⟨v, rfl⟩, hb⟩
          have HN := hid (HBr.out.trans (hb.mono hsr.out))
          clear hb hcc
          go_wp2
          go_roundw
          case rel => exact ⟨j + 1, by omega, by go_num, HN.out⟩
          case measure => simp [intOf] <;> omega
    · obtain rfl : j = nl := by omega
      obtain ⟨y00, y01, yf0⟩ := P5.out.cells2
      go_wp2_with fail
      clear y00 y01 yf0
      clear HL HBr hsr
      have H1 := hid (Below.refl wr.heap.size wr); have HBy := HB; have Y3 := P3; have Y7 := P7; have YO := O2; have YX := HX
      replace hs0 := hid HBy.out.size
      go_loopw [69] (fun i wz => ∃ j : Nat, j ≤ 2 ∧ i = .int .i64 j ∧ Below wr.heap.size wr wz) (fun i _ => 2 - (intOf i).toNat)
      case atStart => exact ⟨0, Nat.zero_le _, rfl, H1.out⟩
      case round =>
        clear HB P3 P5 P7 O2 HX HW H1 X3 X5 X7 XO XX XW
        rename World => wz
        obtain ⟨i, hi, rfl, hbr⟩ := hrel
        have HB := hid (below_then HBy.out hbr); have P3 := hid (Y3.out.step hbr); have P7 := hid (Y7.out.step hbr); have O2 := hid (YO.out.step hbr); have HX := hid (YX.out.step hbr); have HBr := hid hbr; have HL := hid (Below.refl wz.heap.size wz)
        have hsr := hid hbr.size
        clear hbr
        rcases Nat.lt_or_ge i 2 with hi2 | hi2
        · obtain ⟨y, hy⟩ := idx_two p q i hi2
          have hi2i : (i : Int) < 2 := by omega
          obtain ⟨y00, y01, yf0⟩ := P7.out.cells2
          go_wp2_with fail
          clear y00 y01 yf0 hy
          refine (qend_any A2 n2 c2 o ys y wz (O2.out.sm.mono (Nat.zero_le _) (Nat.le_refl _)) (by omega) h0).mono ?_
          rintro e w18 ⟨A8, n8, c8, rfl, o8, hb, _⟩
          obtain ⟨r, hr⟩ : ∃ r, r = endF o ys y := ⟨_, rfl⟩
          obtain ⟨ro, rl, rc⟩ := r
          have hlen := endF_len o ys y
          rw [← hr] at o8 hlen ⊢
          have HR := hid hr
          clear hr
          dsimp only at o8 hlen ⊢
          have hn8 : n8 ≤ 21 := by have := o8.sm.len; have := hyl.out; omega
          replace P3 := hid (P3.out.step hb); replace P7 := hid (P7.out.step hb); replace O2 := hid (O2.out.step hb); replace HX := hid (HX.out.step hb); replace HB := hid (below_then HB.out hb); replace HBr := hid (below_then HBr.out hb); replace HL := hid (below_then HL.out hb)
          have OX := hid o8; have H8 := hid (Below.refl w18.heap.size w18)
          have hs8 := hid hb.size
          clear hb o8 hlen
          have bx := below_box w18 (.cells (qcs A8 n8 c8 ro) 25)
          replace P3 := hid (P3.out.step bx); replace P7 := hid (P7.out.step bx); replace O2 := hid (O2.out.step bx); replace HX := hid (HX.out.step bx); replace HB := hid (below_then HB.out bx); replace HBr := hid (below_then HBr.out bx); replace HL := hid (below_then HL.out bx); replace H8 := hid (below_then H8.out bx)
          clear bx
          have P18 := hid (Blk.new w18 25 (qcs A8 n8 c8 ro))
          have bx := below_box (w18.alloc (.cells (qcs A8 n8 c8 ro) 25)) (.cells (qcs none 0 0 0) 25)
          replace P3 := hid (P3.out.step bx); replace P7 := hid (P7.out.step bx); replace O2 := hid (O2.out.step bx); replace HX := hid (HX.out.step bx); replace P18 := hid (P18.out.step bx); replace HB := hid (below_then HB.out bx); replace HBr := hid (below_then HBr.out bx); replace HL := hid (below_then HL.out bx); replace H8 := hid (below_then H8.out bx)
          clear bx
          have P20 := hid (Blk.new2 w18 25 (qcs none 0 0 0) (.cells (qcs A8 n8 c8 ro) 25))
          rcases bR with _ | _
          · skip
            have hbad : ¬ QGood o ys := of_decide_eq_false HBR.out.symm
            have hr := HR.out
            rw [endF_bad y hbad] at hr
            simp only [Prod.mk.injEq] at hr
            obtain ⟨rfl, rfl, rfl⟩ := hr
            clear hbad
            have hcc : ((230 : Int) != 230) = false := by simp
            obtain ⟨y00, y01, yf0⟩ := P18.out.cells2
            obtain ⟨y10, y11, yf1⟩ := P20.out.cells2
            go_wp2_with fail
            clear y00 y01 yf0 y10 y11 yf1
            have O8 := hid (OX.out.step H8.out)
            refine (qrsame_any A8 n8 c8 0 [] none 0 0 0 [] _ (O8.out.sm.mono (Nat.zero_le _) (Nat.le_refl _)) (Sm.nil _ _ _ _) (by omega) (by omega)).mono ?_
            rintro e w14 ⟨rfl, hb⟩
            replace P3 := hid (P3.out.step hb); replace P7 := hid (P7.out.step hb); replace O2 := hid (O2.out.step hb); replace HX := hid (HX.out.step hb); replace P18 := hid (P18.out.step hb); replace P20 := hid (P20.out.step hb); replace O8 := hid (O8.out.step hb); replace HB := hid (below_then HB.out hb); replace HBr := hid (below_then HBr.out hb); replace HL := hid (below_then HL.out hb); replace H8 := hid (below_then H8.out hb)
            clear hb
            rw [sameQ_self]
            obtain ⟨y00, y01, yf0⟩ := P18.out.cells2
            go_wp2_with fail
            clear y00 y01 yf0
            refine (qspoil_any wz.heap.size A8 n8 c8 0 [] _ O8.out HL.out.size (by omega)).mono ?_
            rintro e w16 ⟨⟨v, rfl⟩, hb⟩
            have HN := hid (HBr.out.trans (hb.mono hsr.out))
            clear hb hcc
            go_wp2
            go_roundw
            case rel => exact ⟨i + 1, by omega, by go_num, HN.out⟩
            case measure => simp [intOf] <;> omega
          · have HG := hid (of_decide_eq_true HBR.out.symm)
            by_cases h1 : y < o
            · have h1' : ¬ o ≤ y := by omega
              have hr := HR.out
              rw [endF, if_neg (not_not_intro HG.out), if_pos (by omega)] at hr
              simp only [Prod.mk.injEq] at hr
              obtain ⟨rfl, rfl, rfl⟩ := hr
              have hcc : ((2 : Int) != 2) = false := by simp
              obtain ⟨y00, y01, yf0⟩ := P7.out.cells2
              obtain ⟨y10, y11, yf1⟩ := P18.out.cells2
              obtain ⟨y20, y21, yf2⟩ := P20.out.cells2
              go_wp2_with fail
              clear y00 y01 yf0 y10 y11 yf1 y20 y21 yf2
              have O8 := hid (OX.out.step H8.out)
              refine (qrsame_any A8 n8 c8 0 [] none 0 0 0 [] _ (O8.out.sm.mono (Nat.zero_le _) (Nat.le_refl _)) (Sm.nil _ _ _ _) (by omega) (by omega)).mono ?_
              rintro e w14 ⟨rfl, hb⟩
              replace P3 := hid (P3.out.step hb); replace P7 := hid (P7.out.step hb); replace O2 := hid (O2.out.step hb); replace HX := hid (HX.out.step hb); replace P18 := hid (P18.out.step hb); replace P20 := hid (P20.out.step hb); replace O8 := hid (O8.out.step hb); replace HB := hid (below_then HB.out hb); replace HBr := hid (below_then HBr.out hb); replace HL := hid (below_then HL.out hb); replace H8 := hid (below_then H8.out hb)
              clear hb
              rw [sameQ_self]
              obtain ⟨y00, y01, yf0⟩ := P18.out.cells2
              go_wp2_with fail
              clear y00 y01 yf0
              refine (qspoil_any wz.heap.size A8 n8 c8 0 [] _ O8.out HL.out.size (by omega)).mono ?_
              rintro e w16 ⟨⟨v, rfl⟩, hb⟩
              have HN := hid (HBr.out.trans (hb.mono hsr.out))
              clear hb hcc
              go_wp2
              go_roundw
              case rel => exact ⟨i + 1, by omega, by go_num, HN.out⟩
              case measure => simp [intOf] <;> omega
            · have h1' : o ≤ y := by omega
              by_cases h2 : 9223372036854775806 < y
              · have h2' : ¬ y ≤ 9223372036854775806 := by omega
                have hr := HR.out
                rw [endF, if_neg (not_not_intro HG.out), if_pos (by omega)] at hr
                simp only [Prod.mk.injEq] at hr
                obtain ⟨rfl, rfl, rfl⟩ := hr
                have hcc : ((2 : Int) != 2) = false := by simp
                obtain ⟨y00, y01, yf0⟩ := P7.out.cells2
                obtain ⟨y10, y11, yf1⟩ := P18.out.cells2
                obtain ⟨y20, y21, yf2⟩ := P20.out.cells2
                go_wp2_with fail
                clear y00 y01 yf0 y10 y11 yf1 y20 y21 yf2
                have O8 := hid (OX.out.step H8.out)
                refine (qrsame_any A8 n8 c8 0 [] none 0 0 0 [] _ (O8.out.sm.mono (Nat.zero_le _) (Nat.le_refl _)) (Sm.nil _ _ _ _) (by omega) (by omega)).mono ?_
                rintro e w14 ⟨rfl, hb⟩
                replace P3 := hid (P3.out.step hb); replace P7 := hid (P7.out.step hb); replace O2 := hid (O2.out.step hb); replace HX := hid (HX.out.step hb); replace P18 := hid (P18.out.step hb); replace P20 := hid (P20.out.step hb); replace O8 := hid (O8.out.step hb); replace HB := hid (below_then HB.out hb); replace HBr := hid (below_then HBr.out hb); replace HL := hid (below_then HL.out hb); replace H8 := hid (below_then H8.out hb)
                clear hb
                rw [sameQ_self]
                obtain ⟨y00, y01, yf0⟩ := P18.out.cells2
                go_wp2_with fail
                clear y00 y01 yf0
                refine (qspoil_any wz.heap.size A8 n8 c8 0 [] _ O8.out HL.out.size (by omega)).mono ?_
                rintro e w16 ⟨⟨v, rfl⟩, hb⟩
                have HN := hid (HBr.out.trans (hb.mono hsr.out))
                clear hb hcc
                go_wp2
                go_roundw
                case rel => exact ⟨i + 1, by omega, by go_num, HN.out⟩
                case measure => simp [intOf] <;> omega
              · have h2' : y ≤ 9223372036854775806 := by omega
                have hr := HR.out
                rw [endF, if_neg (not_not_intro HG.out), if_neg (by omega)] at hr
                simp only [Prod.mk.injEq] at hr
                obtain ⟨e1, e2, rfl⟩ := hr
                obtain rfl := e1.symm
                obtain rfl := e2.symm
                have hcc : ((0 : Int) != 0) = false := by simp
                obtain ⟨y00, y01, yf0⟩ := P7.out.cells2
                obtain ⟨y10, y11, yf1⟩ := P3.out.cells2
                go_wp2_with fail
                clear y00 y01 yf0 y10 y11 yf1
                refine (qown_any A n c o xs _ HX.out hnc).mono ?_
                rintro e w13 ⟨A13, n13, c13, rfl, hn13, ho, hb⟩
                replace P3 := hid (P3.out.step hb); replace P7 := hid (P7.out.step hb); replace O2 := hid (O2.out.step hb); replace HX := hid (HX.out.step hb); replace P18 := hid (P18.out.step hb); replace P20 := hid (P20.out.step hb); replace HB := hid (below_then HB.out hb); replace HBr := hid (below_then HBr.out hb); replace HL := hid (below_then HL.out hb); replace H8 := hid (below_then H8.out hb)
                rw [← HYS.out] at ho
                have O13 := hid (Qown.ofOm ho)
                clear ho hb
                have h20 := hid P20.out.lt
                have hl13 : Hid (w18.heap.size + 1 < ((w18.alloc (.cells (qcs A8 n8 c8 y) 25)).alloc (.cells (qcs none 0 0 0) 25)).heap.size) := hid (by simp)
                have PX := hid ((P20.out.setCell 0 (.slice A13 n13 c13)).setCell 1 (.int .u64 o))
                have PY := hid (PX.out.setCell 1 (.int .u64 y))
                replace P18 := hid (P18.out.far (p := ⟨w18.heap.size + 1, 0, none⟩) (by simp <;> omega) (.slice A13 n13 c13))
                replace HB := hid (HB.out.setCell (p := ⟨w18.heap.size + 1, 0, none⟩) (by have := hs8.out; have := HBr.out.size; have := HB.out.size; have := hsr.out; have := hs0.out; simp <;> omega) (.slice A13 n13 c13))
                replace HBr := hid (HBr.out.setCell (p := ⟨w18.heap.size + 1, 0, none⟩) (by have := hs8.out; have := HBr.out.size; have := HB.out.size; have := hsr.out; have := hs0.out; simp <;> omega) (.slice A13 n13 c13))
                replace HL := hid (HL.out.setCell (p := ⟨w18.heap.size + 1, 0, none⟩) (by have := hs8.out; have := HBr.out.size; have := HB.out.size; have := hsr.out; have := hs0.out; simp <;> omega) (.slice A13 n13 c13))
                replace H8 := hid (H8.out.setCell (p := ⟨w18.heap.size + 1, 0, none⟩) (by have := hs8.out; have := HBr.out.size; have := HB.out.size; have := hsr.out; have := hs0.out; simp <;> omega) (.slice A13 n13 c13))
                replace P18 := hid (P18.out.far (p := ⟨w18.heap.size + 1, 1, none⟩) (by simp <;> omega) (.int .u64 o))
                replace HB := hid (HB.out.setCell (p := ⟨w18.heap.size + 1, 1, none⟩) (by have := hs8.out; have := HBr.out.size; have := HB.out.size; have := hsr.out; have := hs0.out; simp <;> omega) (.int .u64 o))
                replace HBr := hid (HBr.out.setCell (p := ⟨w18.heap.size + 1, 1, none⟩) (by have := hs8.out; have := HBr.out.size; have := HB.out.size; have := hsr.out; have := hs0.out; simp <;> omega) (.int .u64 o))
                replace HL := hid (HL.out.setCell (p := ⟨w18.heap.size + 1, 1, none⟩) (by have := hs8.out; have := HBr.out.size; have := HB.out.size; have := hsr.out; have := hs0.out; simp <;> omega) (.int .u64 o))
                replace H8 := hid (H8.out.setCell (p := ⟨w18.heap.size + 1, 1, none⟩) (by have := hs8.out; have := HBr.out.size; have := HB.out.size; have := hsr.out; have := hs0.out; simp <;> omega) (.int .u64 o))
                replace P18 := hid (P18.out.far (p := ⟨w18.heap.size + 1, 1, none⟩) (by simp <;> omega) (.int .u64 y))
                replace HB := hid (HB.out.setCell (p := ⟨w18.heap.size + 1, 1, none⟩) (by have := hs8.out; have := HBr.out.size; have := HB.out.size; have := hsr.out; have := hs0.out; simp <;> omega) (.int .u64 y))
                replace HBr := hid (HBr.out.setCell (p := ⟨w18.heap.size + 1, 1, none⟩) (by have := hs8.out; have := HBr.out.size; have := HB.out.size; have := hsr.out; have := hs0.out; simp <;> omega) (.int .u64 y))
                replace HL := hid (HL.out.setCell (p := ⟨w18.heap.size + 1, 1, none⟩) (by have := hs8.out; have := HBr.out.size; have := HB.out.size; have := hsr.out; have := hs0.out; simp <;> omega) (.int .u64 y))
                replace H8 := hid (H8.out.setCell (p := ⟨w18.heap.size + 1, 1, none⟩) (by have := hs8.out; have := HBr.out.size; have := HB.out.size; have := hsr.out; have := hs0.out; simp <;> omega) (.int .u64 y))
                replace O13 := hid (O13.out.setCell (p := ⟨w18.heap.size + 1, 0, none⟩) hl13.out (.slice A13 n13 c13))
                replace O13 := hid (O13.out.setCell (p := ⟨w18.heap.size + 1, 1, none⟩) hl13.out (.int .u64 o))
                replace O13 := hid (O13.out.setCell (p := ⟨w18.heap.size + 1, 1, none⟩) hl13.out (.int .u64 y))
                obtain ⟨u0, u1, uf⟩ := P20.out.cells2
                obtain ⟨x0, x1, xf⟩ := PX.out.cells2
                obtain ⟨y00, y01, yf0⟩ := PY.out.cells2
                obtain ⟨y10, y11, yf1⟩ := P18.out.cells2
                go_wp2_with fail
                clear y00 y01 yf0 y10 y11 yf1 u0 u1 uf x0 x1 xf
                have O8 := hid (OX.out.step H8.out)
                refine (qrsame_any A8 n8 c8 y ys A13 n13 c13 y ys _ (O8.out.sm.mono (Nat.zero_le _) (Nat.le_refl _)) (O13.out.sm.mono (Nat.zero_le _) (Nat.le_refl _)) (by omega) (by omega)).mono ?_
                rintro e w14 ⟨rfl, hb⟩
                replace P18 := hid (P18.out.step hb); replace O13 := hid (O13.out.step hb); replace O8 := hid (O8.out.step hb); replace HB := hid (below_then HB.out hb); replace HBr := hid (below_then HBr.out hb); replace HL := hid (below_then HL.out hb); replace H8 := hid (below_then H8.out hb)
                clear hb
                rw [sameQ_self]
                obtain ⟨y00, y01, yf0⟩ := P18.out.cells2
                go_wp2_with fail
                clear y00 y01 yf0
                refine (qspoil_any wz.heap.size A8 n8 c8 y ys _ O8.out HL.out.size (by omega)).mono ?_
                rintro e w16 ⟨⟨v, rfl⟩, hb⟩
                have HN := hid (HBr.out.trans (hb.mono hsr.out))
                clear hb hcc
                go_wp2
                go_roundw
                case rel => exact ⟨i + 1, by omega, by go_num, HN.out⟩
                case measure => simp [intOf] <;> omega
        · obtain rfl : i = 2 := by omega
          have HE := hid (show sameQ o ys o (xs.take 20) = true by rw [← HYS.out]; exact sameQ_self _ _)
          have HS : Hid (∀ w', Below wz.heap.size wz w' → (Below wz.heap.size wz w' ∧ w'.cell? ⟨w2.heap.size, 0, none⟩ = some (.slice A2 n2 c2) ∧ w'.cell? ⟨w2.heap.size, 1, none⟩ = some (.int .u64 o) ∧ w'.cell? ⟨w.heap.size, 0, none⟩ = some (.slice A n c) ∧ w'.cell? ⟨w.heap.size, 1, none⟩ = some (.int .u64 o))) := hid (fun w' hh => ⟨hh, (P7.out.step hh).cells2.1, (P7.out.step hh).cells2.2.1, (P3.out.step hh).cells2.1, (P3.out.step hh).cells2.2.1⟩)
          clear P3 P7
          go_wp2_with fail
          obtain ⟨_, k0, k1, k2, k3⟩ := HS.out wz (Below.refl _ _)
          go_region_held3 (fun w' => Below wz.heap.size wz w' ∧ w'.cell? ⟨w2.heap.size, 0, none⟩ = some (.slice A2 n2 c2) ∧ w'.cell? ⟨w2.heap.size, 1, none⟩ = some (.int .u64 o) ∧ w'.cell? ⟨w.heap.size, 0, none⟩ = some (.slice A n c) ∧ w'.cell? ⟨w.heap.size, 1, none⟩ = some (.int .u64 o))
            (first | (exact HS.out _ (Below.refl _ _).drew) | (go_keep; done) | (go_split_ands; exact HS.out _ (below_then (by assumption) hb)))
            (first
              | (go_at_call 8; go_split_ands; (with_reducible refine (qown_any A n c o xs _ (HX.out.step (by first | assumption | exact (Below.refl _ _).drew)) hnc).mono ?_); rintro e w' ⟨A', n', c', rfl, hn', ho, hb⟩)
              | (go_at_call 12; go_split_ands; (with_reducible refine (qrsame_any A2 n2 c2 o ys A' n' c' o (xs.take 20) w' (((O2.out.step (below_then (by assumption) hb)).sm).mono (Nat.zero_le _) (Nat.le_refl _)) ((Qown.ofOm ho).sm.mono (Nat.zero_le _) (Nat.le_refl _)) (by omega) (by omega)).mono ?_); rw [HE.out]; rintro e w'' ⟨rfl, hb⟩))
          go_wp2
          go_split_ands
          refine bodyPost_ret (v := .bool true) (by simp [results, Try.results3, go_sem]) rfl ⟨rfl, below_then HB.out (by assumption)⟩
end Go.Proofs.Ytkdbmlddndgjjaa
