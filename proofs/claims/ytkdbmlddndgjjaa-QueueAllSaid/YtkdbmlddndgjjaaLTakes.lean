/- afterglowlaw13.QueueTakes. -/
import Derived.Test.YtkdbmlddndgjjaaQr3
import Derived.Test.YtkdbmlddndgjjaaLPuts
import Derived.Deep.DeepCutAuto
namespace Go.Proofs.Ytkdbmlddndgjjaa
open Go.RowKit
theorem drainF_len (o : Int) (l : List Cb) (m : Int) : (drainF o l m).2.1.length ≤ l.length ∧ (drainF o l m).2.2.1.length ≤ l.length := by
  unfold drainF
  split
  · simp
  · split
    · simp
    · simp; omega
theorem takeF_len (o : Int) (l : List Cb) : (takeF o l).2.1.length ≤ l.length := by
  unfold takeF
  split
  · simp
  · split <;> simp
theorem drainF_bad {o : Int} {l : List Cb} (m : Int) (h : ¬ QGood o l) : drainF o l m = (0, [], [], 230) := by rw [drainF, if_pos h]
theorem takeF_bad {o : Int} {l : List Cb} (h : ¬ QGood o l) : takeF o l = (0, [], 0, 230) := by rw [takeF, if_pos h]
def TkMid (Wb : World) (g7 g10 : Nat) (A7 : Option Addr) (n7 c7 : Nat) (ro : Int) (rl : List Cb) (rx rc : Int) (s11 s12 : Value) (wx : World) : Prop :=
  ∃ A n c, s11 = .int .u64 rx ∧ s12 = .int .i64 rc ∧ Blk wx g7 25 (qcs A7 n7 c7 ro) ∧ Blk wx g10 25 (qcs A n c ro) ∧ Sm 2 encC (0, 0) wx 0 wx.heap.size A n rl ∧ Below Wb.heap.size Wb wx
def DrMid (Wb : World) (g7 g10 : Nat) (A7 : Option Addr) (n7 c7 : Nat) (ro : Int) (rl : List Cb) (rw_ : List Int) (rc : Int) (s21 s22 : Value) (wx : World) : Prop :=
  ∃ A n c B m d, s21 = .slice B m d ∧ s22 = .int .i64 rc ∧ Blk wx g7 25 (qcs A7 n7 c7 ro) ∧ Blk wx g10 25 (qcs A n c ro) ∧ Sm 2 encC (0, 0) wx 0 wx.heap.size A n rl ∧ Sl u64v 0 wx 0 wx.heap.size B m rw_ ∧ Below Wb.heap.size Wb wx
set_option maxRecDepth 100000 in
set_option maxHeartbeats 8000000 in
theorem qtakes_any (A : Option Addr) (n c : Nat) (o : Int) (xs : List Cb) (L : Option Addr) (nl cl : Nat) (ns : List Int) (w : World) (hx : Sm 2 encC (0, 0) w 0 w.heap.size A n xs) (hnc : n ≤ c) (h0 : 0 ≤ o)
    (hw : Sl i64 0 w 0 w.heap.size L nl ns) (hnl : nl ≤ 9223372036854775807) :
    Calls Try.prog 4 #[qv A n c o, .slice L nl cl] w fun e w' => e = .returned (.bool true) ∧ Below w.heap.size w w' := by
  have HX := hid hx; have HW := hid hw; have HB := hid (Below.refl w.heap.size w)
  clear hx hw
  have bx := below_box w (.cells (qcs A n c o) 25)
  replace HX := hid (HX.out.step bx); replace HW := hid (HW.out.step bx); replace HB := hid (below_then HB.out bx)
  clear bx
  have P2 := hid (Blk.new w 25 (qcs A n c o))
  go_enter Try.func4, Try.ntmps4
  go_wp2_with fail
  generalize w.alloc (.cells (qcs A n c o) 25) = W0 at *
  refine (qwakes_any W0).mono ?_
  rintro e w1 ⟨rfl, hb⟩
  replace HX := hid (HX.out.step hb); replace HW := hid (HW.out.step hb); replace P2 := hid (P2.out.step hb); replace HB := hid (below_then HB.out hb)
  clear hb
  obtain ⟨y00, y01, yf0⟩ := P2.out.cells2
  go_wp2_with fail
  clear y00 y01 yf0
  refine (qown_any A n c o xs w1 HX.out hnc).mono ?_
  rintro e w2 ⟨A2, n2, c2, rfl, hn2, ho, hb⟩
  replace HX := hid (HX.out.step hb); replace HW := hid (HW.out.step hb); replace P2 := hid (P2.out.step hb); replace HB := hid (below_then HB.out hb)
  have hnc2 := ho.cap.1
  have O2 := hid (Qown.ofOm ho)
  clear ho hb
  obtain ⟨ys, hys⟩ : ∃ ys, ys = xs.take 20 := ⟨_, rfl⟩
  rw [← hys] at O2
  have HYS := hid hys
  have hyl := hid (show ys.length ≤ 20 by rw [hys]; exact List.length_take_le _ _)
  clear hys
  have bx := below_box w2 (.cells (qcs A2 n2 c2 o) 25)
  replace HX := hid (HX.out.step bx); replace HW := hid (HW.out.step bx); replace P2 := hid (P2.out.step bx); replace O2 := hid (O2.out.step bx); replace HB := hid (below_then HB.out bx)
  clear bx
  have P5 := hid (Blk.new w2 25 (qcs A2 n2 c2 o))
  obtain ⟨y00, y01, yf0⟩ := P5.out.cells2
  go_wp2_with fail
  clear y00 y01 yf0
  generalize w2.alloc (.cells (qcs A2 n2 c2 o) 25) = W2 at *
  refine (qright_any A2 n2 c2 o ys W2 (O2.out.sm.mono (Nat.zero_le _) (Nat.le_refl _)) (by omega) hnc2 h0).mono ?_
  rintro e w3 ⟨rfl, hb⟩
  replace HX := hid (HX.out.step hb); replace HW := hid (HW.out.step hb); replace P2 := hid (P2.out.step hb); replace O2 := hid (O2.out.step hb); replace P5 := hid (P5.out.step hb); replace HB := hid (below_then HB.out hb)
  clear hb
  obtain ⟨bR, hbR⟩ : ∃ b, b = decide (QGood o ys) := ⟨_, rfl⟩
  rw [← hbR]
  have HBR := hid hbR
  clear hbR
  obtain ⟨y00, y01, yf0⟩ := P5.out.cells2
  go_wp2_with fail
  clear y00 y01 yf0
  have Y2 := P2; have Y5 := P5; have YO := O2; have YX := HX; have YW := HW; have YB := HB
  have hs3 := hid HB.out.size
  have HL := hid (Below.refl w3.heap.size w3)
  refine (qtake_any A2 n2 c2 o ys w3 (O2.out.sm.mono (Nat.zero_le _) (Nat.le_refl _)) (by omega) h0).mono ?_
  rintro e w5 ⟨A7, n7, c7, rfl, o7, hb, _⟩
  obtain ⟨r, hr⟩ : ∃ r, r = takeF o ys := ⟨_, rfl⟩
  obtain ⟨ro, rl, rx, rc⟩ := r
  have hlen := takeF_len o ys
  rw [← hr] at o7 hlen ⊢
  have HR := hid hr
  clear hr
  dsimp only at o7 hlen ⊢
  have hn7 : n7 ≤ 20 := by have := o7.sm.len; have := hyl.out; omega
  replace HX := hid (HX.out.step hb); replace HW := hid (HW.out.step hb); replace P2 := hid (P2.out.step hb); replace O2 := hid (O2.out.step hb); replace P5 := hid (P5.out.step hb); replace HB := hid (below_then HB.out hb); replace HL := hid (below_then HL.out hb)
  have OX := hid o7; have H8 := hid (Below.refl w5.heap.size w5)
  have hs8 := hid hb.size
  clear hb o7 hlen
  have X2 := P2; have X5 := P5; have XO := O2; have XX := HX; have XW := HW; have XB := HB; have XL := HL
  have bx := below_box w5 (.cells (qcs A7 n7 c7 ro) 25)
  replace HX := hid (HX.out.step bx); replace HW := hid (HW.out.step bx); replace P2 := hid (P2.out.step bx); replace O2 := hid (O2.out.step bx); replace P5 := hid (P5.out.step bx); replace HB := hid (below_then HB.out bx); replace HL := hid (below_then HL.out bx); replace H8 := hid (below_then H8.out bx)
  clear bx
  have P7 := hid (Blk.new w5 25 (qcs A7 n7 c7 ro))
  have bx := below_box (w5.alloc (.cells (qcs A7 n7 c7 ro) 25)) (.cells (qcs none 0 0 0) 25)
  replace HX := hid (HX.out.step bx); replace HW := hid (HW.out.step bx); replace P2 := hid (P2.out.step bx); replace O2 := hid (O2.out.step bx); replace P5 := hid (P5.out.step bx); replace P7 := hid (P7.out.step bx); replace HB := hid (below_then HB.out bx); replace HL := hid (below_then HL.out bx); replace H8 := hid (below_then H8.out bx)
  clear bx
  have P10 := hid (Blk.new2 w5 25 (qcs none 0 0 0) (.cells (qcs A7 n7 c7 ro) 25))
  go_upto_if 36 with fail
  go_cut [11, 12] (fun s11 s12 wx => TkMid w5 w5.heap.size (w5.heap.size + 1) A7 n7 c7 ro rl rx rc s11 s12 wx)
  case first =>
    clear X2 X5 XO XX XW XB XL OX
    rcases bR with _ | _
    · skip
      have hbad : ¬ QGood o ys := of_decide_eq_false HBR.out.symm
      have hr := HR.out
      rw [takeF_bad hbad] at hr
      simp only [Prod.mk.injEq] at hr
      obtain ⟨rfl, rfl, rfl, rfl⟩ := hr
      clear hbad
      go_wp2
      go_meet
      exact ⟨none, 0, 0, rfl, rfl, P7.out, P10.out, Sm.nil _ _ _ _, H8.out⟩
    · have HG := hid (of_decide_eq_true HBR.out.symm)
      obtain ⟨y00, y01, yf0⟩ := P5.out.cells2
      go_wp2_with fail
      clear y00 y01 yf0
      refine (qrdrain_any A2 n2 c2 o ys 1 _ (O2.out.sm.mono (Nat.zero_le _) (Nat.le_refl _)) (by omega) (by decide) HG.out).mono ?_
      rintro e w13 ⟨A13, n13, c13, B13, m13, d13, rfl, o13, b13, hb, hnc13⟩
      rw [show drainF o ys 1 = (o, ys.drop (min (doneN o ys) (1 : Int).toNat), (ys.take (min (doneN o ys) (1 : Int).toNat)).map (·.2), 0) by rw [drainF, if_neg (not_not_intro HG.out), if_neg (by decide)]] at o13 b13 ⊢
      dsimp only at o13 b13 ⊢
      replace HX := hid (HX.out.step hb); replace HW := hid (HW.out.step hb); replace P2 := hid (P2.out.step hb); replace O2 := hid (O2.out.step hb); replace P5 := hid (P5.out.step hb); replace P7 := hid (P7.out.step hb); replace P10 := hid (P10.out.step hb); replace HB := hid (below_then HB.out hb); replace HL := hid (below_then HL.out hb); replace H8 := hid (below_then H8.out hb)
      have O13 := hid o13; have B13' := hid b13; have hm13 := hid b13.len
      have hs13 := hid hb.size
      clear o13 b13 hb
      have bx := below_box w13 (.cells (qcs A13 n13 c13 o) 25)
      replace P7 := hid (P7.out.step bx); replace P10 := hid (P10.out.step bx); replace O13 := hid (O13.out.step bx); replace B13' := hid (B13'.out.step bx); replace HB := hid (below_then HB.out bx); replace HL := hid (below_then HL.out bx); replace H8 := hid (below_then H8.out bx)
      clear bx
      have P13 := hid (Blk.new w13 25 (qcs A13 n13 c13 o))
      rcases Nat.eq_zero_or_pos (doneN o ys) with hd | hd
      · have hr := HR.out
        rw [takeF, if_neg (not_not_intro HG.out), if_pos hd] at hr
        simp only [Prod.mk.injEq] at hr
        obtain ⟨rfl, rfl, rfl, rfl⟩ := hr
        have hm0 : m13 = 0 := by rw [← hm13.out, hd]; simp
        subst hm0
        go_wp2_with fail
        go_meet
        exact ⟨none, 0, 0, rfl, rfl, P7.out, P10.out, Sm.nil _ _ _ _, H8.out⟩
      · have hr := HR.out
        have hmin : min (doneN o ys) (1 : Int).toNat = 1 := by simp; omega
        rw [takeF, if_neg (not_not_intro HG.out), if_neg (by omega)] at hr
        simp only [Prod.mk.injEq] at hr
        obtain ⟨e1, e2, e3, rfl⟩ := hr
        have HE2 := hid e2; have HE3 := hid e3
        obtain rfl := e1.symm
        clear e2 e3
        have hnx : 0 < ys.length := Nat.lt_of_lt_of_le hd (doneN_le _ _)
        have hm0 : m13 = 1 := by rw [← hm13.out, hmin, List.length_map, List.length_take]; omega
        obtain ⟨b, off, rfl, hlo, hbh, hc⟩ := (B13'.out.sl (d := (0 : Int))).row (by omega)
        have c0 := hc 0 (by omega)
        subst hm0
        rw [hmin] at c0
        have hx0 : ((ys.take 1).map (·.2))[0]?.getD 0 = (ys[0]?.getD (0, 0)).2 := by
          cases ys with
          | nil => simp at hnx
          | cons y ys => rfl
        rw [hx0, ← HE3.out] at c0
        simp only [Nat.add_zero] at c0
        have HMIN := hid hmin
        clear hmin hx0 hc hd hnx
        have h10c : w5.heap.size + 2 ≤ w13.heap.size := by have := hs13.out; simpa using this
        have h10d : w5.heap.size + 2 ≤ b := by have := hlo; simpa using this
        have ne1 : ¬ w13.heap.size = w5.heap.size + 1 := by omega
        have ne2 : ¬ w5.heap.size + 1 = w13.heap.size := by omega
        have ne3 : ¬ b = w5.heap.size + 1 := by omega
        have ne4 : ¬ w5.heap.size + 1 = b := by omega
        have H10c := hid h10c; have H10d := hid h10d
        clear h10c h10d hlo
        obtain ⟨y00, y01, yf0⟩ := P13.out.cells2
        obtain ⟨y10, y11, yf1⟩ := P10.out.cells2
        go_wp2_with fail
        go_region
        all_goals
          clear y00 y01 yf0 y10 y11 yf1 c0
          go_wp2
          go_meet
          refine ⟨A13, n13, c13, rfl, rfl, ?_, ?_, ?_, ?_⟩
          · exact ((P7.out.far (p := ⟨w5.heap.size + 1, 0, none⟩) (by simp) (.slice A13 n13 c13)).far (p := ⟨w5.heap.size + 1, 1, none⟩) (by simp) (.int .u64 o)).drew
          · exact ((P10.out.setCell 0 (.slice A13 n13 c13)).setCell 1 (.int .u64 o)).drew
          · have oo := ((O13.out.setCell (p := ⟨w5.heap.size + 1, 0, none⟩) (by simp) (.slice A13 n13 c13)).setCell (p := ⟨w5.heap.size + 1, 1, none⟩) (by simp) (.int .u64 o)).step (Below.refl _ _).drew
            rw [HMIN.out, ← HE2.out] at oo
            exact oo.sm.mono (Nat.zero_le _) (Nat.le_refl _)
          · exact ((H8.out.setCell (p := ⟨w5.heap.size + 1, 0, none⟩) (by simp) (.slice A13 n13 c13)).setCell (p := ⟨w5.heap.size + 1, 1, none⟩) (by simp) (.int .u64 o)).drew
  case rest =>
    obtain ⟨A10, n10, c10, rfl, rfl, p7, p10, s10, hbx⟩ := hcut
    clear HX HW P2 P5 O2 HB HL H8 P7 P10
    rename World => W5
    have P2 := hid (X2.out.step hbx); have P5 := hid (X5.out.step hbx); have O2 := hid (XO.out.step hbx); have HX := hid (XX.out.step hbx); have HW := hid (XW.out.step hbx); have OX5 := hid (OX.out.step hbx)
    have HB := hid (below_then XB.out hbx); have HL := hid (below_then XL.out hbx); have P7 := hid p7; have P10 := hid p10; have S10 := hid s10
    have hn10 : n10 ≤ 20 := by have := s10.len; have := OX5.out.sm.len; omega
    clear hbx p7 p10 s10 X2 X5 XO XX XW XB XL OX
    clear P2 P5 O2 HX HW HB
    have hcc : (rc != rc) = false := by simp
    have hcx : (rx != rx) = false := by simp
    obtain ⟨y00, y01, yf0⟩ := P7.out.cells2
    obtain ⟨y10, y11, yf1⟩ := P10.out.cells2
    go_wp2_with fail
    clear y00 y01 yf0 y10 y11 yf1 hcc hcx
    refine (qrsame_any A7 n7 c7 ro rl A10 n10 c10 ro rl _ (OX5.out.sm.mono (Nat.zero_le _) (Nat.le_refl _)) S10.out (by omega) (by omega)).mono ?_
    rintro e w14 ⟨rfl, hb⟩
    replace P7 := hid (P7.out.step hb); replace P10 := hid (P10.out.step hb); replace OX5 := hid (OX5.out.step hb); replace HL := hid (below_then HL.out hb)
    clear hb
    rw [sameQ_self]
    clear S10 P10
    obtain ⟨y00, y01, yf0⟩ := P7.out.cells2
    go_wp2_with fail
    clear y00 y01 yf0
    refine (qspoil_any w3.heap.size A7 n7 c7 ro rl _ OX5.out HL.out.size (by omega)).mono ?_
    rintro e w16 ⟨⟨v, rfl⟩, hb⟩
    have HN := HL.out.trans hb
    clear HL P7 OX5 hb
    have HBx := hid (below_then YB.out HN); have X2 := hid (Y2.out.step HN); have X5 := hid (Y5.out.step HN); have XO := hid (YO.out.step HN); have XX := hid (YX.out.step HN); have XW := hid (YW.out.step HN)
    clear HN YB Y2 Y5 YO YX YW
    have H0 := hid (Below.refl w16.heap.size w16)
    go_wp2_with fail
    go_loopw [67] (fun i wr => ∃ j : Nat, j ≤ nl ∧ i = .int .i64 j ∧ Below w16.heap.size w16 wr) (fun i _ => nl - (intOf i).toNat)
    case atStart => exact ⟨0, Nat.zero_le _, rfl, H0.out⟩
    case round =>
      clear H0
      obtain ⟨j, hj, rfl, hbr⟩ := hrel
      have HB := hid (below_then HBx.out hbr); have P2 := hid (X2.out.step hbr); have P5 := hid (X5.out.step hbr); have O2 := hid (XO.out.step hbr); have HX := hid (XX.out.step hbr); have HW := hid (XW.out.step hbr); have HBr := hid hbr; have HL := hid (Below.refl wr.heap.size wr)
      have hsr := hid hbr.size; have hs0 := hid (HBx.out.size)
      clear hbr
      by_cases hjl : j < nl
      · by_cases hj6 : j = 6
        · subst hj6
          simp only [show ((6 : Nat) : Int) = 6 from rfl]
          obtain ⟨b, off, rfl, _, hbh, hc⟩ := HW.out.row (by omega)
          have f0 := hc 6 hjl
          clear hc
          go_wp2_with fail
          clear f0
          generalize hD : decide ((6 : Int) < (nl : Int)) = bD
          clear hD hjl hj
          have HE := hid (show sameQ o ys o (xs.take 20) = true by rw [← HYS.out]; exact sameQ_self _ _)
          have HS : Hid (∀ w', Below wr.heap.size wr w' → (Below wr.heap.size wr w' ∧ w'.cell? ⟨w2.heap.size, 0, none⟩ = some (.slice A2 n2 c2) ∧ w'.cell? ⟨w2.heap.size, 1, none⟩ = some (.int .u64 o) ∧ w'.cell? ⟨w.heap.size, 0, none⟩ = some (.slice A n c) ∧ w'.cell? ⟨w.heap.size, 1, none⟩ = some (.int .u64 o))) := hid (fun w' hh => ⟨hh, (P5.out.step hh).cells2.1, (P5.out.step hh).cells2.2.1, (P2.out.step hh).cells2.1, (P2.out.step hh).cells2.2.1⟩)
          clear P2 P5
          obtain ⟨_, k0, k1, k2, k3⟩ := HS.out wr (Below.refl _ _)
          go_region_held3 (fun w' => Below wr.heap.size wr w' ∧ w'.cell? ⟨w2.heap.size, 0, none⟩ = some (.slice A2 n2 c2) ∧ w'.cell? ⟨w2.heap.size, 1, none⟩ = some (.int .u64 o) ∧ w'.cell? ⟨w.heap.size, 0, none⟩ = some (.slice A n c) ∧ w'.cell? ⟨w.heap.size, 1, none⟩ = some (.int .u64 o))
            (first | (exact HS.out _ (Below.refl _ _).drew) | (go_keep; done) | (go_split_ands; exact HS.out _ (below_then (by assumption) hb)))
            (first
              | (go_at_call 8; go_split_ands; (with_reducible refine (qown_any A n c o xs _ (HX.out.step (by first | assumption | exact (Below.refl _ _).drew)) hnc).mono ?_); rintro e w' ⟨A', n', c', rfl, hn', ho, hb⟩)
              | (go_at_call 12; go_split_ands; (with_reducible refine (qrsame_any A2 n2 c2 o ys A' n' c' o (xs.take 20) w' (((O2.out.step (below_then (by assumption) hb)).sm).mono (Nat.zero_le _) (Nat.le_refl _)) ((Qown.ofOm ho).sm.mono (Nat.zero_le _) (Nat.le_refl _)) (by omega) (by omega)).mono ?_); rw [HE.out]; rintro e w'' ⟨rfl, hb⟩))
          go_wp2
          go_split_ands
          refine bodyPost_ret (v := .bool true) (by simp [results, Try.results4, go_sem]) rfl ⟨rfl, below_then HB.out (by assumption)⟩
        · have hj6b : ((j : Int) == 6) = false := by simp; omega
          obtain ⟨b, off, rfl, _, hbh, hc⟩ := HW.out.row (by omega)
          have f0 := hc j hjl
          obtain ⟨x, hxx⟩ : ∃ x, x = ns[j]?.getD 0 := ⟨_, rfl⟩
          rw [← hxx] at f0
          clear hc hxx
          obtain ⟨y00, y01, yf0⟩ := P5.out.cells2
          go_wp2_with fail
          clear y00 y01 yf0 f0
          refine (drain_any A2 n2 c2 o ys x wr (O2.out.sm.mono (Nat.zero_le _) (Nat.le_refl _)) (by omega) h0).mono ?_
          rintro e w8 ⟨A8, n8, c8, B8, m8, d8, rfl, o8, b8, hb, _⟩
          obtain ⟨r, hr⟩ : ∃ r, r = drainF o ys x := ⟨_, rfl⟩
          obtain ⟨sr, sl, sw, sc⟩ := r
          have hlen := drainF_len o ys x
          rw [← hr] at o8 b8 hlen ⊢
          have HR := hid hr
          clear hr
          dsimp only at o8 b8 hlen ⊢
          have hn8 : n8 ≤ 20 := by have := o8.sm.len; have := hyl.out; omega
          have hm8 : m8 ≤ 20 := by have := b8.len; have := hyl.out; omega
          clear P2 HX HW HB
          replace P5 := hid (P5.out.step hb); replace O2 := hid (O2.out.step hb); replace HBr := hid (below_then HBr.out hb); replace HL := hid (below_then HL.out hb)
          have OX := hid o8; have LX := hid b8; have H8 := hid (Below.refl w8.heap.size w8)
          have hs8 := hid hb.size
          clear hb o8 b8 hlen
          have XXL := HL; have XXR := HBr
          have bx := below_box w8 (.cells (qcs A8 n8 c8 sr) 25)
          replace P5 := hid (P5.out.step bx); replace O2 := hid (O2.out.step bx); replace HBr := hid (below_then HBr.out bx); replace HL := hid (below_then HL.out bx); replace H8 := hid (below_then H8.out bx)
          clear bx
          have P17 := hid (Blk.new w8 25 (qcs A8 n8 c8 sr))
          have bx := below_box (w8.alloc (.cells (qcs A8 n8 c8 sr) 25)) (.cells (qcs none 0 0 0) 25)
          replace P5 := hid (P5.out.step bx); replace O2 := hid (O2.out.step bx); replace P17 := hid (P17.out.step bx); replace HBr := hid (below_then HBr.out bx); replace HL := hid (below_then HL.out bx); replace H8 := hid (below_then H8.out bx)
          clear bx
          have P20 := hid (Blk.new2 w8 25 (qcs none 0 0 0) (.cells (qcs A8 n8 c8 sr) 25))
          go_upto_if 82 with fail
          go_cut [21, 22] (fun s21 s22 wx => DrMid w8 w8.heap.size (w8.heap.size + 1) A8 n8 c8 sr sl sw sc s21 s22 wx)
          case first =>
            clear XXL XXR OX LX
            rcases bR with _ | _
            · skip
              have hbad : ¬ QGood o ys := of_decide_eq_false HBR.out.symm
              have hr := HR.out
              rw [drainF_bad x hbad] at hr
              simp only [Prod.mk.injEq] at hr
              obtain ⟨rfl, rfl, rfl, rfl⟩ := hr
              clear hbad
              go_wp2
              go_meet
              exact ⟨none, 0, 0, none, 0, 0, rfl, rfl, P17.out, P20.out, Sm.nil _ _ _ _, Sl.nil _ _ _ _, H8.out⟩
            · have HG := hid (of_decide_eq_true HBR.out.symm)
              by_cases hx0 : x < 0
              · have hx0' : ¬ 0 ≤ x := by omega
                have hr := HR.out
                rw [drainF, if_neg (not_not_intro HG.out), if_pos hx0] at hr
                simp only [Prod.mk.injEq] at hr
                obtain ⟨rfl, rfl, rfl, rfl⟩ := hr
                go_wp2
                go_meet
                exact ⟨none, 0, 0, none, 0, 0, rfl, rfl, P17.out, P20.out, Sm.nil _ _ _ _, Sl.nil _ _ _ _, H8.out⟩
              · have hx0' : 0 ≤ x := by omega
                have hr := HR.out
                rw [drainF, if_neg (not_not_intro HG.out), if_neg hx0] at hr
                simp only [Prod.mk.injEq] at hr
                obtain rfl := hr.2.2.2
                obtain rfl := hr.1.symm
                clear hr
                obtain ⟨y00, y01, yf0⟩ := P5.out.cells2
                go_wp2_with fail
                clear y00 y01 yf0
                refine (qrdrain_any A2 n2 c2 o ys x _ (O2.out.sm.mono (Nat.zero_le _) (Nat.le_refl _)) (by omega) hx0' HG.out).mono ?_
                rintro e w13 ⟨A13, n13, c13, B13, m13, d13, rfl, o13, b13, hb, _⟩
                rw [← HR.out] at o13 b13 ⊢
                dsimp only at o13 b13 ⊢
                replace P17 := hid (P17.out.step hb); replace P20 := hid (P20.out.step hb); replace H8 := hid (below_then H8.out hb)
                have O13 := hid o13; have L13 := hid b13
                clear o13 b13 hb
                obtain ⟨y00, y01, yf0⟩ := P20.out.cells2
                go_wp2
                go_meet
                exact ⟨A13, n13, c13, B13, m13, d13, rfl, rfl, (P17.out.far (p := ⟨w8.heap.size + 1, 0, none⟩) (by simp) (.slice A13 n13 c13)).far (p := ⟨w8.heap.size + 1, 1, none⟩) (by simp) (.int .u64 o), (P20.out.setCell 0 (.slice A13 n13 c13)).setCell 1 (.int .u64 o), (((O13.out.setCell (p := ⟨w8.heap.size + 1, 0, none⟩) (by simp) (.slice A13 n13 c13)).setCell (p := ⟨w8.heap.size + 1, 1, none⟩) (by simp) (.int .u64 o)).sm).mono (Nat.zero_le _) (Nat.le_refl _), ((L13.out.setCell (p := ⟨w8.heap.size + 1, 0, none⟩) (by simp) (.slice A13 n13 c13)).setCell (p := ⟨w8.heap.size + 1, 1, none⟩) (by simp) (.int .u64 o)).sl.mono (Nat.zero_le _) (Nat.le_refl _), (H8.out.setCell (p := ⟨w8.heap.size + 1, 0, none⟩) (by simp) (.slice A13 n13 c13)).setCell (p := ⟨w8.heap.size + 1, 1, none⟩) (by simp) (.int .u64 o)⟩
          case rest =>
            obtain ⟨A20, n20, c20, B20, m20, d20, rfl, rfl, p17, p20, s20, l20, hbx⟩ := hcut
            clear P5 O2 HL HBr H8 P17 P20
            rename World => W6
            have O8 := hid (OX.out.step hbx); have L8 := hid (LX.out.step hbx)
            have HL := hid (below_then XXL.out hbx); have HBr := hid (below_then XXR.out hbx); have P17 := hid p17; have P20 := hid p20; have S20 := hid s20; have L20 := hid l20
            have hn20 : n20 ≤ 20 := by have := s20.len; have := O8.out.sm.len; omega
            have hm20 : m20 ≤ 20 := by have := l20.len; have := L8.out.len; omega
            clear hbx p17 p20 s20 l20 XXL XXR OX LX
            have hcc : (sc != sc) = false := by simp
            go_wp2_with fail
            clear hcc
            refine (equal_u64 B8 B20 m8 d8 m20 d20 _ _ _ _ sw sw _ (L8.out.sl (d := (0 : Int))) L20.out (by omega) (by omega)).mono ?_
            rintro e w14 ⟨rfl, hb⟩
            replace P17 := hid (P17.out.step hb); replace P20 := hid (P20.out.step hb); replace S20 := hid (S20.out.step hb); replace O8 := hid (O8.out.step hb); replace HL := hid (below_then HL.out hb); replace HBr := hid (below_then HBr.out hb)
            clear hb
            rw [show decide (sw = sw) = true by simp]
            obtain ⟨y00, y01, yf0⟩ := P17.out.cells2
            obtain ⟨y10, y11, yf1⟩ := P20.out.cells2
            go_wp2_with fail
            clear y00 y01 yf0 y10 y11 yf1
            refine (qrsame_any A8 n8 c8 sr sl A20 n20 c20 sr sl _ (O8.out.sm.mono (Nat.zero_le _) (Nat.le_refl _)) S20.out (by omega) (by omega)).mono ?_
            rintro e w15 ⟨rfl, hb⟩
            replace P17 := hid (P17.out.step hb); replace P20 := hid (P20.out.step hb); replace S20 := hid (S20.out.step hb); replace O8 := hid (O8.out.step hb); replace HL := hid (below_then HL.out hb); replace HBr := hid (below_then HBr.out hb)
            clear hb
            rw [sameQ_self]
            obtain ⟨y00, y01, yf0⟩ := P17.out.cells2
            go_wp2_with fail
            clear y00 y01 yf0
            refine (qspoil_any wr.heap.size A8 n8 c8 sr sl _ O8.out HL.out.size (by omega)).mono ?_
            rintro e w17 ⟨⟨v, rfl⟩, hb⟩
            have HN := hid (HBr.out.trans (hb.mono hsr.out))
            clear hb
            go_wp2
            go_roundw
            case rel => exact ⟨j + 1, by omega, by go_num, HN.out⟩
            case measure => simp [intOf] <;> omega
      · obtain rfl : j = nl := by omega
        go_wp2_with fail
        have HE := hid (show sameQ o ys o (xs.take 20) = true by rw [← HYS.out]; exact sameQ_self _ _)
        have HS : Hid (∀ w', Below wr.heap.size wr w' → (Below wr.heap.size wr w' ∧ w'.cell? ⟨w2.heap.size, 0, none⟩ = some (.slice A2 n2 c2) ∧ w'.cell? ⟨w2.heap.size, 1, none⟩ = some (.int .u64 o) ∧ w'.cell? ⟨w.heap.size, 0, none⟩ = some (.slice A n c) ∧ w'.cell? ⟨w.heap.size, 1, none⟩ = some (.int .u64 o))) := hid (fun w' hh => ⟨hh, (P5.out.step hh).cells2.1, (P5.out.step hh).cells2.2.1, (P2.out.step hh).cells2.1, (P2.out.step hh).cells2.2.1⟩)
        clear P2 P5
        obtain ⟨_, k0, k1, k2, k3⟩ := HS.out wr (Below.refl _ _)
        go_region_held3 (fun w' => Below wr.heap.size wr w' ∧ w'.cell? ⟨w2.heap.size, 0, none⟩ = some (.slice A2 n2 c2) ∧ w'.cell? ⟨w2.heap.size, 1, none⟩ = some (.int .u64 o) ∧ w'.cell? ⟨w.heap.size, 0, none⟩ = some (.slice A n c) ∧ w'.cell? ⟨w.heap.size, 1, none⟩ = some (.int .u64 o))
          (first | (exact HS.out _ (Below.refl _ _).drew) | (go_keep; done) | (go_split_ands; exact HS.out _ (below_then (by assumption) hb)))
          (first
            | (go_at_call 8; go_split_ands; (with_reducible refine (qown_any A n c o xs _ (HX.out.step (by first | assumption | exact (Below.refl _ _).drew)) hnc).mono ?_); rintro e w' ⟨A', n', c', rfl, hn', ho, hb⟩)
            | (go_at_call 12; go_split_ands; (with_reducible refine (qrsame_any A2 n2 c2 o ys A' n' c' o (xs.take 20) w' (((O2.out.step (below_then (by assumption) hb)).sm).mono (Nat.zero_le _) (Nat.le_refl _)) ((Qown.ofOm ho).sm.mono (Nat.zero_le _) (Nat.le_refl _)) (by omega) (by omega)).mono ?_); rw [HE.out]; rintro e w'' ⟨rfl, hb⟩))
        go_wp2
        go_split_ands
        refine bodyPost_ret (v := .bool true) (by simp [results, Try.results4, go_sem]) rfl ⟨rfl, below_then HB.out (by assumption)⟩
end Go.Proofs.Ytkdbmlddndgjjaa
