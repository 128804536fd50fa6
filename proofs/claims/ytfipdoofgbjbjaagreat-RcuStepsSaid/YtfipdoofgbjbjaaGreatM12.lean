/- Walks and plain laws for this claim, part 12. No condition but sizes. -/
import Derived.Test.YtfipdoofgbjbjaaGreatM11
import Derived.Deep.DeepCutAuto
import Derived.Deep.CutBlock
import Derived.Test.YtfipdoofgbjbjaaGreatM1
import Derived.Test.YtfipdoofgbjbjaaGreatM7
import Derived.Laws.IdiomArrays
/- afterglowlaw14.RcuSteps returns true at every one and row of ops, and turns nothing old. No condition but sizes. -/
namespace Go.Proofs.YtfipdoofgbjbjaaGreat
open Go.RowKit
attribute [local go_sem] Oper.semAt_some
theorem Spl.step {w w' : World} {p : Nat → Prop} {a : Ra} {nd : Nat} {es : List Qe} (h : Spl w p a nd es) (hb : Below w.heap.size w w') : Spl w' p a nd es := h.kk (.below hb)
theorem Wr.keptP {w w' : World} {p q : Nat → Prop} {A : Option Addr} {n sz at' : Nat} {l : Value} (h : Wr w p A n sz at' l) (k : GrownP q w w') (hpq : ∀ i, p i → ¬ q i) : Wr w' p A n sz at' l := fun hn => by
  obtain ⟨b, off, h1, h2, h3⟩ := h hn
  refine ⟨b, off, h1, h2, fun j hj => ?_⟩
  obtain ⟨v, k1, k2, k3⟩ := h3 j hj
  have e := k.block b (cell_lt' k1) (hpq _ h2)
  exact ⟨v, (by unfold World.cell? at k1 ⊢; rw [e]; exact k1), k2, (by unfold World.frozen? at k3 ⊢; rw [e]; exact k3)⟩
theorem Spl.keptP {w w' : World} {p q : Nat → Prop} {a : Ra} {nd : Nat} {es : List Qe} (h : Spl w p a nd es) (k : GrownP q w w') (hpq : ∀ i, p i → ¬ q i) : Spl w' p a nd es :=
  ⟨h.wa.keptP k hpq, h.wb.keptP k hpq, h.wd.keptP k hpq, h.wq.keptP k hpq, fun hn => by
    obtain ⟨b, off, h1, h2⟩ := h.qs hn
    obtain ⟨b', off', h1', hp, _⟩ := h.wq hn
    rw [h1] at h1'; cases h1'
    refine ⟨b, off, h1, fun j hj => ?_⟩
    have k1 := h2 j hj
    have e := k.block b (cell_lt' k1) (hpq _ hp)
    unfold World.cell? at k1 ⊢; rw [e]; exact k1, fun j hj => (h.ql j hj).keptP k hpq, h.na, h.nb, h.nn, h.nq, h.qn⟩
theorem min30 (n c : Nat) (hn : n ≤ c) : ∃ m, m = min n 30 ∧ (if (30 : Int) < (n : Int) then (30 : Int) else (n : Int)) = (m : Int) ∧ min (n : Int) 30 = (m : Int) ∧ (m : Int) ≤ (c : Int) ∧ (0 : Int) ≤ (m : Int) ∧ m ≤ 30 ∧ m ≤ n :=
  ⟨min n 30, rfl, by split <;> omega, by omega, by omega, by omega, by omega, by omega⟩
/-- in the loop of RcuSteps -/
structure LpR (wL : World) (b5 b7 : Nat) (s : St) (g : Gr) (es : List Qe) (L : List (Int × Int × Int)) (Rb : Bool) (wr : World) (j : Nat) (E : Int) (s5 : St) (g5 : Gr) (es5 : List Qe) (a5 : Ra) (al : List Int) (G : Option Addr) (ng cg : Nat) (s7 : St) (g7 : Gr) (es7 : List Qe) (a7 : Ra) : Prop where
  i : StI s g es L j E s5 g5 (ql es5) al s7 g7 (ql es7) Rb
  p5 : Blk wr b5 30 (rcells s5 g5 a5)
  r5 : RcP (fun i => i = b5 ∨ i = b7) wr s5 g5 es5 a5
  c5 : Cap g5 a5
  p7 : Blk wr b7 30 (rcells s7 g7 a7)
  r7 : RcP (fun i => i = b5 ∨ i = b7) wr s7 g7 es7 a7
  og : Ow u64v wr wL.heap.size 35 G ng cg al
  gr : GrownP (fun i => i = b5 ∨ i = b7) wL wr
set_option maxRecDepth 100000 in
set_option maxHeartbeats 16000000 in
theorem rsteps_any (s0 : St) (g0 : Gr) (es0 : List Qe) (a0 : Ra) (T : Option Addr) (nt kt : Nat) (L0 : List (Int × Int × Int)) (w : World) (h : RcIn w s0 g0 es0 a0) (hT : Sm 3 encO (0, 0, 0) w 0 w.heap.size T nt L0) (hnk : nt ≤ kt) :
    Calls Tryz.prog 3 #[rcv s0 g0 a0, .slice T nt kt] w fun x w' => x = .returned (.bool true) ∧ Below w.heap.size w w' := by
  have HI := hid h; have HI0 := hid h; have HB := hid (Below.refl w.heap.size w); have HT := hid hT
  obtain ⟨m, hm, e1, e2, e3, e4, e5, e6⟩ := min30 nt kt hnk
  have HM := hid (show m = min nt 30 ∧ m ≤ 30 from ⟨hm, e5⟩); have HE := hid (And.intro e1 (And.intro e2 (And.intro e3 e4)))
  clear h hT hm e1 e2 e3 e4 e5 e6 hnk
  have bx := below_box w (.cells (rcells s0 g0 a0) 30)
  replace HI := hid (HI.out.step bx); replace HT := hid (HT.out.step bx); replace HB := hid (below_then HB.out bx)
  clear bx
  have PX := hid (Blk.new w 30 (rcells s0 g0 a0))
  go_enter Tryz.func3, Tryz.ntmps3
  go_wp2_with fail
  generalize w.alloc (.cells (rcells s0 g0 a0) 30) = W0 at *
  refine (rcwakes_any _).mono ?_
  rintro e w1 ⟨rfl, hb⟩
  replace HI := hid (HI.out.step hb); replace HT := hid (HT.out.step hb); replace PX := hid (PX.out.step hb); replace HB := hid (below_then HB.out hb)
  clear hb
  obtain ⟨y00, y01, y02, y03, y04, y05, y06, y07, yf0⟩ := PX.out.cells8
  go_wp2_with fail
  clear y00 y01 y02 y03 y04 y05 y06 y07 yf0
  refine (own0_any s0 g0 es0 a0 _ HI.out).mono ?_
  rintro e w2 ⟨a, es, rfl, hqc, hnq, hcp, hr, hb⟩
  have HCT := hid (show Cut (cutS s0) (cutG g0) (ql es) by rw [hqc]; exact cut_cut _ _ _)
  obtain ⟨s, hs⟩ : ∃ s, s = cutS s0 := ⟨_, rfl⟩
  obtain ⟨g, hg⟩ : ∃ g, g = cutG g0 := ⟨_, rfl⟩
  have HS := hid hs; have HG := hid hg; have HQC := hid hqc
  rw [← hs, ← hg] at hr HCT ⊢
  rw [← hg] at hcp
  have RR := hid (hr.fresh.mono (q := fun i => w2.heap.size ≤ i) (fun i hi => .inr hi)); have NQ := hid hnq; have HCP := hid hcp
  clear hs hg hr hnq hqc hcp
  replace HI := hid (HI.out.step hb); replace HT := hid (HT.out.step hb); replace PX := hid (PX.out.step hb); replace HB := hid (below_then HB.out hb)
  clear hb
  have HX0 := hid PX.out.lt
  have HB2 := HB
  have bx := below_box w2 (.cells (rcells s g a) 30)
  replace HI := hid (HI.out.step bx); replace HT := hid (HT.out.step bx); replace PX := hid (PX.out.step bx); replace RR := hid (RR.out.step bx); replace HB := hid (below_then HB.out bx)
  clear bx
  have P5 := hid (Blk.new w2 30 (rcells s g a))
  obtain ⟨e1, e2, e3, e4⟩ := HE.out
  go_wp2_with fail
  clear e1 e2 e3 e4
  have hz3 := hid (show (w2.alloc (.cells (rcells s g a) 30)).heap.size = w2.heap.size + 1 by simp)
  generalize w2.alloc (.cells (rcells s g a) 30) = W3 at *
  refine (clone_op T m kt 0 (L0.take 30) W3 (by have := HT.out.cut (k := 30); rw [← HM.out.1] at this; exact this) (by have := HM.out.2; omega)).mono ?_
  obtain ⟨L, hL⟩ : ∃ L, L = L0.take 30 := ⟨_, rfl⟩
  rw [← hL]
  clear hL
  rintro e w4 ⟨A4, c4, rfl, ho, hb⟩
  have HO := hid ho; have HLN := hid (show L.length = m from ho.len)
  have HOB := hid (show ∀ b, A4 = some b → b.block < w4.heap.size from fun b hb => by obtain ⟨_, cs, hk⟩ := ho.blk b hb; exact hk.lt)
  clear ho HT HE
  replace HI := hid (HI.out.step hb); replace PX := hid (PX.out.step hb); replace RR := hid (RR.out.step hb); replace P5 := hid (P5.out.step hb); replace HB := hid (below_then HB.out hb)
  have HS4 := hid hb.size
  clear hb
  have HQ4 := hid (Below.refl w4.heap.size w4)
  obtain ⟨y00, y01, y02, y03, y04, y05, y06, y07, yf0⟩ := P5.out.cells8
  go_wp2_with fail
  clear y00 y01 y02 y03 y04 y05 y06 y07 yf0
  refine (rright14_any s g es a _ RR.out.rcr).mono ?_
  rintro e w5 ⟨rfl, hb⟩
  replace HI := hid (HI.out.step hb); replace PX := hid (PX.out.step hb); replace RR := hid (RR.out.step hb); replace P5 := hid (P5.out.step hb); replace HO := hid (HO.out.step hb); replace HB := hid (below_then HB.out hb); replace HQ4 := hid (below_then HQ4.out hb)
  clear hb
  obtain ⟨Rb, hRb⟩ : ∃ b, b = decide (RcGood s g (ql es)) := ⟨_, rfl⟩
  rw [← hRb]
  have HRB := hid hRb
  clear hRb
  obtain ⟨y00, y01, y02, y03, y04, y05, y06, y07, yf0⟩ := PX.out.cells8
  go_wp2_with fail
  clear y00 y01 y02 y03 y04 y05 y06 y07 yf0
  refine (own0_any s0 g0 es0 a0 _ HI.out).mono ?_
  rintro e w6 ⟨a7, es7, rfl, hqc, hnq, hcp, hr, hb⟩
  rw [← HS.out, ← HG.out] at hr ⊢
  have R7 := hid (hr.fresh.mono (q := fun i => i = w2.heap.size ∨ i = w6.heap.size) (fun i hi => hi.elim (fun h => .inl (by rw [h]; exact P5.out.lt)) (fun h => .inr (by omega))))
  have HQ7 := hid (show ql es7 = ql es by rw [hqc, HQC.out])
  clear hr hnq hqc hcp
  replace HI := hid (HI.out.step hb); replace PX := hid (PX.out.step hb); replace RR := hid (RR.out.step hb); replace P5 := hid (P5.out.step hb); replace HO := hid (HO.out.step hb); replace HB := hid (below_then HB.out hb); replace HQ4 := hid (below_then HQ4.out hb)
  have HS46 := hid (show w4.heap.size ≤ w6.heap.size from HQ4.out.size)
  have HS6 := hid (show w2.heap.size < w6.heap.size from P5.out.lt)
  replace RR := hid (RR.out.mono (q := fun i => i = w2.heap.size ∨ i = w6.heap.size) (fun i hi => by have := HS6.out; rcases hi with hi | hi <;> omega))
  clear hb
  have bx := below_box w6 (.cells (rcells s g a7) 30)
  replace HI := hid (HI.out.step bx); replace PX := hid (PX.out.step bx); replace RR := hid (RR.out.step bx); replace P5 := hid (P5.out.step bx); replace HO := hid (HO.out.step bx); replace R7 := hid (R7.out.step bx); replace HB := hid (below_then HB.out bx); replace HQ4 := hid (below_then HQ4.out bx)
  clear bx
  have P7 := hid (Blk.new w6 30 (rcells s g a7))
  go_upto_if 39 with fail
  have hz7 := hid (show (w6.alloc (.cells (rcells s g a7) 30)).heap.size = w6.heap.size + 1 by simp)
  generalize w6.alloc (.cells (rcells s g a7) 30) = W7 at *
  go_cut [8] (fun s8 wx => s8 = .int .i64 (if Rb then 0 else 240) ∧ wx = W7)
  case first =>
    rcases Rb with _ | _
    · go_wp2
      go_meet
      exact ⟨rfl, rfl⟩
    · go_wp2
      go_meet
      exact ⟨rfl, rfl⟩
  case rest =>
    obtain ⟨rfl, hw⟩ := hcut
    have hw := hw.symm
    subst hw
    obtain ⟨E, hE⟩ : ∃ E : Int, E = if Rb then 0 else 240 := ⟨_, rfl⟩
    rw [← hE]
    have HSI := hid (show StI s g es L 0 E s g (ql es) [] s g (ql es7) Rb by rw [hE, HQ7.out]; exact StI.start HRB.out HCT.out)
    clear hE
    have HL7 := hid (show w2.heap.size < W7.heap.size ∧ w6.heap.size < W7.heap.size ∧ w.heap.size < w2.heap.size from ⟨P5.out.lt, P7.out.lt, HX0.out⟩)
    have HXW := hid (show ∀ W', GrownP (fun i => i = w2.heap.size ∨ i = w6.heap.size) W7 W' → Below w.heap.size w W' ∧ Blk W' w.heap.size 30 (rcells s0 g0 a0) ∧ RcIn W' s0 g0 es0 a0 ∧ Sm 3 encO (0, 0, 0) W' 0 W'.heap.size A4 m L from fun W' k => by
      have h1 := HX0.out; have h2 := HS6.out
      have hb : Below w.heap.size w W' := GrownP.below HB.out k (fun i hi => by rcases hi with hi | hi <;> omega) (by have := HB.out.size; omega)
      exact ⟨hb, PX.out.keptP k (by rintro (h | h) <;> omega), HI0.out.step hb, ((om_keptP HO.out k (fun b hb hq => by have h3 := HOB.out b hb; have h4 := (HO.out.blk b hb).1; have h5 := HS46.out; have h6 := hz3.out; rcases hq with hq | hq <;> omega)).sm (d := (0, 0, 0))).mono (Nat.zero_le _) (Nat.le_refl _)⟩)
    clear HI
    go_wp2_with fail
    have HLP := hid (show LpR W7 w2.heap.size w6.heap.size s g es L Rb W7 0 E s g es a [] none 0 0 s g es7 a7 from ⟨HSI.out, P5.out, RR.out, HCP.out, P7.out, R7.out, Ow.nil _ _ _, .refl _ _⟩)
    clear HSI P5 RR HCP P7 R7 PX HO HB HQ7 HCT HQ4
    go_loopw [42, 8, 9] (fun i s8 s9 wr => ∃ (j : Nat) (E : Int) (s5 : St) (g5 : Gr) (es5 : List Qe) (a5 : Ra) (al : List Int) (G : Option Addr) (ng cg : Nat) (s7 : St) (g7 : Gr) (es7 : List Qe) (a7 : Ra), j ≤ m ∧ i = .int .i64 j ∧ s8 = .int .i64 E ∧ s9 = .slice G ng cg ∧ LpR W7 w2.heap.size w6.heap.size s g es L Rb wr j E s5 g5 es5 a5 al G ng cg s7 g7 es7 a7) (fun i _ _ _ => m - (intOf i).toNat)
    case atStart => exact ⟨0, _, _, _, _, _, _, _, _, _, _, _, _, _, Nat.zero_le _, rfl, rfl, rfl, HLP.out⟩
    case round =>
      obtain ⟨j, E5, s5, g5, es5, a5, al, G, ng, cg, s7, g7, es7', a7', hj, rfl, rfl, rfl, hlp⟩ := hrel
      have HJ := hid hj; have HLR := hid hlp
      clear hj hlp HLP
      by_cases hjm : j < m
      rotate_left
      ·skip
       obtain rfl : j = m := by have := HJ.out; omega
       have hnn : ¬ ((j : Int) < (j : Int)) := by omega
       have P7 := hid HLR.out.p7; have R7 := hid HLR.out.r7; have OG := hid HLR.out.og; have HGR := hid HLR.out.gr; have HFI := hid (HLR.out.i.fin (Nat.le_of_eq HLN.out))
       have HGN := hid HLR.out.og.len; have HNG := hid (show ng ≤ 30 by have h1 := HLR.out.og.len; have h2 := HLR.out.i.n; have := HM.out; omega)
       clear HLR HJ hjm
       rcases HFI.out with ⟨rfl, hf⟩ | ⟨hE, hf⟩
       ·skip
        have HRF := hid hf; have HAL := hid (OG.out.sl (d := (0 : Int))); have RS := hid R7.out.rcr
        clear hf HFI OG R7
        obtain ⟨hbx, hpx, hix, hlx⟩ := HXW.out _ HGR.out
        have HBX := hid hbx; have PX := hid hpx; have HIX := hid hix; have HLX := hid hlx
        clear hbx hpx hix hlx
        obtain ⟨y00, y01, y02, y03, y04, y05, y06, y07, yf0⟩ := PX.out.cells8
        go_wp2_with fail
        clear y00 y01 y02 y03 y04 y05 y06 y07 yf0
        refine (own0_any s0 g0 es0 a0 _ HIX.out).mono ?_
        rintro e w31 ⟨a31, es31, rfl, hq, hn, hcp, hr, hb⟩
        rw [← HS.out, ← HG.out] at hr ⊢
        have R31 := hid hr.rcr; have HQ31 := hid (show ql es31 = ql es by rw [hq, HQC.out])
        clear hq hn hcp hr
        replace P7 := hid (P7.out.step hb); replace RS := hid (RS.out.step hb); replace PX := hid (PX.out.step hb); replace HIX := hid (HIX.out.step hb); replace HLX := hid (HLX.out.step hb); replace HAL := hid (HAL.out.step hb); replace HBX := hid (below_then HBX.out hb)
        clear hb
        go_wp2_with fail
        refine (show Calls Tryz.prog 14 #[rcv s g a31, .slice A4 j c4] w31 (RnQ (0, s7, g7, (ql es7'), al) w31) from by rw [← HRF.out, rcA_ql HQ31.out.symm]; exact rrunQ_any s g es31 a31 A4 j c4 L w31 R31.out HLX.out (by have := HM.out; omega)).mono ?_
        unfold RnQ
        dsimp only
        rintro e w32 ⟨a32, es32, R, nr, kr, rfl, hq, hn, hr, hown, hb⟩
        have R32 := hid hr.fresh; have HQ32 := hid hq; have HO32 := hid hown; have HNR := hid hown.len
        clear hq hn hr hown R31
        replace P7 := hid (P7.out.step hb); replace RS := hid (RS.out.step hb); replace PX := hid (PX.out.step hb); replace HIX := hid (HIX.out.step hb); replace HLX := hid (HLX.out.step hb); replace HAL := hid (HAL.out.step hb); replace HBX := hid (below_then HBX.out hb)
        clear hb
        have bx := below_box w32 (.cells (rcells s7 g7 a32) 30)
        replace P7 := hid (P7.out.step bx); replace RS := hid (RS.out.step bx); replace PX := hid (PX.out.step bx); replace HIX := hid (HIX.out.step bx); replace HLX := hid (HLX.out.step bx); replace HAL := hid (HAL.out.step bx); replace R32 := hid (R32.out.step bx); replace HO32 := hid (HO32.out.step bx); replace HBX := hid (below_then HBX.out bx)
        clear bx
        have P21 := hid (Blk.new w32 30 (rcells s7 g7 a32))
        have hbE : ((0 : Int) == 0) = true := by simp
        go_wp2_with fail
        generalize w32.alloc (.cells (rcells s7 g7 a32) 30) = W33 at *
        refine (equal_u64 R G nr kr ng cg _ _ _ _ al al _ (HO32.out.sl (d := 0)) HAL.out (by have h1 := HNR.out; have h2 := HNG.out; have h3 := HGN.out; (try simp at h1); omega) (by have := HNG.out; omega)).mono ?_
        rintro e w34 ⟨rfl, hb⟩
        replace P7 := hid (P7.out.step hb); replace RS := hid (RS.out.step hb); replace PX := hid (PX.out.step hb); replace HIX := hid (HIX.out.step hb); replace HLX := hid (HLX.out.step hb); replace HAL := hid (HAL.out.step hb); replace R32 := hid (R32.out.step hb); replace HO32 := hid (HO32.out.step hb); replace P21 := hid (P21.out.step hb); replace HBX := hid (below_then HBX.out hb)
        clear hb
        rw [decide_eq_true rfl]
        obtain ⟨y00, y01, y02, y03, y04, y05, y06, y07, yf0⟩ := P21.out.cells8
        obtain ⟨y10, y11, y12, y13, y14, y15, y16, y17, yf1⟩ := P7.out.cells8
        go_wp2_with fail
        clear hbE y00 y01 y02 y03 y04 y05 y06 y07 yf0 y10 y11 y12 y13 y14 y15 y16 y17 yf1
        refine (rsame14_any s7 g7 es32 a32 s7 g7 es7' a7' _ R32.out.rcr RS.out).mono ?_
        rintro e w35 ⟨rfl, hb⟩
        replace P7 := hid (P7.out.step hb); replace RS := hid (RS.out.step hb); replace PX := hid (PX.out.step hb); replace HIX := hid (HIX.out.step hb); replace HLX := hid (HLX.out.step hb); replace HAL := hid (HAL.out.step hb); replace R32 := hid (R32.out.step hb); replace HO32 := hid (HO32.out.step hb); replace P21 := hid (P21.out.step hb); replace HBX := hid (below_then HBX.out hb)
        clear hb
        rw [show sameRc s7 g7 (ql es32) s7 g7 (ql es7') = true by rw [HQ32.out]; exact sameRc_refl _ _ _]
        go_wp2_with fail
        go_ret
        exact ⟨rfl, HBX.out⟩
       have hEb : (E5 != 0) = true := by simpa using hE
       have hEc : (E5 == 0) = false := by simpa using hE
       obtain ⟨y00, y01, y02, y03, y04, y05, y06, y07, yf0⟩ := P7.out.cells8
       go_upto_region 36 with fail
       clear hEb hEc y00 y01 y02 y03 y04 y05 y06 y07 yf0
       have hbk0 : Blk (wr.setCell ⟨w6.heap.size, 0, none⟩ (.int .i64 0)) (w6.heap.size) 30 #[.int .i64 0, .slice a7'.A a7'.n a7'.k, .slice a7'.B a7'.m a7'.d, .int .i64 g7.dn, .int .i64 g7.ak, .bool g7.on, .slice a7'.D g7.nd.length a7'.kd, .slice a7'.Q a7'.nq a7'.kq] := P7.out.setCell 0 (.int .i64 0)
       have hbk1 : Blk ((wr.setCell ⟨w6.heap.size, 0, none⟩ (.int .i64 0)).setCell ⟨w6.heap.size, 1, none⟩ (.slice none 0 0)) (w6.heap.size) 30 #[.int .i64 0, .slice none 0 0, .slice a7'.B a7'.m a7'.d, .int .i64 g7.dn, .int .i64 g7.ak, .bool g7.on, .slice a7'.D g7.nd.length a7'.kd, .slice a7'.Q a7'.nq a7'.kq] := hbk0.setCell 1 (.slice none 0 0)
       have hbk2 : Blk (((wr.setCell ⟨w6.heap.size, 0, none⟩ (.int .i64 0)).setCell ⟨w6.heap.size, 1, none⟩ (.slice none 0 0)).setCell ⟨w6.heap.size, 2, none⟩ (.slice none 0 0)) (w6.heap.size) 30 #[.int .i64 0, .slice none 0 0, .slice none 0 0, .int .i64 g7.dn, .int .i64 g7.ak, .bool g7.on, .slice a7'.D g7.nd.length a7'.kd, .slice a7'.Q a7'.nq a7'.kq] := hbk1.setCell 2 (.slice none 0 0)
       have hbk3 : Blk ((((wr.setCell ⟨w6.heap.size, 0, none⟩ (.int .i64 0)).setCell ⟨w6.heap.size, 1, none⟩ (.slice none 0 0)).setCell ⟨w6.heap.size, 2, none⟩ (.slice none 0 0)).setCell ⟨w6.heap.size, 3, none⟩ (.int .i64 0)) (w6.heap.size) 30 #[.int .i64 0, .slice none 0 0, .slice none 0 0, .int .i64 0, .int .i64 g7.ak, .bool g7.on, .slice a7'.D g7.nd.length a7'.kd, .slice a7'.Q a7'.nq a7'.kq] := hbk2.setCell 3 (.int .i64 0)
       have hbk4 : Blk (((((wr.setCell ⟨w6.heap.size, 0, none⟩ (.int .i64 0)).setCell ⟨w6.heap.size, 1, none⟩ (.slice none 0 0)).setCell ⟨w6.heap.size, 2, none⟩ (.slice none 0 0)).setCell ⟨w6.heap.size, 3, none⟩ (.int .i64 0)).setCell ⟨w6.heap.size, 4, none⟩ (.int .i64 0)) (w6.heap.size) 30 #[.int .i64 0, .slice none 0 0, .slice none 0 0, .int .i64 0, .int .i64 0, .bool g7.on, .slice a7'.D g7.nd.length a7'.kd, .slice a7'.Q a7'.nq a7'.kq] := hbk3.setCell 4 (.int .i64 0)
       have hbk5 : Blk ((((((wr.setCell ⟨w6.heap.size, 0, none⟩ (.int .i64 0)).setCell ⟨w6.heap.size, 1, none⟩ (.slice none 0 0)).setCell ⟨w6.heap.size, 2, none⟩ (.slice none 0 0)).setCell ⟨w6.heap.size, 3, none⟩ (.int .i64 0)).setCell ⟨w6.heap.size, 4, none⟩ (.int .i64 0)).setCell ⟨w6.heap.size, 5, none⟩ (.bool false)) (w6.heap.size) 30 #[.int .i64 0, .slice none 0 0, .slice none 0 0, .int .i64 0, .int .i64 0, .bool false, .slice a7'.D g7.nd.length a7'.kd, .slice a7'.Q a7'.nq a7'.kq] := hbk4.setCell 5 (.bool false)
       have hbk6 : Blk (((((((wr.setCell ⟨w6.heap.size, 0, none⟩ (.int .i64 0)).setCell ⟨w6.heap.size, 1, none⟩ (.slice none 0 0)).setCell ⟨w6.heap.size, 2, none⟩ (.slice none 0 0)).setCell ⟨w6.heap.size, 3, none⟩ (.int .i64 0)).setCell ⟨w6.heap.size, 4, none⟩ (.int .i64 0)).setCell ⟨w6.heap.size, 5, none⟩ (.bool false)).setCell ⟨w6.heap.size, 6, none⟩ (.slice none 0 0)) (w6.heap.size) 30 #[.int .i64 0, .slice none 0 0, .slice none 0 0, .int .i64 0, .int .i64 0, .bool false, .slice none 0 0, .slice a7'.Q a7'.nq a7'.kq] := hbk5.setCell 6 (.slice none 0 0)
       have hbk7 : Blk ((((((((wr.setCell ⟨w6.heap.size, 0, none⟩ (.int .i64 0)).setCell ⟨w6.heap.size, 1, none⟩ (.slice none 0 0)).setCell ⟨w6.heap.size, 2, none⟩ (.slice none 0 0)).setCell ⟨w6.heap.size, 3, none⟩ (.int .i64 0)).setCell ⟨w6.heap.size, 4, none⟩ (.int .i64 0)).setCell ⟨w6.heap.size, 5, none⟩ (.bool false)).setCell ⟨w6.heap.size, 6, none⟩ (.slice none 0 0)).setCell ⟨w6.heap.size, 7, none⟩ (.slice none 0 0)) (w6.heap.size) 30 #[.int .i64 0, .slice none 0 0, .slice none 0 0, .int .i64 0, .int .i64 0, .bool false, .slice none 0 0, .slice none 0 0] := hbk6.setCell 7 (.slice none 0 0)
       have hgr : wr.grownBy ((((((((wr.setCell ⟨w6.heap.size, 0, none⟩ (.int .i64 0)).setCell ⟨w6.heap.size, 1, none⟩ (.slice none 0 0)).setCell ⟨w6.heap.size, 2, none⟩ (.slice none 0 0)).setCell ⟨w6.heap.size, 3, none⟩ (.int .i64 0)).setCell ⟨w6.heap.size, 4, none⟩ (.int .i64 0)).setCell ⟨w6.heap.size, 5, none⟩ (.bool false)).setCell ⟨w6.heap.size, 6, none⟩ (.slice none 0 0)).setCell ⟨w6.heap.size, 7, none⟩ (.slice none 0 0)) (some (w6.heap.size)) := (grown_set (grown_set (grown_set (grown_set (grown_set (grown_set (grown_set (grown_set (World.grownBy.refl wr (some (w6.heap.size))) 0 (.int .i64 0)) 1 (.slice none 0 0)) 2 (.slice none 0 0)) 3 (.int .i64 0)) 4 (.int .i64 0)) 5 (.bool false)) 6 (.slice none 0 0)) 7 (.slice none 0 0))
       replace P7 := hid hbk7
       clear hbk0 hbk1 hbk2 hbk3 hbk4 hbk5 hbk6 hbk7
       generalize (((((((wr.setCell ⟨w6.heap.size, 0, none⟩ (.int .i64 0)).setCell ⟨w6.heap.size, 1, none⟩ (.slice none 0 0)).setCell ⟨w6.heap.size, 2, none⟩ (.slice none 0 0)).setCell ⟨w6.heap.size, 3, none⟩ (.int .i64 0)).setCell ⟨w6.heap.size, 4, none⟩ (.int .i64 0)).setCell ⟨w6.heap.size, 5, none⟩ (.bool false)).setCell ⟨w6.heap.size, 6, none⟩ (.slice none 0 0)).setCell ⟨w6.heap.size, 7, none⟩ (.slice none 0 0) = w29 at *
       replace HGR := hid (HGR.out.trans (GrownP.ofGrown hgr (.inr rfl)))
       have HRF := hid hf; have HAL := hid (Sl.nil (enc := u64v) (d := (0 : Int)) w29 0 w29.heap.size none); have RS := hid (RcP.zero (fun _ => False) w29).rcr
       clear hf HFI OG R7 HNG HGN hgr
       have HNG := hid (show 0 ≤ 30 by omega); have HGN := hid (show ([] : List Int).length = 0 from rfl)
       obtain ⟨hbx, hpx, hix, hlx⟩ := HXW.out _ HGR.out
       have HBX := hid hbx; have PX := hid hpx; have HIX := hid hix; have HLX := hid hlx
       clear hbx hpx hix hlx
       obtain ⟨y00, y01, y02, y03, y04, y05, y06, y07, yf0⟩ := PX.out.cells8
       go_wp2_with fail
       clear y00 y01 y02 y03 y04 y05 y06 y07 yf0
       refine (own0_any s0 g0 es0 a0 _ HIX.out).mono ?_
       rintro e w31 ⟨a31, es31, rfl, hq, hn, hcp, hr, hb⟩
       rw [← HS.out, ← HG.out] at hr ⊢
       have R31 := hid hr.rcr; have HQ31 := hid (show ql es31 = ql es by rw [hq, HQC.out])
       clear hq hn hcp hr
       replace P7 := hid (P7.out.step hb); replace RS := hid (RS.out.step hb); replace PX := hid (PX.out.step hb); replace HIX := hid (HIX.out.step hb); replace HLX := hid (HLX.out.step hb); replace HAL := hid (HAL.out.step hb); replace HBX := hid (below_then HBX.out hb)
       clear hb
       go_wp2_with fail
       refine (show Calls Tryz.prog 14 #[rcv s g a31, .slice A4 j c4] w31 (RnQ (E5, zSt, zGr, [], []) w31) from by rw [← HRF.out, rcA_ql HQ31.out.symm]; exact rrunQ_any s g es31 a31 A4 j c4 L w31 R31.out HLX.out (by have := HM.out; omega)).mono ?_
       unfold RnQ
       dsimp only
       rintro e w32 ⟨a32, es32, R, nr, kr, rfl, hq, hn, hr, hown, hb⟩
       have R32 := hid hr.fresh; have HQ32 := hid hq; have HO32 := hid hown; have HNR := hid hown.len
       clear hq hn hr hown R31
       replace P7 := hid (P7.out.step hb); replace RS := hid (RS.out.step hb); replace PX := hid (PX.out.step hb); replace HIX := hid (HIX.out.step hb); replace HLX := hid (HLX.out.step hb); replace HAL := hid (HAL.out.step hb); replace HBX := hid (below_then HBX.out hb)
       clear hb
       have bx := below_box w32 (.cells (rcells zSt zGr a32) 30)
       replace P7 := hid (P7.out.step bx); replace RS := hid (RS.out.step bx); replace PX := hid (PX.out.step bx); replace HIX := hid (HIX.out.step bx); replace HLX := hid (HLX.out.step bx); replace HAL := hid (HAL.out.step bx); replace R32 := hid (R32.out.step bx); replace HO32 := hid (HO32.out.step bx); replace HBX := hid (below_then HBX.out bx)
       clear bx
       have P21 := hid (Blk.new w32 30 (rcells zSt zGr a32))
       have hbE : ((E5 : Int) == E5) = true := by simp
       go_wp2_with fail
       generalize w32.alloc (.cells (rcells zSt zGr a32) 30) = W33 at *
       refine (equal_u64 R none nr kr 0 0 _ _ _ _ [] [] _ (HO32.out.sl (d := 0)) HAL.out (by have h1 := HNR.out; have h2 := HNG.out; have h3 := HGN.out; (try simp at h1); omega) (by have := HNG.out; omega)).mono ?_
       rintro e w34 ⟨rfl, hb⟩
       replace P7 := hid (P7.out.step hb); replace RS := hid (RS.out.step hb); replace PX := hid (PX.out.step hb); replace HIX := hid (HIX.out.step hb); replace HLX := hid (HLX.out.step hb); replace HAL := hid (HAL.out.step hb); replace R32 := hid (R32.out.step hb); replace HO32 := hid (HO32.out.step hb); replace P21 := hid (P21.out.step hb); replace HBX := hid (below_then HBX.out hb)
       clear hb
       rw [decide_eq_true rfl]
       obtain ⟨y00, y01, y02, y03, y04, y05, y06, y07, yf0⟩ := P21.out.cells8
       obtain ⟨y10, y11, y12, y13, y14, y15, y16, y17, yf1⟩ := P7.out.cells8
       go_wp2_with fail
       clear hbE y00 y01 y02 y03 y04 y05 y06 y07 yf0 y10 y11 y12 y13 y14 y15 y16 y17 yf1
       refine (rsame14_any zSt zGr es32 a32 zSt zGr [] zRa _ R32.out.rcr RS.out).mono ?_
       rintro e w35 ⟨rfl, hb⟩
       replace P7 := hid (P7.out.step hb); replace RS := hid (RS.out.step hb); replace PX := hid (PX.out.step hb); replace HIX := hid (HIX.out.step hb); replace HLX := hid (HLX.out.step hb); replace HAL := hid (HAL.out.step hb); replace R32 := hid (R32.out.step hb); replace HO32 := hid (HO32.out.step hb); replace P21 := hid (P21.out.step hb); replace HBX := hid (below_then HBX.out hb)
       clear hb
       rw [show sameRc zSt zGr (ql es32) zSt zGr (ql []) = true by rw [HQ32.out]; exact sameRc_refl _ _ _]
       go_wp2_with fail
       go_ret
       exact ⟨rfl, HBX.out⟩
      have P5 := hid HLR.out.p5; have R5 := hid HLR.out.r5.fresh; have C5 := hid HLR.out.c5; have P7 := hid HLR.out.p7; have R7 := hid HLR.out.r7.fresh; have OG := hid HLR.out.og; have HGR := hid HLR.out.gr; have HOGB := hid (show ∀ a, G = some a → a.block < wr.heap.size from fun b hb => by obtain ⟨_, cs, hk⟩ := HLR.out.og.blk b hb; exact hk.lt); have HSI := hid HLR.out.i
      have HJL := hid (show j < L.length by rw [HLN.out]; exact hjm)
      obtain ⟨o, ho⟩ : ∃ o, o = L[j]?.getD (0, 0, 0) := ⟨_, rfl⟩
      obtain ⟨b, off, hA, _, _, hc⟩ := (HXW.out _ HGR.out).2.2.2.row (by omega)
      have f0 := hc j hjm 0 (by omega)
      have f1 := hc j hjm 1 (by omega)
      have f2 := hc j hjm 2 (by omega)
      rw [← ho] at f0 f1 f2
      have HOE := hid ho
      obtain ⟨ok, oc, ow⟩ := o
      replace f0 : wr.cell? ⟨b, off + j * 3, none⟩ = some (.int .i64 ok) := f0
      replace f1 : wr.cell? ⟨b, off + j * 3 + 1, none⟩ = some (.int .i64 oc) := f1
      replace f2 : wr.cell? ⟨b, off + j * 3 + 2, none⟩ = some (.int .u64 ow) := f2
      have hji : (j : Int) < (m : Int) := by omega
      have hw1 : IntKind.i64.wrap ((j : Int) + 1) = (j : Int) + 1 := by have := HM.out; rw [IntKind.wrap_i64]; omega
      have HW1 := hid hw1; have HW := hid (Below.refl wr.heap.size wr); have HL5 := hid (show w2.heap.size < wr.heap.size ∧ w6.heap.size < wr.heap.size from ⟨HLR.out.p5.lt, HLR.out.p7.lt⟩)
      clear hc ho hjm HLR hw1
      rw [hA]
      have bx := below_box wr (.cells #[.int .i64 ok, .int .i64 oc, .int .u64 ow] 37)
      replace P5 := hid (P5.out.step bx); replace R5 := hid (R5.out.step bx); replace P7 := hid (P7.out.step bx); replace R7 := hid (R7.out.step bx); replace OG := hid (OG.out.step bx); replace HW := hid (below_then HW.out bx)
      clear bx
      have PO := hid (Blk.new wr 37 #[.int .i64 ok, .int .i64 oc, .int .u64 ow])
      obtain ⟨y00, y01, y02, y03, y04, y05, y06, y07, yf0⟩ := P5.out.cells8
      go_wp2_with fail
      clear f0 f1 f2 hji hA y00 y01 y02 y03 y04 y05 y06 y07 yf0
      have HZ10 := hid (show wr.heap.size < (wr.alloc (.cells #[.int .i64 ok, .int .i64 oc, .int .u64 ow] 37)).heap.size by simp)
      generalize wr.alloc (.cells #[.int .i64 ok, .int .i64 oc, .int .u64 ow] 37) = W10 at *
      refine (ownC_any s5 g5 es5 a5 W10 R5.out.rcr C5.out HSI.out.c).mono ?_
      rintro e w11 ⟨a12, es12, rfl, hq, hn, hcp, hr, hb⟩
      have R12 := hid (hr.fresh.mono (q := fun i => w11.heap.size ≤ i) (fun i hi => .inr hi)); have HQ12 := hid hq; have HZ11 := hid hb.size
      clear hq hn hcp hr
      replace P5 := hid (P5.out.step hb); replace R5 := hid (R5.out.step hb); replace P7 := hid (P7.out.step hb); replace R7 := hid (R7.out.step hb); replace OG := hid (OG.out.step hb); replace PO := hid (PO.out.step hb); replace HW := hid (below_then HW.out hb)
      clear hb
      have bx := below_box w11 (.cells (rcells s5 g5 a12) 30)
      replace P5 := hid (P5.out.step bx); replace R5 := hid (R5.out.step bx); replace P7 := hid (P7.out.step bx); replace R7 := hid (R7.out.step bx); replace OG := hid (OG.out.step bx); replace PO := hid (PO.out.step bx); replace R12 := hid (R12.out.step bx); replace HW := hid (below_then HW.out bx)
      clear bx
      have P12 := hid (Blk.new w11 30 (rcells s5 g5 a12))
      obtain ⟨y00, y01, y02, y03, y04, y05, y06, y07, yf0⟩ := P5.out.cells8
      obtain ⟨y10, y11, y12, yf1⟩ := PO.out.cells3
      go_wp2_with fail
      clear y10 y11 y12 yf1 y00 y01 y02 y03 y04 y05 y06 y07 yf0
      have hz12 := hid (show (w11.alloc (.cells (rcells s5 g5 a12) 30)).heap.size = w11.heap.size + 1 by simp)
      generalize w11.alloc (.cells (rcells s5 g5 a12) 30) = W12 at *
      obtain ⟨Y, hY⟩ : ∃ Y, Y = rcA s5 g5 es5 [(ok, oc, ow)] := ⟨_, rfl⟩
      have HYE := hid hY
      refine (show Calls Tryz.prog 10 #[rcv s5 g5 a5, .agg #[.int .i64 ok, .int .i64 oc, .int .u64 ow]] W12 (StQ Y W12) from hY ▸ rstepQ_any s5 g5 es5 a5 (ok, oc, ow) W12 R5.out.rcr).mono ?_
      clear hY
      obtain ⟨y1, sY, gY, qY, yr⟩ := Y
      unfold StQ
      dsimp only
      obtain ⟨yl, hyl⟩ : ∃ yl, yl = lastO yr := ⟨_, rfl⟩
      rw [← hyl]
      have HYL := hid hyl
      clear hyl
      rintro e w13 ⟨a13, es13, rfl, hq, hn, hcp, hr, hspl, hb⟩
      have R13 := hid (hr.fresh.mono (q := fun i => w13.heap.size ≤ i) (fun i hi => .inr hi)); have HQ13 := hid hq; have C13 := hid hcp; have SP13 := hid hspl
      have HS12 := hid (show wr.heap.size < w11.heap.size ∧ w11.heap.size < W12.heap.size from ⟨Nat.lt_of_lt_of_le HZ10.out HZ11.out, by have := hz12.out; omega⟩); have HS13 := hid hb.size
      clear hq hn hcp hr hspl
      replace P5 := hid (P5.out.step hb); replace R5 := hid (R5.out.step hb); replace P7 := hid (P7.out.step hb); replace R7 := hid (R7.out.step hb); replace OG := hid (OG.out.step hb); replace PO := hid (PO.out.step hb); replace R12 := hid (R12.out.step hb); replace P12 := hid (P12.out.step hb); replace HW := hid (below_then HW.out hb)
      clear hb
      have bx := below_box w13 (.cells (rcells sY gY a13) 30)
      replace P5 := hid (P5.out.step bx); replace R5 := hid (R5.out.step bx); replace P7 := hid (P7.out.step bx); replace R7 := hid (R7.out.step bx); replace OG := hid (OG.out.step bx); replace PO := hid (PO.out.step bx); replace R12 := hid (R12.out.step bx); replace P12 := hid (P12.out.step bx); replace R13 := hid (R13.out.step bx); replace SP13 := hid (SP13.out.step bx); replace HW := hid (below_then HW.out bx)
      clear bx
      have P13 := hid (Blk.new w13 30 (rcells sY gY a13))
      have bx := below_box (w13.alloc (.cells (rcells sY gY a13) 30)) (.cells #[.int .i64 0, .slice none 0 0, .slice none 0 0, .int .i64 0, .int .i64 0, .bool false, .slice none 0 0, .slice none 0 0] 30)
      replace P5 := hid (P5.out.step bx); replace R5 := hid (R5.out.step bx); replace P7 := hid (P7.out.step bx); replace R7 := hid (R7.out.step bx); replace OG := hid (OG.out.step bx); replace PO := hid (PO.out.step bx); replace R12 := hid (R12.out.step bx); replace P12 := hid (P12.out.step bx); replace R13 := hid (R13.out.step bx); replace SP13 := hid (SP13.out.step bx); replace P13 := hid (P13.out.step bx); replace HW := hid (below_then HW.out bx)
      clear bx
      have P16 := hid (Blk.new2 w13 30 #[.int .i64 0, .slice none 0 0, .slice none 0 0, .int .i64 0, .int .i64 0, .bool false, .slice none 0 0, .slice none 0 0] (.cells (rcells sY gY a13) 30))
      go_upto_if 55 with fail
      have hz14 := hid (show ((w13.alloc (.cells (rcells sY gY a13) 30)).alloc (.cells #[.int .i64 0, .slice none 0 0, .slice none 0 0, .int .i64 0, .int .i64 0, .bool false, .slice none 0 0, .slice none 0 0] 30)).heap.size = w13.heap.size + 2 by simp)
      generalize (w13.alloc (.cells (rcells sY gY a13) 30)).alloc (.cells #[.int .i64 0, .slice none 0 0, .slice none 0 0, .int .i64 0, .int .i64 0, .bool false, .slice none 0 0, .slice none 0 0] 30) = W14 at *
      obtain ⟨rn, hrn⟩ : ∃ rn, rn = decide (ok = 5 ∧ y1 = 0) := ⟨_, rfl⟩
      have HRN := hid hrn
      clear hrn
      go_cut [17, 18, 19] (fun s17 s18 s19 wx => ∃ (a16 : Ra) (es16 : List Qe), s17 = .bool rn ∧ s18 = .int .u64 yl ∧ s19 = .int .i64 y1 ∧ ql es16 = qY ∧ Blk wx (w13.heap.size + 1) 30 (rcells sY gY a16) ∧ RcR wx sY gY es16 a16 ∧ GrownP (fun i => i = w13.heap.size + 1) W14 wx)
      case first =>
        rcases Rb with _ | _
        rotate_left
        ·skip
         have HGD := hid (show RcGood s5 g5 (ql es5) from of_decide_eq_true HSI.out.r.symm)
         have HLX := hid (show w2.heap.size < W14.heap.size ∧ wr.heap.size < W14.heap.size by have := HL5.out; have := HS12.out; have := HS13.out; have := hz14.out; omega)
         go_upto_region 18 with fail
         have HGF := hid (GrownP.refl (fun i => i = w13.heap.size + 1) W14)
         have bx := (Below.refl W14.heap.size W14).drew
         replace P5 := hid (P5.out.step bx); replace R5 := hid (R5.out.step bx); replace PO := hid (PO.out.step bx); replace P16 := hid (P16.out.step bx); replace HGF := hid (HGF.out.step bx)
         clear bx
         have hszd := hid (show W14.drew.heap.size = W14.heap.size from rfl)
         refine wp_region_noPanic ?_
         refine wp_region_held_drew (S := (fun W' : World => W'.cell? ⟨w2.heap.size, 0, none⟩ = some (.int .i64 s5.1) ∧ W'.cell? ⟨w2.heap.size, 1, none⟩ = some (.slice a5.A a5.n a5.k) ∧ W'.cell? ⟨w2.heap.size, 2, none⟩ = some (.slice a5.B a5.m a5.d) ∧ W'.cell? ⟨w2.heap.size, 3, none⟩ = some (.int .i64 g5.dn) ∧ W'.cell? ⟨w2.heap.size, 4, none⟩ = some (.int .i64 g5.ak) ∧ W'.cell? ⟨w2.heap.size, 5, none⟩ = some (.bool g5.on) ∧ W'.cell? ⟨w2.heap.size, 6, none⟩ = some (.slice a5.D g5.nd.length a5.kd) ∧ W'.cell? ⟨w2.heap.size, 7, none⟩ = some (.slice a5.Q a5.nq a5.kq) ∧ W'.cell? ⟨wr.heap.size, 0, none⟩ = some (.int .i64 ok) ∧ W'.cell? ⟨wr.heap.size, 1, none⟩ = some (.int .i64 oc) ∧ W'.cell? ⟨wr.heap.size, 2, none⟩ = some (.int .u64 ow))) (by kernel_rfl) ⟨P5.out.cells8.1, P5.out.cells8.2.1, P5.out.cells8.2.2.1, P5.out.cells8.2.2.2.1, P5.out.cells8.2.2.2.2.1, P5.out.cells8.2.2.2.2.2.1, P5.out.cells8.2.2.2.2.2.2.1, P5.out.cells8.2.2.2.2.2.2.2.1, PO.out.cells3.1, PO.out.cells3.2.1, PO.out.cells3.2.2.1⟩ (fun hS => ?_)
         generalize W14.drew = Wd at *
         refine tk 0 hS ?_
         refine tk 2 hS ?_
         refine rdy [1] (csy (fun K hK => ?_) AllReadyH.nil)
         go_simp
         refine (ownC_any s5 g5 es5 a5 _ R5.out.rcr C5.out HSI.out.c).mono ?_
         rintro e w17 ⟨a17, es17, rfl, hq, hn, hcp, hr, hb⟩
         have hsz0 := hid (show Wd.heap.size ≤ w17.heap.size from hb.size)
         replace P5 := hid (P5.out.step hb); replace R5 := hid (R5.out.step hb); replace PO := hid (PO.out.step hb); replace P16 := hid (P16.out.step hb); replace HGF := hid (HGF.out.step hb)
         clear hb
         have R17 := hid (hr.mono (q := fun i => i = w13.heap.size + 1) (fun i hi => by have := hz14.out; have := hszd.out; omega)); have HQ17 := hid hq; have HN17 := hid hn
         clear hq hn hcp hr
         go_wp2_with fail
         clear hS
         refine ky hK ⟨P5.out.cells8.1, P5.out.cells8.2.1, P5.out.cells8.2.2.1, P5.out.cells8.2.2.2.1, P5.out.cells8.2.2.2.2.1, P5.out.cells8.2.2.2.2.2.1, P5.out.cells8.2.2.2.2.2.2.1, P5.out.cells8.2.2.2.2.2.2.2.1, PO.out.cells3.1, PO.out.cells3.2.1, PO.out.cells3.2.2.1⟩ fun hS => ?_
         clear hK K
         refine rdy [3] (csy (fun K hK => ?_) AllReadyH.nil)
         go_simp
         refine ((show Calls Tryz.prog 11 #[rcv s5 g5 a17, .agg #[.int .i64 ok, .int .i64 oc, .int .u64 ow]] _ (RS14 (fun i => i = w13.heap.size + 1) _ sY gY qY yl rn y1) from by rw [HRN.out, HYL.out]; show Calls _ _ _ _ (SA14 (fun i => i = w13.heap.size + 1) _ (ok, oc, ow) (y1, sY, gY, qY, yr)); rw [HYE.out, rcA_good HGD.out, ← HQ17.out]; exact rstep14_any (fun i => i = w13.heap.size + 1) s5 g5 es17 a17 (ok, oc, ow) _ R17.out (fun i hi => by have := hz14.out; have := hszd.out; have := hsz0.out; omega) HN17.out (by rw [HQ17.out]; exact HGD.out))).mono ?_
         rintro e w18 ⟨a16, es16, rfl, hq, hn, hr, hb⟩
         have hsz1 := hid (show w17.heap.size ≤ w18.heap.size from hb.size)
         replace P5 := hid (P5.out.step hb); replace R5 := hid (R5.out.step hb); replace PO := hid (PO.out.step hb); replace P16 := hid (P16.out.step hb); replace HGF := hid (HGF.out.step hb); replace R17 := hid (R17.out.step hb)
         clear hb
         have RW := hid hr; have HQ16 := hid hq
         clear hq hn hr R17
         go_wp2_with fail
         clear hS
         refine ky hK ⟨P5.out.cells8.1, P5.out.cells8.2.1, P5.out.cells8.2.2.1, P5.out.cells8.2.2.2.1, P5.out.cells8.2.2.2.2.1, P5.out.cells8.2.2.2.2.2.1, P5.out.cells8.2.2.2.2.2.2.1, P5.out.cells8.2.2.2.2.2.2.2.1, PO.out.cells3.1, PO.out.cells3.2.1, PO.out.cells3.2.2.1⟩ fun hS => ?_
         clear hK K
         refine tk 4 hS ?_
         refine tk 5 hS ?_
         refine tk 6 hS ?_
         refine tk 7 hS ?_
         refine tk 8 hS ?_
         refine rdy [9] (csy (fun K hK => ?_) AllReadyH.nil)
         obtain ⟨y00, y01, y02, y03, y04, y05, y06, y07, yf0⟩ := P16.out.cells8
         go_simp
         clear y00 y01 y02 y03 y04 y05 y06 y07 yf0
         refine named_store_8_8_0 P16.out ?_
         intro Ws9 hbk hgr hsz
         have hsz2 := hid hsz
         clear hsz
         replace RW := hid (RW.out.turn hgr rfl); replace HGF := hid (HGF.out.trans (GrownP.ofGrown hgr rfl))
         replace P5 := hid (P5.out.grown hgr (by have := HL5.out; have := HS12.out; have := HS13.out; simp; omega)); replace PO := hid (PO.out.grown hgr (by have := HS12.out; have := HS13.out; simp; omega)); replace R5 := hid (R5.out.turn hgr (.inr (by have := HS12.out; have := HS13.out; omega)))
         replace P16 := hid hbk
         clear hbk hgr
         clear hS
         refine ky hK ⟨P5.out.cells8.1, P5.out.cells8.2.1, P5.out.cells8.2.2.1, P5.out.cells8.2.2.2.1, P5.out.cells8.2.2.2.2.1, P5.out.cells8.2.2.2.2.2.1, P5.out.cells8.2.2.2.2.2.2.1, P5.out.cells8.2.2.2.2.2.2.2.1, PO.out.cells3.1, PO.out.cells3.2.1, PO.out.cells3.2.2.1⟩ fun hS => ?_
         clear hK K
         refine tk 10 hS ?_
         refine tk 11 hS ?_
         refine tk 12 hS ?_
         refine wpAnyH_done (by kernel_rfl) ?_ _
         refine NoPanic.normal ?_
         clear hS
         go_wp2_with fail
         go_meet
         exact ⟨a16, es16, rfl, rfl, rfl, HQ16.out, P16.out, RW.out.rcr, HGF.out⟩
        have HGD : ¬ RcGood s5 g5 (ql es5) := of_decide_eq_false HSI.out.r.symm
        have h0 := HYE.out
        rw [rcA_bad HGD] at h0
        clear HGD HYE
        cases h0
        obtain rfl : rn = false := by rw [HRN.out]; exact decide_eq_false (by omega)
        have hl0 : yl = 0 := HYL.out
        subst hl0
        go_wp2
        go_meet
        exact ⟨zRa, [], rfl, rfl, rfl, rfl, P16.out, (RcP.zero (fun _ => False) _).rcr, .refl _ _⟩
      case rest =>
        obtain ⟨a16, es16, rfl, rfl, rfl, hq16, h16, hr16, hgf⟩ := hcut
        replace P5 := hid (P5.out.keptP hgf (show ¬ _ by have := HL5.out; have := HS12.out; have := HS13.out; have := hz14.out; omega)); replace R5 := hid (R5.out.go hgf (fun i hi => .inr (by have := HL5.out; have := HS12.out; have := HS13.out; have := hz14.out; omega))); replace P7 := hid (P7.out.keptP hgf (show ¬ _ by have := HL5.out; have := HS12.out; have := HS13.out; have := hz14.out; omega)); replace R7 := hid (R7.out.go hgf (fun i hi => .inr (by have := HL5.out; have := HS12.out; have := HS13.out; have := hz14.out; omega)))
        replace OG := hid (OG.out.keptP hgf (fun a ha hi => by have h9 := HOGB.out a ha; (try dsimp only at hi); have := HL5.out; have := HS12.out; have := HS13.out; have := hz14.out; omega)); replace P12 := hid (P12.out.keptP hgf (show ¬ _ by have := HL5.out; have := HS12.out; have := HS13.out; have := hz14.out; omega)); replace R12 := hid (R12.out.go hgf (fun i hi => show w11.heap.size ≤ i by (try dsimp only at hi); have := HL5.out; have := HS12.out; have := HS13.out; have := hz14.out; omega))
        replace HW := hid (GrownP.below HW.out hgf (fun i hi => by have := HL5.out; have := HS12.out; have := HS13.out; have := hz14.out; omega) (by have := HW.out.size; omega))
        replace P13 := hid (P13.out.keptP hgf (show ¬ _ by have := HL5.out; have := HS12.out; have := HS13.out; have := hz14.out; omega)); replace R13 := hid (R13.out.go hgf (fun i hi => show w13.heap.size ≤ i by (try dsimp only at hi); have := HL5.out; have := HS12.out; have := HS13.out; have := hz14.out; omega)); replace SP13 := hid (SP13.out.keptP hgf (fun i hi (hq : _ = _) => by have := HL5.out; have := HS12.out; have := HS13.out; have := hz14.out; omega))
        have P16 := hid h16; have R16 := hid hr16; have HQ16 := hid hq16
        clear h16 hr16 hq16 hgf PO
        have hbY : (y1 != y1) = false := by simp
        have hbL : (yl != yl) = false := by simp
        obtain ⟨y00, y01, y02, y03, y04, y05, y06, y07, yf0⟩ := P13.out.cells8
        obtain ⟨y10, y11, y12, y13, y14, y15, y16, y17, yf1⟩ := P16.out.cells8
        go_wp2_with fail
        clear hbY hbL y00 y01 y02 y03 y04 y05 y06 y07 yf0 y10 y11 y12 y13 y14 y15 y16 y17 yf1
        refine (rsame14_any sY gY es13 a13 sY gY es16 a16 _ R13.out.rcr R16.out).mono ?_
        rintro e w19 ⟨rfl, hb⟩
        replace P5 := hid (P5.out.step hb); replace R5 := hid (R5.out.step hb); replace P7 := hid (P7.out.step hb); replace R7 := hid (R7.out.step hb); replace OG := hid (OG.out.step hb); replace P12 := hid (P12.out.step hb); replace R12 := hid (R12.out.step hb); replace P13 := hid (P13.out.step hb); replace R13 := hid (R13.out.step hb); replace SP13 := hid (SP13.out.step hb); replace HW := hid (below_then HW.out hb)
        clear hb
        rw [show sameRc sY gY (ql es13) sY gY (ql es16) = true by rw [HQ13.out, HQ16.out]; exact sameRc_refl _ _ _]
        obtain ⟨y00, y01, y02, y03, y04, y05, y06, y07, yf0⟩ := P13.out.cells8
        go_wp2_with fail
        clear P16 R16 y00 y01 y02 y03 y04 y05 y06 y07 yf0
        refine (ownC_any sY gY es13 a13 w19 R13.out.rcr C13.out (by rw [HQ13.out]; have := cut_rcA (s5 := s5) (g5 := g5) (es5 := es5) (o := (ok, oc, ow)); rw [← HYE.out] at this; exact this)).mono ?_
        rintro e w20 ⟨a20, es20, rfl, hq, hn, hcp, hr, hb⟩
        have HZ20 := hid (show w13.heap.size ≤ w19.heap.size from P13.out.lt |> Nat.le_of_lt); have HZ21 := hid hb.size
        have R20 := hid (hr.fresh.mono (q := fun i => i < w19.heap.size) (fun i hi => .inl hi)); have HQ20 := hid (show ql es20 = qY by rw [hq, HQ13.out]); have C20 := hid hcp
        clear hq hn hcp hr
        replace P5 := hid (P5.out.step hb); replace R5 := hid (R5.out.step hb); replace P7 := hid (P7.out.step hb); replace R7 := hid (R7.out.step hb); replace OG := hid (OG.out.step hb); replace P12 := hid (P12.out.step hb); replace R12 := hid (R12.out.step hb); replace P13 := hid (P13.out.step hb); replace R13 := hid (R13.out.step hb); replace SP13 := hid (SP13.out.step hb); replace HW := hid (below_then HW.out hb)
        clear hb
        have bx := below_box w20 (.cells (rcells sY gY a20) 30)
        replace P5 := hid (P5.out.step bx); replace R5 := hid (R5.out.step bx); replace P7 := hid (P7.out.step bx); replace R7 := hid (R7.out.step bx); replace OG := hid (OG.out.step bx); replace P12 := hid (P12.out.step bx); replace R12 := hid (R12.out.step bx); replace P13 := hid (P13.out.step bx); replace R13 := hid (R13.out.step bx); replace SP13 := hid (SP13.out.step bx); replace R20 := hid (R20.out.step bx); replace HW := hid (below_then HW.out bx)
        clear bx
        have P20 := hid (Blk.new w20 30 (rcells sY gY a20))
        obtain ⟨y00, y01, y02, y03, y04, y05, y06, y07, yf0⟩ := P13.out.cells8
        go_wp2_with fail
        clear y00 y01 y02 y03 y04 y05 y06 y07 yf0
        generalize w20.alloc (.cells (rcells sY gY a20) 30) = W21 at *
        refine (spoil14_p _ sY gY es13 a13 W21 SP13.out).mono ?_
        rintro e w22 ⟨⟨v, rfl⟩, hsp⟩
        replace P5 := hid (P5.out.keptP hsp (show ¬ _ by have := HL5.out; have := HS12.out; have := HS13.out; have := HZ20.out; have := HZ21.out; omega)); replace R5 := hid (R5.out.go hsp (fun i hi => .inr (by have := HL5.out; have := HS12.out; have := HS13.out; have := HZ20.out; have := HZ21.out; omega))); replace P7 := hid (P7.out.keptP hsp (show ¬ _ by have := HL5.out; have := HS12.out; have := HS13.out; have := HZ20.out; have := HZ21.out; omega)); replace R7 := hid (R7.out.go hsp (fun i hi => .inr (by have := HL5.out; have := HS12.out; have := HS13.out; have := HZ20.out; have := HZ21.out; omega)))
        replace OG := hid (OG.out.keptP hsp (fun a ha hi => by have h9 := HOGB.out a ha; (try dsimp only at hi); have := HL5.out; have := HS12.out; have := HS13.out; have := HZ20.out; have := HZ21.out; omega)); replace P12 := hid (P12.out.keptP hsp (show ¬ _ by have := HL5.out; have := HS12.out; have := HS13.out; have := HZ20.out; have := HZ21.out; omega)); replace R12 := hid (R12.out.go hsp (fun i hi => show w11.heap.size ≤ i by (try dsimp only at hi); have := HL5.out; have := HS12.out; have := HS13.out; have := HZ20.out; have := HZ21.out; omega))
        replace HW := hid (GrownP.below HW.out hsp (fun i hi => by have := HL5.out; have := HS12.out; have := HS13.out; have := HZ20.out; have := HZ21.out; omega) (by have := HW.out.size; omega))
        replace R20 := hid (R20.out.go hsp (fun i hi => show i < w19.heap.size by (try dsimp only at hi); have := HL5.out; have := HS12.out; have := HS13.out; have := HZ20.out; have := HZ21.out; omega)); replace P20 := hid (P20.out.keptP hsp (show ¬ _ by have := HL5.out; have := HS12.out; have := HS13.out; have := HZ20.out; have := HZ21.out; omega))
        clear hsp SP13 P13 R13 C13
        obtain ⟨y00, y01, y02, y03, y04, y05, y06, y07, yf0⟩ := P5.out.cells8
        obtain ⟨y10, y11, y12, y13, y14, y15, y16, y17, yf1⟩ := P12.out.cells8
        go_wp2_with fail
        clear y00 y01 y02 y03 y04 y05 y06 y07 yf0 y10 y11 y12 y13 y14 y15 y16 y17 yf1
        refine (rsame14_any s5 g5 es5 a5 s5 g5 es12 a12 _ R5.out.rcr R12.out.rcr).mono ?_
        rintro e w23 ⟨rfl, hb⟩
        replace P5 := hid (P5.out.step hb); replace R5 := hid (R5.out.step hb); replace P7 := hid (P7.out.step hb); replace R7 := hid (R7.out.step hb); replace OG := hid (OG.out.step hb); replace P20 := hid (P20.out.step hb); replace R20 := hid (R20.out.step hb); replace HW := hid (below_then HW.out hb)
        clear hb
        rw [show sameRc s5 g5 (ql es5) s5 g5 (ql es12) = true by rw [HQ12.out]; exact sameRc_refl _ _ _]
        clear P12 R12
        have HS23 := hid (show wr.heap.size ≤ w23.heap.size from HW.out.size)
        have hw1 := HW1.out
        have HJ1 := hid (show j + 1 ≤ m by have := HJL.out; have := HLN.out; omega)
        clear HJ
        by_cases hy : y1 = 0
        rotate_left
        ·skip
         have hyb : (y1 == 0) = false := by simpa using hy
         have HNX := hid (HSI.out.bad HJL.out (Y := (y1, sY, gY, qY, yr)) (by rw [HYE.out, HOE.out]) hy)
         dsimp only at HNX
         have HG2 := hid (HGR.out.trans (GrownP.ofBelow (p := (fun i => i = w2.heap.size ∨ i = w6.heap.size)) (show Below wr.heap.size wr w23 from HW.out)))
         rcases Decidable.em (E5 = 0) with hE | hE
         ·skip
          subst hE
          rw [if_pos rfl] at HNX
          go_wp2_with fail
          go_roundw
          case rel => exact ⟨j + 1, y1, s5, g5, es5, a5, al, G, ng, cg, s7, g7, es7', a7', HJ1.out, by go_num, rfl, rfl, ⟨HNX.out, P5.out, R5.out.mono (fun i hi => .inl hi), C5.out, P7.out, R7.out.mono (fun i hi => .inl hi), OG.out, HG2.out⟩⟩
          case measure =>
           have h1 : intOf (.int .i64 ((j : Int) + 1)) = (j : Int) + 1 := rfl
           have h2 : intOf (.int .i64 (j : Int)) = (j : Int) := rfl
           have := HJ1.out
           rw [h1, h2]; omega
         rw [if_neg hE] at HNX
         have hEb : (E5 == 0) = false := by simpa using hE
         go_wp2_with fail
         go_roundw
         case rel => exact ⟨j + 1, E5, s5, g5, es5, a5, al, G, ng, cg, s7, g7, es7', a7', HJ1.out, by go_num, rfl, rfl, ⟨HNX.out, P5.out, R5.out.mono (fun i hi => .inl hi), C5.out, P7.out, R7.out.mono (fun i hi => .inl hi), OG.out, HG2.out⟩⟩
         case measure =>
           have h1 : intOf (.int .i64 ((j : Int) + 1)) = (j : Int) + 1 := rfl
           have h2 : intOf (.int .i64 (j : Int)) = (j : Int) := rfl
           have := HJ1.out
           rw [h1, h2]; omega
        subst hy
        obtain ⟨y00, y01, y02, y03, y04, y05, y06, y07, yf0⟩ := P20.out.cells8
        obtain ⟨y10, y11, y12, y13, y14, y15, y16, y17, yf1⟩ := P5.out.cells8
        go_upto_region 27 with fail
        clear y00 y01 y02 y03 y04 y05 y06 y07 yf0 y10 y11 y12 y13 y14 y15 y16 y17 yf1
        have HG3 := hid (HGR.out.trans (GrownP.ofBelow (p := (fun i => i = w2.heap.size ∨ i = w6.heap.size)) (show Below wr.heap.size wr w23 from HW.out)))
        have hbk0 : Blk (w23.setCell ⟨w2.heap.size, 0, none⟩ (.int .i64 sY.1)) (w2.heap.size) 30 #[.int .i64 sY.1, .slice a5.A a5.n a5.k, .slice a5.B a5.m a5.d, .int .i64 g5.dn, .int .i64 g5.ak, .bool g5.on, .slice a5.D g5.nd.length a5.kd, .slice a5.Q a5.nq a5.kq] := P5.out.setCell 0 (.int .i64 sY.1)
        have hbk1 : Blk ((w23.setCell ⟨w2.heap.size, 0, none⟩ (.int .i64 sY.1)).setCell ⟨w2.heap.size, 1, none⟩ (.slice a20.A a20.n a20.k)) (w2.heap.size) 30 #[.int .i64 sY.1, .slice a20.A a20.n a20.k, .slice a5.B a5.m a5.d, .int .i64 g5.dn, .int .i64 g5.ak, .bool g5.on, .slice a5.D g5.nd.length a5.kd, .slice a5.Q a5.nq a5.kq] := hbk0.setCell 1 (.slice a20.A a20.n a20.k)
        have hbk2 : Blk (((w23.setCell ⟨w2.heap.size, 0, none⟩ (.int .i64 sY.1)).setCell ⟨w2.heap.size, 1, none⟩ (.slice a20.A a20.n a20.k)).setCell ⟨w2.heap.size, 2, none⟩ (.slice a20.B a20.m a20.d)) (w2.heap.size) 30 #[.int .i64 sY.1, .slice a20.A a20.n a20.k, .slice a20.B a20.m a20.d, .int .i64 g5.dn, .int .i64 g5.ak, .bool g5.on, .slice a5.D g5.nd.length a5.kd, .slice a5.Q a5.nq a5.kq] := hbk1.setCell 2 (.slice a20.B a20.m a20.d)
        have hbk3 : Blk ((((w23.setCell ⟨w2.heap.size, 0, none⟩ (.int .i64 sY.1)).setCell ⟨w2.heap.size, 1, none⟩ (.slice a20.A a20.n a20.k)).setCell ⟨w2.heap.size, 2, none⟩ (.slice a20.B a20.m a20.d)).setCell ⟨w2.heap.size, 3, none⟩ (.int .i64 gY.dn)) (w2.heap.size) 30 #[.int .i64 sY.1, .slice a20.A a20.n a20.k, .slice a20.B a20.m a20.d, .int .i64 gY.dn, .int .i64 g5.ak, .bool g5.on, .slice a5.D g5.nd.length a5.kd, .slice a5.Q a5.nq a5.kq] := hbk2.setCell 3 (.int .i64 gY.dn)
        have hbk4 : Blk (((((w23.setCell ⟨w2.heap.size, 0, none⟩ (.int .i64 sY.1)).setCell ⟨w2.heap.size, 1, none⟩ (.slice a20.A a20.n a20.k)).setCell ⟨w2.heap.size, 2, none⟩ (.slice a20.B a20.m a20.d)).setCell ⟨w2.heap.size, 3, none⟩ (.int .i64 gY.dn)).setCell ⟨w2.heap.size, 4, none⟩ (.int .i64 gY.ak)) (w2.heap.size) 30 #[.int .i64 sY.1, .slice a20.A a20.n a20.k, .slice a20.B a20.m a20.d, .int .i64 gY.dn, .int .i64 gY.ak, .bool g5.on, .slice a5.D g5.nd.length a5.kd, .slice a5.Q a5.nq a5.kq] := hbk3.setCell 4 (.int .i64 gY.ak)
        have hbk5 : Blk ((((((w23.setCell ⟨w2.heap.size, 0, none⟩ (.int .i64 sY.1)).setCell ⟨w2.heap.size, 1, none⟩ (.slice a20.A a20.n a20.k)).setCell ⟨w2.heap.size, 2, none⟩ (.slice a20.B a20.m a20.d)).setCell ⟨w2.heap.size, 3, none⟩ (.int .i64 gY.dn)).setCell ⟨w2.heap.size, 4, none⟩ (.int .i64 gY.ak)).setCell ⟨w2.heap.size, 5, none⟩ (.bool gY.on)) (w2.heap.size) 30 #[.int .i64 sY.1, .slice a20.A a20.n a20.k, .slice a20.B a20.m a20.d, .int .i64 gY.dn, .int .i64 gY.ak, .bool gY.on, .slice a5.D g5.nd.length a5.kd, .slice a5.Q a5.nq a5.kq] := hbk4.setCell 5 (.bool gY.on)
        have hbk6 : Blk (((((((w23.setCell ⟨w2.heap.size, 0, none⟩ (.int .i64 sY.1)).setCell ⟨w2.heap.size, 1, none⟩ (.slice a20.A a20.n a20.k)).setCell ⟨w2.heap.size, 2, none⟩ (.slice a20.B a20.m a20.d)).setCell ⟨w2.heap.size, 3, none⟩ (.int .i64 gY.dn)).setCell ⟨w2.heap.size, 4, none⟩ (.int .i64 gY.ak)).setCell ⟨w2.heap.size, 5, none⟩ (.bool gY.on)).setCell ⟨w2.heap.size, 6, none⟩ (.slice a20.D gY.nd.length a20.kd)) (w2.heap.size) 30 #[.int .i64 sY.1, .slice a20.A a20.n a20.k, .slice a20.B a20.m a20.d, .int .i64 gY.dn, .int .i64 gY.ak, .bool gY.on, .slice a20.D gY.nd.length a20.kd, .slice a5.Q a5.nq a5.kq] := hbk5.setCell 6 (.slice a20.D gY.nd.length a20.kd)
        have hbk7 : Blk ((((((((w23.setCell ⟨w2.heap.size, 0, none⟩ (.int .i64 sY.1)).setCell ⟨w2.heap.size, 1, none⟩ (.slice a20.A a20.n a20.k)).setCell ⟨w2.heap.size, 2, none⟩ (.slice a20.B a20.m a20.d)).setCell ⟨w2.heap.size, 3, none⟩ (.int .i64 gY.dn)).setCell ⟨w2.heap.size, 4, none⟩ (.int .i64 gY.ak)).setCell ⟨w2.heap.size, 5, none⟩ (.bool gY.on)).setCell ⟨w2.heap.size, 6, none⟩ (.slice a20.D gY.nd.length a20.kd)).setCell ⟨w2.heap.size, 7, none⟩ (.slice a20.Q a20.nq a20.kq)) (w2.heap.size) 30 #[.int .i64 sY.1, .slice a20.A a20.n a20.k, .slice a20.B a20.m a20.d, .int .i64 gY.dn, .int .i64 gY.ak, .bool gY.on, .slice a20.D gY.nd.length a20.kd, .slice a20.Q a20.nq a20.kq] := hbk6.setCell 7 (.slice a20.Q a20.nq a20.kq)
        have hgr : w23.grownBy ((((((((w23.setCell ⟨w2.heap.size, 0, none⟩ (.int .i64 sY.1)).setCell ⟨w2.heap.size, 1, none⟩ (.slice a20.A a20.n a20.k)).setCell ⟨w2.heap.size, 2, none⟩ (.slice a20.B a20.m a20.d)).setCell ⟨w2.heap.size, 3, none⟩ (.int .i64 gY.dn)).setCell ⟨w2.heap.size, 4, none⟩ (.int .i64 gY.ak)).setCell ⟨w2.heap.size, 5, none⟩ (.bool gY.on)).setCell ⟨w2.heap.size, 6, none⟩ (.slice a20.D gY.nd.length a20.kd)).setCell ⟨w2.heap.size, 7, none⟩ (.slice a20.Q a20.nq a20.kq)) (some (w2.heap.size)) := (grown_set (grown_set (grown_set (grown_set (grown_set (grown_set (grown_set (grown_set (World.grownBy.refl w23 (some (w2.heap.size))) 0 (.int .i64 sY.1)) 1 (.slice a20.A a20.n a20.k)) 2 (.slice a20.B a20.m a20.d)) 3 (.int .i64 gY.dn)) 4 (.int .i64 gY.ak)) 5 (.bool gY.on)) 6 (.slice a20.D gY.nd.length a20.kd)) 7 (.slice a20.Q a20.nq a20.kq))
        replace P5 := hid hbk7
        clear hbk0 hbk1 hbk2 hbk3 hbk4 hbk5 hbk6 hbk7
        generalize (((((((w23.setCell ⟨w2.heap.size, 0, none⟩ (.int .i64 sY.1)).setCell ⟨w2.heap.size, 1, none⟩ (.slice a20.A a20.n a20.k)).setCell ⟨w2.heap.size, 2, none⟩ (.slice a20.B a20.m a20.d)).setCell ⟨w2.heap.size, 3, none⟩ (.int .i64 gY.dn)).setCell ⟨w2.heap.size, 4, none⟩ (.int .i64 gY.ak)).setCell ⟨w2.heap.size, 5, none⟩ (.bool gY.on)).setCell ⟨w2.heap.size, 6, none⟩ (.slice a20.D gY.nd.length a20.kd)).setCell ⟨w2.heap.size, 7, none⟩ (.slice a20.Q a20.nq a20.kq) = w24 at *
        replace P7 := hid (P7.out.grown hgr (by have := HS6.out; simp; omega))
        replace R7 := hid (R7.out.turn hgr (.inl (.inl rfl)))
        replace R20 := hid (R20.out.turn hgr (show w2.heap.size < w19.heap.size by have := HL5.out; have := HS12.out; have := HS13.out; have := HZ20.out; have := HZ21.out; omega))
        replace OG := hid (OG.out.keptG hgr (fun a ha e => by have h1 := (OG.out.blk a ha).1; have := Option.some.inj e; have := HL7.out; omega))
        replace HG3 := hid (HG3.out.trans (GrownP.ofGrown hgr (.inl rfl)))
        replace P20 := hid (P20.out.grown hgr (by have := HL5.out; have := HS12.out; have := HS13.out; have := HZ20.out; have := HZ21.out; simp; omega))
        have HWS := hid (show wr.heap.size ≤ w24.heap.size from Nat.le_trans HS23.out hgr.size)
        clear hgr R5 HW
        rcases Decidable.em (E5 = 0) with hE | hE
        rotate_left
        ·skip
         have HNX := hid (HSI.out.ok1 hE HJL.out (Y := (0, sY, gY, qY, yr)) (by rw [HYE.out, HOE.out]) rfl)
         dsimp only at HNX
         have hEb : (E5 == 0) = false := by simpa using hE
         go_wp2_with fail
         go_roundw
         case rel => exact ⟨j + 1, E5, sY, gY, es20, a20, al, G, ng, cg, s7, g7, es7', a7', HJ1.out, by go_num, rfl, rfl, ⟨by rw [HQ20.out]; exact HNX.out, P5.out, R20.out.mono (fun i hi => by have h1 := hi; show i < w19.heap.size; have := HL5.out; have := HS12.out; have := HS13.out; have := HZ20.out; have := HZ21.out; rcases h1 with h1 | h1 <;> omega), C20.out, P7.out, R7.out.mono (fun i hi => .inl hi), OG.out, HG3.out⟩⟩
         case measure =>
           have h1 : intOf (.int .i64 ((j : Int) + 1)) = (j : Int) + 1 := rfl
           have h2 : intOf (.int .i64 (j : Int)) = (j : Int) := rfl
           have := HJ1.out
           rw [h1, h2]; omega
        subst hE
        obtain ⟨y00, y01, y02, y03, y04, y05, y06, y07, yf0⟩ := P20.out.cells8
        go_wp2_with fail
        clear y00 y01 y02 y03 y04 y05 y06 y07 yf0
        refine (ownC_any sY gY es20 a20 w24 R20.out.rcr C20.out (by rw [HQ20.out]; have := cut_rcA (s5 := s5) (g5 := g5) (es5 := es5) (o := (ok, oc, ow)); rw [← HYE.out] at this; exact this)).mono ?_
        rintro e w25 ⟨a30, es30, rfl, hq, hn, hcp, hr, hb⟩
        have HR24 := hid (show wr.heap.size ≤ w24.heap.size from HWS.out); have HL24 := hid P5.out.lt; have HL24b := hid P7.out.lt
        have R30 := hid hr; have HRM30 := hid (show ∀ i, (fun i => i = w2.heap.size ∨ i = w6.heap.size) i → i < w24.heap.size from fun i hi => by have h1 := hi; have := HL24.out; have := HL24b.out; rcases h1 with h1 | h1 <;> omega); have HQ30 := hid (show ql es30 = qY by rw [hq, HQ20.out])
        clear hq hn hcp hr R7
        replace P5 := hid (P5.out.step hb); replace P7 := hid (P7.out.step hb); replace R20 := hid (R20.out.step hb); replace OG := hid (OG.out.step hb); replace HG3 := hid (HG3.out.step hb)
        clear hb
        obtain ⟨y00, y01, y02, y03, y04, y05, y06, y07, yf0⟩ := P7.out.cells8
        go_upto_region 31 with fail
        clear y00 y01 y02 y03 y04 y05 y06 y07 yf0
        have hbk0 : Blk (w25.setCell ⟨w6.heap.size, 0, none⟩ (.int .i64 sY.1)) (w6.heap.size) 30 #[.int .i64 sY.1, .slice a7'.A a7'.n a7'.k, .slice a7'.B a7'.m a7'.d, .int .i64 g7.dn, .int .i64 g7.ak, .bool g7.on, .slice a7'.D g7.nd.length a7'.kd, .slice a7'.Q a7'.nq a7'.kq] := P7.out.setCell 0 (.int .i64 sY.1)
        have hbk1 : Blk ((w25.setCell ⟨w6.heap.size, 0, none⟩ (.int .i64 sY.1)).setCell ⟨w6.heap.size, 1, none⟩ (.slice a30.A a30.n a30.k)) (w6.heap.size) 30 #[.int .i64 sY.1, .slice a30.A a30.n a30.k, .slice a7'.B a7'.m a7'.d, .int .i64 g7.dn, .int .i64 g7.ak, .bool g7.on, .slice a7'.D g7.nd.length a7'.kd, .slice a7'.Q a7'.nq a7'.kq] := hbk0.setCell 1 (.slice a30.A a30.n a30.k)
        have hbk2 : Blk (((w25.setCell ⟨w6.heap.size, 0, none⟩ (.int .i64 sY.1)).setCell ⟨w6.heap.size, 1, none⟩ (.slice a30.A a30.n a30.k)).setCell ⟨w6.heap.size, 2, none⟩ (.slice a30.B a30.m a30.d)) (w6.heap.size) 30 #[.int .i64 sY.1, .slice a30.A a30.n a30.k, .slice a30.B a30.m a30.d, .int .i64 g7.dn, .int .i64 g7.ak, .bool g7.on, .slice a7'.D g7.nd.length a7'.kd, .slice a7'.Q a7'.nq a7'.kq] := hbk1.setCell 2 (.slice a30.B a30.m a30.d)
        have hbk3 : Blk ((((w25.setCell ⟨w6.heap.size, 0, none⟩ (.int .i64 sY.1)).setCell ⟨w6.heap.size, 1, none⟩ (.slice a30.A a30.n a30.k)).setCell ⟨w6.heap.size, 2, none⟩ (.slice a30.B a30.m a30.d)).setCell ⟨w6.heap.size, 3, none⟩ (.int .i64 gY.dn)) (w6.heap.size) 30 #[.int .i64 sY.1, .slice a30.A a30.n a30.k, .slice a30.B a30.m a30.d, .int .i64 gY.dn, .int .i64 g7.ak, .bool g7.on, .slice a7'.D g7.nd.length a7'.kd, .slice a7'.Q a7'.nq a7'.kq] := hbk2.setCell 3 (.int .i64 gY.dn)
        have hbk4 : Blk (((((w25.setCell ⟨w6.heap.size, 0, none⟩ (.int .i64 sY.1)).setCell ⟨w6.heap.size, 1, none⟩ (.slice a30.A a30.n a30.k)).setCell ⟨w6.heap.size, 2, none⟩ (.slice a30.B a30.m a30.d)).setCell ⟨w6.heap.size, 3, none⟩ (.int .i64 gY.dn)).setCell ⟨w6.heap.size, 4, none⟩ (.int .i64 gY.ak)) (w6.heap.size) 30 #[.int .i64 sY.1, .slice a30.A a30.n a30.k, .slice a30.B a30.m a30.d, .int .i64 gY.dn, .int .i64 gY.ak, .bool g7.on, .slice a7'.D g7.nd.length a7'.kd, .slice a7'.Q a7'.nq a7'.kq] := hbk3.setCell 4 (.int .i64 gY.ak)
        have hbk5 : Blk ((((((w25.setCell ⟨w6.heap.size, 0, none⟩ (.int .i64 sY.1)).setCell ⟨w6.heap.size, 1, none⟩ (.slice a30.A a30.n a30.k)).setCell ⟨w6.heap.size, 2, none⟩ (.slice a30.B a30.m a30.d)).setCell ⟨w6.heap.size, 3, none⟩ (.int .i64 gY.dn)).setCell ⟨w6.heap.size, 4, none⟩ (.int .i64 gY.ak)).setCell ⟨w6.heap.size, 5, none⟩ (.bool gY.on)) (w6.heap.size) 30 #[.int .i64 sY.1, .slice a30.A a30.n a30.k, .slice a30.B a30.m a30.d, .int .i64 gY.dn, .int .i64 gY.ak, .bool gY.on, .slice a7'.D g7.nd.length a7'.kd, .slice a7'.Q a7'.nq a7'.kq] := hbk4.setCell 5 (.bool gY.on)
        have hbk6 : Blk (((((((w25.setCell ⟨w6.heap.size, 0, none⟩ (.int .i64 sY.1)).setCell ⟨w6.heap.size, 1, none⟩ (.slice a30.A a30.n a30.k)).setCell ⟨w6.heap.size, 2, none⟩ (.slice a30.B a30.m a30.d)).setCell ⟨w6.heap.size, 3, none⟩ (.int .i64 gY.dn)).setCell ⟨w6.heap.size, 4, none⟩ (.int .i64 gY.ak)).setCell ⟨w6.heap.size, 5, none⟩ (.bool gY.on)).setCell ⟨w6.heap.size, 6, none⟩ (.slice a30.D gY.nd.length a30.kd)) (w6.heap.size) 30 #[.int .i64 sY.1, .slice a30.A a30.n a30.k, .slice a30.B a30.m a30.d, .int .i64 gY.dn, .int .i64 gY.ak, .bool gY.on, .slice a30.D gY.nd.length a30.kd, .slice a7'.Q a7'.nq a7'.kq] := hbk5.setCell 6 (.slice a30.D gY.nd.length a30.kd)
        have hbk7 : Blk ((((((((w25.setCell ⟨w6.heap.size, 0, none⟩ (.int .i64 sY.1)).setCell ⟨w6.heap.size, 1, none⟩ (.slice a30.A a30.n a30.k)).setCell ⟨w6.heap.size, 2, none⟩ (.slice a30.B a30.m a30.d)).setCell ⟨w6.heap.size, 3, none⟩ (.int .i64 gY.dn)).setCell ⟨w6.heap.size, 4, none⟩ (.int .i64 gY.ak)).setCell ⟨w6.heap.size, 5, none⟩ (.bool gY.on)).setCell ⟨w6.heap.size, 6, none⟩ (.slice a30.D gY.nd.length a30.kd)).setCell ⟨w6.heap.size, 7, none⟩ (.slice a30.Q a30.nq a30.kq)) (w6.heap.size) 30 #[.int .i64 sY.1, .slice a30.A a30.n a30.k, .slice a30.B a30.m a30.d, .int .i64 gY.dn, .int .i64 gY.ak, .bool gY.on, .slice a30.D gY.nd.length a30.kd, .slice a30.Q a30.nq a30.kq] := hbk6.setCell 7 (.slice a30.Q a30.nq a30.kq)
        have hgr : w25.grownBy ((((((((w25.setCell ⟨w6.heap.size, 0, none⟩ (.int .i64 sY.1)).setCell ⟨w6.heap.size, 1, none⟩ (.slice a30.A a30.n a30.k)).setCell ⟨w6.heap.size, 2, none⟩ (.slice a30.B a30.m a30.d)).setCell ⟨w6.heap.size, 3, none⟩ (.int .i64 gY.dn)).setCell ⟨w6.heap.size, 4, none⟩ (.int .i64 gY.ak)).setCell ⟨w6.heap.size, 5, none⟩ (.bool gY.on)).setCell ⟨w6.heap.size, 6, none⟩ (.slice a30.D gY.nd.length a30.kd)).setCell ⟨w6.heap.size, 7, none⟩ (.slice a30.Q a30.nq a30.kq)) (some (w6.heap.size)) := (grown_set (grown_set (grown_set (grown_set (grown_set (grown_set (grown_set (grown_set (World.grownBy.refl w25 (some (w6.heap.size))) 0 (.int .i64 sY.1)) 1 (.slice a30.A a30.n a30.k)) 2 (.slice a30.B a30.m a30.d)) 3 (.int .i64 gY.dn)) 4 (.int .i64 gY.ak)) 5 (.bool gY.on)) 6 (.slice a30.D gY.nd.length a30.kd)) 7 (.slice a30.Q a30.nq a30.kq))
        replace P7 := hid hbk7
        clear hbk0 hbk1 hbk2 hbk3 hbk4 hbk5 hbk6 hbk7
        generalize (((((((w25.setCell ⟨w6.heap.size, 0, none⟩ (.int .i64 sY.1)).setCell ⟨w6.heap.size, 1, none⟩ (.slice a30.A a30.n a30.k)).setCell ⟨w6.heap.size, 2, none⟩ (.slice a30.B a30.m a30.d)).setCell ⟨w6.heap.size, 3, none⟩ (.int .i64 gY.dn)).setCell ⟨w6.heap.size, 4, none⟩ (.int .i64 gY.ak)).setCell ⟨w6.heap.size, 5, none⟩ (.bool gY.on)).setCell ⟨w6.heap.size, 6, none⟩ (.slice a30.D gY.nd.length a30.kd)).setCell ⟨w6.heap.size, 7, none⟩ (.slice a30.Q a30.nq a30.kq) = w26 at *
        replace P5 := hid (P5.out.grown hgr (by have := HS6.out; simp; omega))
        replace R20 := hid (R20.out.turn hgr (show w6.heap.size < w19.heap.size by have := HL5.out; have := HS12.out; have := HS13.out; have := HZ20.out; have := HZ21.out; omega))
        replace OG := hid (OG.out.keptG hgr (fun a ha e => by have h1 := (OG.out.blk a ha).1; have := Option.some.inj e; have := HL7.out; omega))
        replace HG3 := hid (HG3.out.trans (GrownP.ofGrown hgr (.inr rfl)))
        replace R30 := hid (R30.out.turn hgr (show w6.heap.size < w24.heap.size from HL24b.out))
        clear hgr P20
        have HNX := hid (HSI.out.ok0 HJL.out (Y := (0, sY, gY, qY, yr)) (by rw [HYE.out, HOE.out]) rfl)
        rw [← HOE.out] at HNX
        dsimp only at HNX
        rw [← HYL.out] at HNX
        have HRM := hid (show ∀ i, (fun i => i = w2.heap.size ∨ i = w6.heap.size) i → i < w19.heap.size from fun i hi => by have h1 := hi; have := HL5.out; have := HS12.out; have := HS13.out; have := HZ20.out; have := HZ21.out; rcases h1 with h1 | h1 <;> omega)
        rcases rn with _ | _
        ·skip
         rw [if_neg (show ¬ ok = 5 from fun h => by have := of_decide_eq_false HRN.out.symm; exact this ⟨h, by trivial⟩), List.append_nil] at HNX
         go_wp2_with fail
         go_roundw
         case rel => exact ⟨j + 1, 0, sY, gY, es20, a20, al, G, ng, cg, sY, gY, es30, a30, HJ1.out, by go_num, rfl, rfl, ⟨by rw [HQ20.out, HQ30.out]; exact HNX.out, P5.out, R20.out.mono HRM.out, C20.out, P7.out, R30.out.mono HRM30.out, OG.out, HG3.out⟩⟩
         case measure =>
           have h1 : intOf (.int .i64 ((j : Int) + 1)) = (j : Int) + 1 := rfl
           have h2 : intOf (.int .i64 (j : Int)) = (j : Int) := rfl
           have := HJ1.out
           rw [h1, h2]; omega
        rw [if_pos (show ok = 5 from (of_decide_eq_true HRN.out.symm).1)] at HNX
        obtain ⟨i0, hi0, hz00, hz01, hz02⟩ := info_parts info_u64
        have hng : ng ≤ 30 := by have h1 := OG.out.len; have h2 := HSI.out.n; have := HJ1.out; have := HM.out; omega
        have hlz : W7.heap.size ≤ w26.heap.size := HG3.out.size
        have HWRS := hid (show wr.heap.size ≤ w19.heap.size by have := HL5.out; have := HS12.out; have := HS13.out; have := HZ20.out; have := HZ21.out; omega)
        go_wp2_with (at_builtin; refine wpList_app u64v 0 _ rfl _ _ 40 rfl W7.heap.size 35 i0 _ 8 Tryz.underlying40 hi0 hz00 hz01 hz02 rfl G ng cg al rfl (OG.out.alloc _) w26.heap.size (w26.heap.size + 1) _ 1 _ [yl] rfl (Sl.one' (by simp)) (fun _ => rfl) (by simp only [maxLen]; omega) (by omega) (by simp; omega) ?_; intro G' cg' w27 own7 hg7 hat7; have HGX := hid ((GrownP.ofBelow (p := fun i => i < wr.heap.size ∧ W7.heap.size ≤ i) (below_box w26 (.cells #[.int .u64 yl] 35))).thenG hg7 (fun r e => by obtain ⟨a, ha, hab⟩ := own_addr e; have h1 := HOGB.out a ha; have h2 := OG.out.row_ge r e; exact .inr ⟨by omega, h2⟩)); have OWN7 := hid own7; clear own7 hg7 hat7)
        clear hi0 hz00 hz01 hz02 hng hlz
        replace P5 := hid (P5.out.keptP HGX.out (show ¬ _ by have := HL7.out; omega)); replace P7 := hid (P7.out.keptP HGX.out (show ¬ _ by have := HL7.out; omega))
        replace R20 := hid (R20.out.go HGX.out (fun i hi => show i < w19.heap.size by have h1 := hi.1; have := HWRS.out; omega))
        replace R30 := hid (R30.out.go HGX.out (fun i hi => show i < w24.heap.size by have h1 := hi.1; have h2 := HL24.out; have := HL5.out; have := HR24.out; omega))
        have HB7 := hid (GrownP.below (Below.refl W7.heap.size w26) HGX.out (fun i hi => hi.2) HG3.out.size)
        refine ⟨⟨j + 1, 0, sY, gY, es20, a20, al ++ [yl], G', ng + 1, cg', sY, gY, es30, a30, HJ1.out, rfl, rfl, rfl, ⟨by rw [HQ20.out, HQ30.out]; exact HNX.out, P5.out, R20.out.mono HRM.out, C20.out, P7.out, R30.out.mono HRM30.out, OWN7.out, HG3.out.thenB HB7.out (Nat.le_refl _)⟩⟩, ?_⟩
        have h1 : intOf (.int .i64 ((j : Int) + 1)) = (j : Int) + 1 := rfl
        have h2 : intOf (.int .i64 (j : Int)) = (j : Int) := rfl
        have := HJ1.out
        rw [h1, h2]; omega
end Go.Proofs.YtfipdoofgbjbjaaGreat

/- What a law is told of all of chapter 14, and of a row of what CPUs do, that came in. No condition. -/
namespace Go.Proofs.YtfipdoofgbjbjaaGreat
open Go.ChangeShapes Go.WideShapes Go.ChangeAt Go.RowKit Go.Joins Go.Deep
theorem i64_wf {a : Int} (hw : Lit.wf (.int .i64 a) = true) : -9223372036854775808 ≤ a ∧ a ≤ 9223372036854775807 := by
  simp only [Lit.wf, IntKind.min, IntKind.max, IntKind.signed, IntKind.bits, Bool.and_eq_true, decide_eq_true_eq, if_true] at hw
  omega
theorem u64_wf {a : Int} (hw : Lit.wf (.int .u64 a) = true) : 0 ≤ a ∧ a ≤ 18446744073709551615 := by
  simp only [Lit.wf, IntKind.min, IntKind.max, IntKind.signed, IntKind.bits, Bool.and_eq_true, decide_eq_true_eq] at hw
  simp at hw
  omega
theorem Sm.toSl {α : Type} {enc : α → Value} {d : α} {w : World} {lo hi : Nat} {A : Option Addr} {n : Nat} {xs : List α} (h : Sm 1 (fun x _ => enc x) d w lo hi A n xs) : Sl enc d w lo hi A n xs :=
  ⟨h.len, fun hn => by
    obtain ⟨b, off, e, h1, h2, h3⟩ := h.row hn
    exact ⟨b, off, e, h1, h2, fun k hk => by have := h3 k hk 0 (by omega); simpa using this⟩⟩
section
variable {H : Type} {enc : TypeId × Value → H} {w : World} {base : Nat} {spare : Nat → Bool} {held : Bool}
theorem open_bools {fuel : Nat} {v : Value} {x : DataW H × List MemPlace} (h : DataW.trod enc Tryz.prog w base spare held fuel 25 [v] = some x) :
    ∃ A n c xs, v = .slice A n c ∧ n ≤ c ∧ c ≤ maxLen ∧ Sl blv false w 0 w.heap.size A n xs := by
  obtain ⟨A, n, c, xs, h1, h2, h3, h4, _⟩ := open_sm Tryz.underlying25 (sz := 1) (by kernel_rfl) (by omega) (fun (x : Bool) _ => blv x) false (fun _ => True) (fun n cs y hy => by
    obtain ⟨a, e0, _⟩ := DataW.trod_bool Tryz.underlying4 hy
    subst e0
    exact ⟨a, trivial, fun j hj => by obtain rfl : j = 0 := by omega
                                      rfl⟩) h
  exact ⟨A, n, c, xs, h1, h2, h3, h4.toSl⟩
set_option maxRecDepth 100000 in
theorem open_readers_el {n : Nat} {cs : List Value} {y : DataW H × List MemPlace} (h : DataW.trod enc Tryz.prog w base spare held n 24 cs = some y) :
    ∃ (now : Int) (A : Option Addr) (n c : Nat) (B : Option Addr) (m d : Nat) (xs ys : List Int), cs = [.int .i64 now, .slice A n c, .slice B m d] ∧ n ≤ c ∧ m ≤ d ∧ Sl i64 0 w 0 w.heap.size A n xs ∧ Sl i64 0 w 0 w.heap.size B m ys := by
  obtain ⟨xs, k, _, _, hlen, hl, hf⟩ := DataW.trod_struct Tryz.underlying24 h
  rw [show Tryz.prog.cellsOf 24 = 3 by kernel_rfl] at hlen
  match xs, hl, cs, hlen with
  | [y0, y1, y2], _, [v0, v1, v2], _ =>
    have c1 : Tryz.prog.cellsOf 3 = 1 := by kernel_rfl
    have c2 : Tryz.prog.cellsOf 22 = 1 := by kernel_rfl
    have h0 := hf 0 _ rfl
    have h1 := hf 1 _ rfl
    have h2 := hf 2 _ rfl
    simp [c1, c2] at h0 h1 h2
    obtain ⟨a0, e0, _⟩ := DataW.trod_int Tryz.underlying3 h0
    simp only [List.cons.injEq, and_true] at e0
    subst e0
    obtain ⟨A, n, c, xs, rfl, g3, g4, g5, _⟩ := open_islice h1
    obtain ⟨B, m, d, ys, rfl, g6, g7, g8, _⟩ := open_islice h2
    exact ⟨a0, A, n, c, B, m, d, xs, ys, rfl, g3, g6, g5, g8⟩
set_option maxRecDepth 100000 in
theorem open_grace_el {n : Nat} {cs : List Value} {y : DataW H × List MemPlace} (h : DataW.trod enc Tryz.prog w base spare held n 27 cs = some y) :
    ∃ (g : Gr) (D : Option Addr) (kd : Nat), cs = [.int .i64 g.dn, .int .i64 g.ak, .bool g.on, .slice D g.nd.length kd] ∧ g.nd.length ≤ kd ∧ Sl blv false w 0 w.heap.size D g.nd.length g.nd ∧ g.dn ≤ 9223372036854775807 ∧ g.ak ≤ 9223372036854775807 := by
  obtain ⟨xs, k, _, _, hlen, hl, hf⟩ := DataW.trod_struct Tryz.underlying27 h
  rw [show Tryz.prog.cellsOf 27 = 4 by kernel_rfl] at hlen
  match xs, hl, cs, hlen with
  | [y0, y1, y2, y3], _, [v0, v1, v2, v3], _ =>
    have c1 : Tryz.prog.cellsOf 3 = 1 := by kernel_rfl
    have c2 : Tryz.prog.cellsOf 4 = 1 := by kernel_rfl
    have c3 : Tryz.prog.cellsOf 25 = 1 := by kernel_rfl
    have h0 := hf 0 _ rfl
    have h1 := hf 1 _ rfl
    have h2 := hf 2 _ rfl
    have h3 := hf 3 _ rfl
    simp [c1, c2, c3] at h0 h1 h2 h3
    obtain ⟨a0, e0, _, k0⟩ := DataW.trod_int Tryz.underlying3 h0
    obtain ⟨a1, e1, _, k1⟩ := DataW.trod_int Tryz.underlying3 h1
    obtain ⟨b, e2, _⟩ := DataW.trod_bool Tryz.underlying4 h2
    simp only [List.cons.injEq, and_true] at e0 e1 e2
    subst e0 e1 e2
    obtain ⟨A, n, c, ys, rfl, g3, g4, g5⟩ := open_bools h3
    obtain rfl : ys.length = n := g5.len
    exact ⟨⟨ys, a0, a1, b⟩, A, c, rfl, g3, g5, (i64_wf k0).2, (i64_wf k1).2⟩
set_option maxRecDepth 100000 in
theorem open_cb_el {n : Nat} {cs : List Value} {y : DataW H × List MemPlace} (h : DataW.trod enc Tryz.prog w base spare held n 60 cs = some y) : ∃ x : Cb, True ∧ ∀ j, j < 2 → cs[j]? = some (encC x j) := by
  obtain ⟨xs, k, _, _, hlen, hl, hf⟩ := DataW.trod_struct Tryz.underlying60 h
  rw [show Tryz.prog.cellsOf 60 = 2 by kernel_rfl] at hlen
  match xs, hl, cs, hlen with
  | [y0, y1], _, [v0, v1], _ =>
    have c2 : Tryz.prog.cellsOf 35 = 1 := by kernel_rfl
    have g0 := hf 0 _ rfl
    have g1 := hf 1 _ rfl
    simp [c2] at g0 g1
    obtain ⟨a0, e0, _⟩ := DataW.trod_int Tryz.underlying35 g0
    obtain ⟨a1, e1, _⟩ := DataW.trod_int Tryz.underlying35 g1
    simp only [List.cons.injEq, and_true] at e0 e1
    subst e0 e1
    refine ⟨(a0, a1), trivial, fun j hj => ?_⟩
    match j, hj with
    | 0, _ => rfl
    | 1, _ => rfl
/-- a queue of a row that came in -/
def QeIn (w : World) (x : Qe) : Prop := Sm 2 encC (0, 0) w 0 w.heap.size x.A x.n x.l ∧ x.n ≤ x.c ∧ 0 ≤ x.o ∧ x.o ≤ 18446744073709551615
set_option maxRecDepth 100000 in
theorem open_qe_el {n : Nat} {cs : List Value} {y : DataW H × List MemPlace} (h : DataW.trod enc Tryz.prog w base spare held n 58 cs = some y) : ∃ x : Qe, QeIn w x ∧ ∀ j, j < 2 → cs[j]? = some (encQ x j) := by
  obtain ⟨xs, k, _, _, hlen, hl, hf⟩ := DataW.trod_struct Tryz.underlying58 h
  rw [show Tryz.prog.cellsOf 58 = 2 by kernel_rfl] at hlen
  match xs, hl, cs, hlen with
  | [y0, y1], _, [v0, v1], _ =>
    have c1 : Tryz.prog.cellsOf 56 = 1 := by kernel_rfl
    have c2 : Tryz.prog.cellsOf 35 = 1 := by kernel_rfl
    have h0 := hf 0 _ rfl
    have h1 := hf 1 _ rfl
    simp [c1, c2] at h0 h1
    obtain ⟨A, n, c, xs, rfl, h3, h4, h5, _⟩ := open_sm Tryz.underlying56 (sz := 2) (by kernel_rfl) (by omega) encC (0, 0) _ (fun n cs' y => open_cb_el) h0
    obtain ⟨o, e1, _, k1⟩ := DataW.trod_int Tryz.underlying35 h1
    simp only [List.cons.injEq, and_true] at e1
    subst e1
    refine ⟨⟨xs, o, A, n, c⟩, ⟨h5, h3, (u64_wf k1).1, (u64_wf k1).2⟩, fun j hj => ?_⟩
    match j, hj with
    | 0, _ => rfl
    | 1, _ => rfl
theorem array8_ {α : Type} {cs : Array α} (h : cs.size = 8) : ∃ c0 c1 c2 c3 c4 c5 c6 c7, cs = #[c0, c1, c2, c3, c4, c5, c6, c7] := by
  obtain ⟨l⟩ := cs
  match l, h with
  | [c0, c1, c2, c3, c4, c5, c6, c7], _ => exact ⟨c0, c1, c2, c3, c4, c5, c6, c7, rfl⟩
set_option maxRecDepth 100000 in
theorem open_rcu {r : Reach} {b0 : Nat} {v : Value} {d : DataW H} {p : List MemPlace}
    (hv : Value.okWide Tryz.prog w r b0 30 v) (h : DataW.Trod enc Tryz.prog w base spare held 30 v d p) :
    ∃ (s : St) (g : Gr) (es : List Qe) (a : Ra), v = rcv s g a ∧ RcIn w s g es a := by
  obtain ⟨cs, rfl, hsz⟩ := okWide_struct Tryz.underlying30 hv
  obtain ⟨c0, c1, c2, c3, c4, c5, c6, c7, rfl⟩ := array8_ (hsz.trans (by kernel_rfl))
  obtain ⟨fuel, hf⟩ := h
  obtain ⟨zs, n, _, _, _, hlen, hff⟩ := DataW.trod_struct Tryz.underlying30 hf
  match zs, hlen with
  | [y0, y1, y2], _ =>
    have k1 : Tryz.prog.cellsOf 24 = 3 := by kernel_rfl
    have k2 : Tryz.prog.cellsOf 27 = 4 := by kernel_rfl
    have k3 : Tryz.prog.cellsOf 28 = 1 := by kernel_rfl
    have h0 := hff 0 _ rfl
    have h1 := hff 1 _ rfl
    have h2 := hff 2 _ rfl
    simp [k1, k2, k3, Value.cells] at h0 h1 h2
    obtain ⟨now, A, n, c, B, m, d, xs, ys, e1, g1, g2, g3, g4⟩ := open_readers_el h0
    obtain ⟨g, D, kd, e2, g5, g6, g7⟩ := open_grace_el h1
    obtain ⟨Q, nq, kq, es, rfl, g8, _, g9, g10⟩ := open_sm Tryz.underlying28 (sz := 2) (by kernel_rfl) (by omega) encQ zQe (QeIn w) (fun n cs' y => open_qe_el) h2
    simp only [List.cons.injEq, and_true] at e1 e2
    obtain ⟨rfl, rfl, rfl⟩ := e1
    obtain ⟨rfl, rfl, rfl, rfl⟩ := e2
    exact ⟨(now, xs, ys), g, es, ⟨A, n, c, B, m, d, D, kd, Q, nq, kq⟩, rfl, ⟨g3, g1, g4, g2, g6, g5, g7, g9, g8, g10⟩⟩
def OpOk (x : Int × Int × Int) : Prop := (-9223372036854775808 ≤ x.1 ∧ x.1 ≤ 9223372036854775807) ∧ (-9223372036854775808 ≤ x.2.1 ∧ x.2.1 ≤ 9223372036854775807) ∧ (0 ≤ x.2.2 ∧ x.2.2 ≤ 18446744073709551615)
set_option maxRecDepth 100000 in
theorem open_rcop_el {n : Nat} {cs : List Value} {y : DataW H × List MemPlace} (h : DataW.trod enc Tryz.prog w base spare held n 37 cs = some y) : ∃ x : (Int × Int × Int), OpOk x ∧ ∀ j, j < 3 → cs[j]? = some (encO x j) := by
  obtain ⟨xs, k, _, _, hlen, hl, hf⟩ := DataW.trod_struct Tryz.underlying37 h
  rw [show Tryz.prog.cellsOf 37 = 3 by kernel_rfl] at hlen
  match xs, hl, cs, hlen with
  | [y0, y1, y2], _, [v0, v1, v2], _ =>
    have c0 : Tryz.prog.cellsOf 3 = 1 := by kernel_rfl
    have c1 : Tryz.prog.cellsOf 35 = 1 := by kernel_rfl
    have g0 := hf 0 _ rfl
    have g1 := hf 1 _ rfl
    have g2 := hf 2 _ rfl
    simp [c0, c1] at g0 g1 g2
    obtain ⟨a0, e0, _, k0⟩ := DataW.trod_int Tryz.underlying3 g0
    obtain ⟨a1, e1, _, k1⟩ := DataW.trod_int Tryz.underlying3 g1
    obtain ⟨a2, e2, _, k2⟩ := DataW.trod_int Tryz.underlying35 g2
    simp only [List.cons.injEq, and_true] at e0 e1 e2
    subst e0 e1 e2
    refine ⟨(a0, a1, a2), ⟨i64_wf k0, i64_wf k1, u64_wf k2⟩, fun j hj => ?_⟩
    match j, hj with
    | 0, _ => rfl
    | 1, _ => rfl
    | 2, _ => rfl
set_option maxRecDepth 100000 in
theorem open_rcops {r : Reach} {b0 : Nat} {v : Value} {d : DataW H} {p : List MemPlace} (hv : Value.okWide Tryz.prog w r b0 31 v) (h : DataW.Trod enc Tryz.prog w base spare held 31 v d p) :
    ∃ A n c xs, v = .slice A n c ∧ n ≤ c ∧ c ≤ maxLen ∧ Sm 3 encO (0, 0, 0) w 0 w.heap.size A n xs ∧ ∀ y ∈ xs, OpOk y :=
  open_sm_v Tryz.underlying31 (sz := 3) (by kernel_rfl) (by omega) encO (0, 0, 0) OpOk (fun n cs' y => open_rcop_el) hv h

end
end Go.Proofs.YtfipdoofgbjbjaaGreat
