/- Walks and plain laws for this claim, part 11. No condition but sizes. -/
import Derived.Test.YtfipdoofgbjbjaaGreatM10
import Derived.Test.YtfipdoofgbjbjaaGreatM1
import Derived.Test.YtfipdoofgbjbjaaGreatM7
import Derived.Laws.IdiomArrays
/- afterglowlaw14.RcuSettles returns true at every one, and turns nothing old. No condition. -/
namespace Go.Proofs.YtfipdoofgbjbjaaGreat
open Go.RowKit
attribute [local go_sem] Oper.semAt_some
theorem RcP.from {p : Nat → Prop} {w w' : World} {B : Nat} {s : St} {g : Gr} {es : List Qe} {a : Ra} (h : RcP p w s g es a) (hb : Below B w w') (hp : ∀ i, B ≤ i → p i) : RcP p w' s g es a := fun w2 k =>
  h w2 (GrownP.trans ⟨hb.os, hb.tape, hb.output, hb.size, fun i hi hn => hb.block i (Nat.lt_of_not_le fun hle => hn (hp i hle))⟩ k)
theorem below_thenL {B L : Nat} {a b c : World} (h : Below B a b) (k : Below L b c) (hl : B ≤ L) : Below B a c := ⟨k.os.trans h.os, k.tape.trans h.tape, k.output.trans h.output, Nat.le_trans h.size k.size, fun i hi => (k.block i (by omega)).trans (h.block i hi)⟩
set_option maxRecDepth 100000 in
set_option maxHeartbeats 8000000 in
theorem rsettles_any (s0 : St) (g0 : Gr) (es0 : List Qe) (a0 : Ra) (w : World) (h : RcIn w s0 g0 es0 a0) :
    Calls Tryz.prog 4 #[rcv s0 g0 a0] w fun x w' => x = .returned (.bool true) ∧ Below w.heap.size w w' := by
  have HI := hid h; have HI0 := hid h; have HB := hid (Below.refl w.heap.size w)
  clear h
  have bx := below_box w (.cells (rcells s0 g0 a0) 30)
  replace HI := hid (HI.out.step bx); replace HB := hid (below_then HB.out bx)
  clear bx
  have PX := hid (Blk.new w 30 (rcells s0 g0 a0))
  go_enter Tryz.func4, Tryz.ntmps4
  go_wp2_with fail
  generalize w.alloc (.cells (rcells s0 g0 a0) 30) = W0 at *
  refine (rcwakes_any _).mono ?_
  rintro e w1 ⟨rfl, hb⟩
  replace HI := hid (HI.out.step hb); replace PX := hid (PX.out.step hb); replace HB := hid (below_then HB.out hb)
  clear hb
  obtain ⟨y00, y01, y02, y03, y04, y05, y06, y07, yf0⟩ := PX.out.cells8
  go_wp2_with fail
  clear y00 y01 y02 y03 y04 y05 y06 y07 yf0
  refine (ownP_any s0 g0 es0 a0 _ HI.out).mono ?_
  rintro e w2 ⟨a, es, rfl, hqc, hnq, hr, _, hb⟩
  obtain ⟨s, hs⟩ : ∃ s, s = cutS s0 := ⟨_, rfl⟩
  obtain ⟨g, hg⟩ : ∃ g, g = cutG g0 := ⟨_, rfl⟩
  have HS := hid hs; have HG := hid hg; have HQC := hid hqc
  rw [← hs, ← hg] at hr ⊢
  have RR := hid (hr.fresh.mono (q := fun i => w2.heap.size ≤ i) (fun i hi => .inr hi)); have NQ := hid hnq
  clear hs hg hr hnq hqc
  replace HI := hid (HI.out.step hb); replace PX := hid (PX.out.step hb); replace HB := hid (below_then HB.out hb)
  clear hb
  have HX0 := hid PX.out.lt
  have HB2 := HB
  have HL2 := hid (Nat.le_refl w2.heap.size)
  have bx := below_box w2 (.cells (rcells s g a) 30)
  replace HI := hid (HI.out.step bx); replace PX := hid (PX.out.step bx); replace RR := hid (RR.out.step bx); replace HB := hid (below_then HB.out bx)
  clear bx
  have P3 := hid (Blk.new w2 30 (rcells s g a))
  obtain ⟨y00, y01, y02, y03, y04, y05, y06, y07, yf0⟩ := P3.out.cells8
  go_wp2_with fail
  clear y00 y01 y02 y03 y04 y05 y06 y07 yf0
  have hz3 := hid (show (w2.alloc (.cells (rcells s g a) 30)).heap.size = w2.heap.size + 1 by simp)
  generalize w2.alloc (.cells (rcells s g a) 30) = W3 at *
  refine (rsettleQ_any s g es a W3 RR.out.rcr).mono ?_
  obtain ⟨r, hr⟩ : ∃ r, r = settleC s g es := ⟨_, rfl⟩
  rw [← hr]
  obtain ⟨r1, r2, r3, r4, r5⟩ := r
  have HRS := hid hr
  unfold SeQ
  dsimp only
  clear hr
  rintro e w4 ⟨an, esn, R, kr, rfl, hqn, hnn, hrn, hown, hspl, hb⟩
  have HQN := hid hqn; have HNN := hid hnn; have RN := hid (hrn.fresh.mono (q := fun i => w4.heap.size ≤ i) (fun i hi => .inr hi)); have HO := hid hown; have HOB := hid (show ∀ b, R = some b → b.block < w4.heap.size from fun b hb => by obtain ⟨_, cs, hk⟩ := hown.blk b hb; exact Blk.lt hk); have HSP := hid hspl
  have HL4 := hid (show w2.heap.size + 1 ≤ w4.heap.size by have := hb.size; have := hz3.out; omega)
  clear hqn hnn hrn hown hspl
  replace HI := hid (HI.out.step hb); replace PX := hid (PX.out.step hb); replace RR := hid (RR.out.step hb); replace P3 := hid (P3.out.step hb); replace HB := hid (below_then HB.out hb)
  clear hb
  have HSP2 := hid (fun (W' : World) (hk : KK w4 W') => HSP.out.kk hk)
  have HK := hid (Below.refl w4.heap.size w4)
  have bx := below_box w4 (.cells (rcells r2 r3 an) 30)
  replace HI := hid (HI.out.step bx); replace PX := hid (PX.out.step bx); replace RR := hid (RR.out.step bx); replace P3 := hid (P3.out.step bx); replace RN := hid (RN.out.step bx); replace HO := hid (HO.out.step bx); replace HB := hid (below_then HB.out bx); replace HK := hid (below_then HK.out bx)
  clear bx
  have P4 := hid (Blk.new w4 30 (rcells r2 r3 an))
  have bx := below_box (w4.alloc (.cells (rcells r2 r3 an) 30)) (.cells #[.int .i64 0, .slice none 0 0, .slice none 0 0, .int .i64 0, .int .i64 0, .bool false, .slice none 0 0, .slice none 0 0] 30)
  replace HI := hid (HI.out.step bx); replace PX := hid (PX.out.step bx); replace RR := hid (RR.out.step bx); replace P3 := hid (P3.out.step bx); replace RN := hid (RN.out.step bx); replace HO := hid (HO.out.step bx); replace P4 := hid (P4.out.step bx); replace HB := hid (below_then HB.out bx); replace HK := hid (below_then HK.out bx)
  clear bx
  have PW := hid (Blk.new2 w4 30 #[.int .i64 0, .slice none 0 0, .slice none 0 0, .int .i64 0, .int .i64 0, .bool false, .slice none 0 0, .slice none 0 0] (.cells (rcells r2 r3 an) 30))
  obtain ⟨y00, y01, y02, y03, y04, y05, y06, y07, yf0⟩ := P3.out.cells8
  go_wp2_with fail
  clear y00 y01 y02 y03 y04 y05 y06 y07 yf0
  have hz4 := hid (show ((w4.alloc (.cells (rcells r2 r3 an) 30)).alloc (.cells #[.int .i64 0, .slice none 0 0, .slice none 0 0, .int .i64 0, .int .i64 0, .bool false, .slice none 0 0, .slice none 0 0] 30)).heap.size = w4.heap.size + 2 by simp)
  generalize (w4.alloc (.cells (rcells r2 r3 an) 30)).alloc (.cells #[.int .i64 0, .slice none 0 0, .slice none 0 0, .int .i64 0, .int .i64 0, .bool false, .slice none 0 0, .slice none 0 0] 30) = W5 at *
  refine (rright14_any s g es a _ RR.out.rcr).mono ?_
  rintro e w6 ⟨rfl, hb⟩
  replace HI := hid (HI.out.step hb); replace PX := hid (PX.out.step hb); replace RR := hid (RR.out.step hb); replace P3 := hid (P3.out.step hb); replace RN := hid (RN.out.step hb); replace HO := hid (HO.out.step hb); replace P4 := hid (P4.out.step hb); replace PW := hid (PW.out.step hb); replace HB := hid (below_then HB.out hb); replace HK := hid (below_then HK.out hb)
  clear hb
  by_cases hok : RcGood s g (ql es)
  rotate_left
  ·skip
   rw [decide_eq_false hok]
   have h0 := HRS.out
   rw [show settleC s g es = (240, (0, [], []), zGr, [], []) from by unfold settleC; rw [if_neg (fun h => hok (rcOk_iff.1 h))]] at h0
   clear hok HRS
   cases h0
   have HRL := hid (show 0 ≤ 1000000 by omega)
   replace HO := hid (show Ow u64v _ _ _ R 0 kr [] from HO.out)
   have HSM := hid (show sameRc (0, [], []) zGr [] zSt zGr (ql []) = true from sameRc_refl _ _ _)
   go_wp2_with fail
   refine (equal_u64 R none 0 kr 0 0 _ _ _ _ [] [] _ (HO.out.sl (d := 0)) (Sl.nil _ 0 0 _) HRL.out (by have := HRL.out; omega)).mono ?_
   rintro e wa ⟨rfl, hb⟩
   replace HI := hid (HI.out.step hb); replace PX := hid (PX.out.step hb); replace RR := hid (RR.out.step hb); replace P3 := hid (P3.out.step hb); replace RN := hid (RN.out.step hb); replace HO := hid (HO.out.step hb); replace P4 := hid (P4.out.step hb); replace PW := hid (PW.out.step hb); replace HB := hid (below_then HB.out hb); replace HK := hid (below_then HK.out hb)
   clear hb
   rw [decide_eq_true rfl]
   obtain ⟨y00, y01, y02, y03, y04, y05, y06, y07, yf0⟩ := P4.out.cells8
   obtain ⟨y10, y11, y12, y13, y14, y15, y16, y17, yf1⟩ := PW.out.cells8
   go_wp2_with fail
   clear y00 y01 y02 y03 y04 y05 y06 y07 yf0 y10 y11 y12 y13 y14 y15 y16 y17 yf1
   refine (rsame14_any (0, [], []) zGr esn an zSt zGr [] zRa _ RN.out.rcr (RcP.zero (fun _ => False) _).rcr).mono ?_
   rintro e wb ⟨rfl, hb⟩
   replace HI := hid (HI.out.step hb); replace PX := hid (PX.out.step hb); replace RR := hid (RR.out.step hb); replace P3 := hid (P3.out.step hb); replace RN := hid (RN.out.step hb); replace HO := hid (HO.out.step hb); replace P4 := hid (P4.out.step hb); replace PW := hid (PW.out.step hb); replace HB := hid (below_then HB.out hb); replace HK := hid (below_then HK.out hb)
   clear hb
   rw [HQN.out, HSM.out]
   obtain ⟨y00, y01, y02, y03, y04, y05, y06, y07, yf0⟩ := P4.out.cells8
   go_wp2_with fail
   clear y00 y01 y02 y03 y04 y05 y06 y07 yf0
   refine (spoil14_any W3.heap.size (0, [], []) zGr esn an _ (HSP2.out _ (.below HK.out)) (by have := HK.out.size; have := HL4.out; have := hz3.out; omega)).mono ?_
   rintro e wc ⟨⟨v, rfl⟩, hb⟩
   have HRC := hid (RR.out.from hb (fun i hi => by have := hz3.out; omega)); have P3C := hid (P3.out.below hb (by have := hz3.out; omega)); have PXC := hid (PX.out.below hb (by have := hz3.out; have := HB2.out.size; have := HX0.out; omega))
   have HBC := hid (below_thenL HB.out hb (by have := hz3.out; have := HB2.out.size; have := HX0.out; omega))
   have HIC := hid (HI0.out.step HBC.out)
   clear hb HSP2 HK P3 PX P4 RR HI HB HSP RN HO
   go_upto_region 16 with fail
   have bx := (Below.refl wc.heap.size wc).drew
   replace HRC := hid (HRC.out.step bx); replace P3C := hid (P3C.out.step bx); replace PXC := hid (PXC.out.step bx); replace HIC := hid (HIC.out.step bx); replace HBC := hid (below_then HBC.out bx)
   clear bx
   have hszd := hid (show wc.drew.heap.size = wc.heap.size from rfl)
   refine wp_region_noPanic ?_
   refine wp_region_held_drew (S := (fun W' : World => W'.cell? ⟨w2.heap.size, 0, none⟩ = some (.int .i64 s.1) ∧ W'.cell? ⟨w2.heap.size, 1, none⟩ = some (.slice a.A a.n a.k) ∧ W'.cell? ⟨w2.heap.size, 2, none⟩ = some (.slice a.B a.m a.d) ∧ W'.cell? ⟨w2.heap.size, 3, none⟩ = some (.int .i64 g.dn) ∧ W'.cell? ⟨w2.heap.size, 4, none⟩ = some (.int .i64 g.ak) ∧ W'.cell? ⟨w2.heap.size, 5, none⟩ = some (.bool g.on) ∧ W'.cell? ⟨w2.heap.size, 6, none⟩ = some (.slice a.D g.nd.length a.kd) ∧ W'.cell? ⟨w2.heap.size, 7, none⟩ = some (.slice a.Q a.nq a.kq) ∧ W'.cell? ⟨w.heap.size, 0, none⟩ = some (.int .i64 s0.1) ∧ W'.cell? ⟨w.heap.size, 1, none⟩ = some (.slice a0.A a0.n a0.k) ∧ W'.cell? ⟨w.heap.size, 2, none⟩ = some (.slice a0.B a0.m a0.d) ∧ W'.cell? ⟨w.heap.size, 3, none⟩ = some (.int .i64 g0.dn) ∧ W'.cell? ⟨w.heap.size, 4, none⟩ = some (.int .i64 g0.ak) ∧ W'.cell? ⟨w.heap.size, 5, none⟩ = some (.bool g0.on) ∧ W'.cell? ⟨w.heap.size, 6, none⟩ = some (.slice a0.D g0.nd.length a0.kd) ∧ W'.cell? ⟨w.heap.size, 7, none⟩ = some (.slice a0.Q a0.nq a0.kq))) (by kernel_rfl) ⟨P3C.out.cells8.1, P3C.out.cells8.2.1, P3C.out.cells8.2.2.1, P3C.out.cells8.2.2.2.1, P3C.out.cells8.2.2.2.2.1, P3C.out.cells8.2.2.2.2.2.1, P3C.out.cells8.2.2.2.2.2.2.1, P3C.out.cells8.2.2.2.2.2.2.2.1, PXC.out.cells8.1, PXC.out.cells8.2.1, PXC.out.cells8.2.2.1, PXC.out.cells8.2.2.2.1, PXC.out.cells8.2.2.2.2.1, PXC.out.cells8.2.2.2.2.2.1, PXC.out.cells8.2.2.2.2.2.2.1, PXC.out.cells8.2.2.2.2.2.2.2.1⟩ (fun hS => ?_)
   generalize wc.drew = Wd at *
   refine tk 0 hS ?_
   refine tk 1 hS ?_
   refine rdy [2] (csy (fun K hK => ?_) AllReadyH.nil)
   go_simp
   refine (ownP_any s0 g0 es0 a0 _ HIC.out).mono ?_
   rintro e w16 ⟨a2, es2, rfl, hq2, _, hr2, _, hb⟩
   have hsz0 := hid (show Wd.heap.size ≤ w16.heap.size from hb.size)
   replace HRC := hid (HRC.out.step hb); replace P3C := hid (P3C.out.step hb); replace PXC := hid (PXC.out.step hb); replace HIC := hid (HIC.out.step hb); replace HBC := hid (below_then HBC.out hb)
   clear hb
   have HQ2 := hid hq2; have HR2 := hid hr2.rcr
   clear hq2 hr2
   go_wp2_with fail
   clear hS
   refine ky hK ⟨P3C.out.cells8.1, P3C.out.cells8.2.1, P3C.out.cells8.2.2.1, P3C.out.cells8.2.2.2.1, P3C.out.cells8.2.2.2.2.1, P3C.out.cells8.2.2.2.2.2.1, P3C.out.cells8.2.2.2.2.2.2.1, P3C.out.cells8.2.2.2.2.2.2.2.1, PXC.out.cells8.1, PXC.out.cells8.2.1, PXC.out.cells8.2.2.1, PXC.out.cells8.2.2.2.1, PXC.out.cells8.2.2.2.2.1, PXC.out.cells8.2.2.2.2.2.1, PXC.out.cells8.2.2.2.2.2.2.1, PXC.out.cells8.2.2.2.2.2.2.2.1⟩ fun hS => ?_
   clear hK K
   refine rdy [3] (csy (fun K hK => ?_) AllReadyH.nil)
   go_simp
   refine (rsame14_any s g es a (cutS s0) (cutG g0) es2 a2 _ HRC.out.rcr HR2.out).mono ?_
   rintro e w17 ⟨rfl, hb⟩
   have hsz1 := hid (show w16.heap.size ≤ w17.heap.size from hb.size)
   replace HRC := hid (HRC.out.step hb); replace P3C := hid (P3C.out.step hb); replace PXC := hid (PXC.out.step hb); replace HIC := hid (HIC.out.step hb); replace HR2 := hid (HR2.out.step hb); replace HBC := hid (below_then HBC.out hb)
   clear hb
   go_wp2_with fail
   clear hS
   refine ky hK ⟨P3C.out.cells8.1, P3C.out.cells8.2.1, P3C.out.cells8.2.2.1, P3C.out.cells8.2.2.2.1, P3C.out.cells8.2.2.2.2.1, P3C.out.cells8.2.2.2.2.2.1, P3C.out.cells8.2.2.2.2.2.2.1, P3C.out.cells8.2.2.2.2.2.2.2.1, PXC.out.cells8.1, PXC.out.cells8.2.1, PXC.out.cells8.2.2.1, PXC.out.cells8.2.2.2.1, PXC.out.cells8.2.2.2.2.1, PXC.out.cells8.2.2.2.2.2.1, PXC.out.cells8.2.2.2.2.2.2.1, PXC.out.cells8.2.2.2.2.2.2.2.1⟩ fun hS => ?_
   clear hK K
   refine tk 4 hS ?_
   refine wpAnyH_done (by kernel_rfl) ?_ _
   refine NoPanic.normal ?_
   clear hS
   rw [show sameRc s g (ql es) (cutS s0) (cutG g0) (ql es2) = true by rw [HQ2.out, HQC.out, ← HS.out, ← HG.out]; exact sameRc_refl _ _ _]
   go_wp2_with fail
   go_ret
   exact ⟨rfl, HBC.out⟩
  rw [decide_eq_true hok]
  obtain ⟨y00, y01, y02, y03, y04, y05, y06, y07, yf0⟩ := P3.out.cells8
  go_wp2_with fail
  clear y00 y01 y02 y03 y04 y05 y06 y07 yf0
  refine (rquiet14_any s g es a _ RR.out.rcr).mono ?_
  rintro e w7 ⟨rfl, hb⟩
  replace HI := hid (HI.out.step hb); replace PX := hid (PX.out.step hb); replace RR := hid (RR.out.step hb); replace P3 := hid (P3.out.step hb); replace RN := hid (RN.out.step hb); replace HO := hid (HO.out.step hb); replace P4 := hid (P4.out.step hb); replace PW := hid (PW.out.step hb); replace HB := hid (below_then HB.out hb); replace HK := hid (below_then HK.out hb)
  clear hb
  have PWL := hid PW.out.lt
  rw [quietR_good hok.1.1]
  rcases hq : quietB s with _ | _
  ·skip
   have h0 := HRS.out
   rw [show settleC s g es = (241, (0, [], []), zGr, [], []) from by unfold settleC; rw [if_pos (rcOk_iff.2 hok), hq]; rfl] at h0
   clear hok HRS hq
   cases h0
   have HRL := hid (show 0 ≤ 1000000 by omega)
   replace HO := hid (show Ow u64v _ _ _ R 0 kr [] from HO.out)
   have HSM := hid (show sameRc (0, [], []) zGr [] zSt zGr (ql []) = true from sameRc_refl _ _ _)
   go_wp2_with fail
   refine (equal_u64 R none 0 kr 0 0 _ _ _ _ [] [] _ (HO.out.sl (d := 0)) (Sl.nil _ 0 0 _) HRL.out (by have := HRL.out; omega)).mono ?_
   rintro e wa ⟨rfl, hb⟩
   replace HI := hid (HI.out.step hb); replace PX := hid (PX.out.step hb); replace RR := hid (RR.out.step hb); replace P3 := hid (P3.out.step hb); replace RN := hid (RN.out.step hb); replace HO := hid (HO.out.step hb); replace P4 := hid (P4.out.step hb); replace PW := hid (PW.out.step hb); replace HB := hid (below_then HB.out hb); replace HK := hid (below_then HK.out hb)
   clear hb
   rw [decide_eq_true rfl]
   obtain ⟨y00, y01, y02, y03, y04, y05, y06, y07, yf0⟩ := P4.out.cells8
   obtain ⟨y10, y11, y12, y13, y14, y15, y16, y17, yf1⟩ := PW.out.cells8
   go_wp2_with fail
   clear y00 y01 y02 y03 y04 y05 y06 y07 yf0 y10 y11 y12 y13 y14 y15 y16 y17 yf1
   refine (rsame14_any (0, [], []) zGr esn an zSt zGr [] zRa _ RN.out.rcr (RcP.zero (fun _ => False) _).rcr).mono ?_
   rintro e wb ⟨rfl, hb⟩
   replace HI := hid (HI.out.step hb); replace PX := hid (PX.out.step hb); replace RR := hid (RR.out.step hb); replace P3 := hid (P3.out.step hb); replace RN := hid (RN.out.step hb); replace HO := hid (HO.out.step hb); replace P4 := hid (P4.out.step hb); replace PW := hid (PW.out.step hb); replace HB := hid (below_then HB.out hb); replace HK := hid (below_then HK.out hb)
   clear hb
   rw [HQN.out, HSM.out]
   obtain ⟨y00, y01, y02, y03, y04, y05, y06, y07, yf0⟩ := P4.out.cells8
   go_wp2_with fail
   clear y00 y01 y02 y03 y04 y05 y06 y07 yf0
   refine (spoil14_any W3.heap.size (0, [], []) zGr esn an _ (HSP2.out _ (.below HK.out)) (by have := HK.out.size; have := HL4.out; have := hz3.out; omega)).mono ?_
   rintro e wc ⟨⟨v, rfl⟩, hb⟩
   have HRC := hid (RR.out.from hb (fun i hi => by have := hz3.out; omega)); have P3C := hid (P3.out.below hb (by have := hz3.out; omega)); have PXC := hid (PX.out.below hb (by have := hz3.out; have := HB2.out.size; have := HX0.out; omega))
   have HBC := hid (below_thenL HB.out hb (by have := hz3.out; have := HB2.out.size; have := HX0.out; omega))
   have HIC := hid (HI0.out.step HBC.out)
   clear hb HSP2 HK P3 PX P4 RR HI HB HSP RN HO
   go_upto_region 16 with fail
   have bx := (Below.refl wc.heap.size wc).drew
   replace HRC := hid (HRC.out.step bx); replace P3C := hid (P3C.out.step bx); replace PXC := hid (PXC.out.step bx); replace HIC := hid (HIC.out.step bx); replace HBC := hid (below_then HBC.out bx)
   clear bx
   have hszd := hid (show wc.drew.heap.size = wc.heap.size from rfl)
   refine wp_region_noPanic ?_
   refine wp_region_held_drew (S := (fun W' : World => W'.cell? ⟨w2.heap.size, 0, none⟩ = some (.int .i64 s.1) ∧ W'.cell? ⟨w2.heap.size, 1, none⟩ = some (.slice a.A a.n a.k) ∧ W'.cell? ⟨w2.heap.size, 2, none⟩ = some (.slice a.B a.m a.d) ∧ W'.cell? ⟨w2.heap.size, 3, none⟩ = some (.int .i64 g.dn) ∧ W'.cell? ⟨w2.heap.size, 4, none⟩ = some (.int .i64 g.ak) ∧ W'.cell? ⟨w2.heap.size, 5, none⟩ = some (.bool g.on) ∧ W'.cell? ⟨w2.heap.size, 6, none⟩ = some (.slice a.D g.nd.length a.kd) ∧ W'.cell? ⟨w2.heap.size, 7, none⟩ = some (.slice a.Q a.nq a.kq) ∧ W'.cell? ⟨w.heap.size, 0, none⟩ = some (.int .i64 s0.1) ∧ W'.cell? ⟨w.heap.size, 1, none⟩ = some (.slice a0.A a0.n a0.k) ∧ W'.cell? ⟨w.heap.size, 2, none⟩ = some (.slice a0.B a0.m a0.d) ∧ W'.cell? ⟨w.heap.size, 3, none⟩ = some (.int .i64 g0.dn) ∧ W'.cell? ⟨w.heap.size, 4, none⟩ = some (.int .i64 g0.ak) ∧ W'.cell? ⟨w.heap.size, 5, none⟩ = some (.bool g0.on) ∧ W'.cell? ⟨w.heap.size, 6, none⟩ = some (.slice a0.D g0.nd.length a0.kd) ∧ W'.cell? ⟨w.heap.size, 7, none⟩ = some (.slice a0.Q a0.nq a0.kq))) (by kernel_rfl) ⟨P3C.out.cells8.1, P3C.out.cells8.2.1, P3C.out.cells8.2.2.1, P3C.out.cells8.2.2.2.1, P3C.out.cells8.2.2.2.2.1, P3C.out.cells8.2.2.2.2.2.1, P3C.out.cells8.2.2.2.2.2.2.1, P3C.out.cells8.2.2.2.2.2.2.2.1, PXC.out.cells8.1, PXC.out.cells8.2.1, PXC.out.cells8.2.2.1, PXC.out.cells8.2.2.2.1, PXC.out.cells8.2.2.2.2.1, PXC.out.cells8.2.2.2.2.2.1, PXC.out.cells8.2.2.2.2.2.2.1, PXC.out.cells8.2.2.2.2.2.2.2.1⟩ (fun hS => ?_)
   generalize wc.drew = Wd at *
   refine tk 0 hS ?_
   refine tk 1 hS ?_
   refine rdy [2] (csy (fun K hK => ?_) AllReadyH.nil)
   go_simp
   refine (ownP_any s0 g0 es0 a0 _ HIC.out).mono ?_
   rintro e w16 ⟨a2, es2, rfl, hq2, _, hr2, _, hb⟩
   have hsz0 := hid (show Wd.heap.size ≤ w16.heap.size from hb.size)
   replace HRC := hid (HRC.out.step hb); replace P3C := hid (P3C.out.step hb); replace PXC := hid (PXC.out.step hb); replace HIC := hid (HIC.out.step hb); replace HBC := hid (below_then HBC.out hb)
   clear hb
   have HQ2 := hid hq2; have HR2 := hid hr2.rcr
   clear hq2 hr2
   go_wp2_with fail
   clear hS
   refine ky hK ⟨P3C.out.cells8.1, P3C.out.cells8.2.1, P3C.out.cells8.2.2.1, P3C.out.cells8.2.2.2.1, P3C.out.cells8.2.2.2.2.1, P3C.out.cells8.2.2.2.2.2.1, P3C.out.cells8.2.2.2.2.2.2.1, P3C.out.cells8.2.2.2.2.2.2.2.1, PXC.out.cells8.1, PXC.out.cells8.2.1, PXC.out.cells8.2.2.1, PXC.out.cells8.2.2.2.1, PXC.out.cells8.2.2.2.2.1, PXC.out.cells8.2.2.2.2.2.1, PXC.out.cells8.2.2.2.2.2.2.1, PXC.out.cells8.2.2.2.2.2.2.2.1⟩ fun hS => ?_
   clear hK K
   refine rdy [3] (csy (fun K hK => ?_) AllReadyH.nil)
   go_simp
   refine (rsame14_any s g es a (cutS s0) (cutG g0) es2 a2 _ HRC.out.rcr HR2.out).mono ?_
   rintro e w17 ⟨rfl, hb⟩
   have hsz1 := hid (show w16.heap.size ≤ w17.heap.size from hb.size)
   replace HRC := hid (HRC.out.step hb); replace P3C := hid (P3C.out.step hb); replace PXC := hid (PXC.out.step hb); replace HIC := hid (HIC.out.step hb); replace HR2 := hid (HR2.out.step hb); replace HBC := hid (below_then HBC.out hb)
   clear hb
   go_wp2_with fail
   clear hS
   refine ky hK ⟨P3C.out.cells8.1, P3C.out.cells8.2.1, P3C.out.cells8.2.2.1, P3C.out.cells8.2.2.2.1, P3C.out.cells8.2.2.2.2.1, P3C.out.cells8.2.2.2.2.2.1, P3C.out.cells8.2.2.2.2.2.2.1, P3C.out.cells8.2.2.2.2.2.2.2.1, PXC.out.cells8.1, PXC.out.cells8.2.1, PXC.out.cells8.2.2.1, PXC.out.cells8.2.2.2.1, PXC.out.cells8.2.2.2.2.1, PXC.out.cells8.2.2.2.2.2.1, PXC.out.cells8.2.2.2.2.2.2.1, PXC.out.cells8.2.2.2.2.2.2.2.1⟩ fun hS => ?_
   clear hK K
   refine tk 4 hS ?_
   refine wpAnyH_done (by kernel_rfl) ?_ _
   refine NoPanic.normal ?_
   clear hS
   rw [show sameRc s g (ql es) (cutS s0) (cutG g0) (ql es2) = true by rw [HQ2.out, HQC.out, ← HS.out, ← HG.out]; exact sameRc_refl _ _ _]
   go_wp2_with fail
   go_ret
   exact ⟨rfl, HBC.out⟩
  have HOK := hid hok; have HQT := hid hq
  obtain ⟨y00, y01, y02, y03, y04, y05, y06, y07, yf0⟩ := P3.out.cells8
  obtain ⟨y10, y11, y12, y13, y14, y15, y16, y17, yf1⟩ := PX.out.cells8
  go_wp2_with fail
  clear y00 y01 y02 y03 y04 y05 y06 y07 yf0 y10 y11 y12 y13 y14 y15 y16 y17 yf1
  refine (ownP_any s0 g0 es0 a0 _ HI.out).mono ?_
  rintro e w8 ⟨a8, es8, rfl, hq8, hn8, hr8, _, hb⟩
  rw [← HS.out, ← HG.out] at hr8 ⊢
  have HQ8 := hid (show ql es8 = ql es by rw [hq8, HQC.out]); have HN8 := hid hn8; have HR8 := hid hr8; have HW8 := hid hb.size
  clear hq8 hn8 hr8
  replace HI := hid (HI.out.step hb); replace PX := hid (PX.out.step hb); replace RR := hid (RR.out.step hb); replace P3 := hid (P3.out.step hb); replace RN := hid (RN.out.step hb); replace HO := hid (HO.out.step hb); replace P4 := hid (P4.out.step hb); replace PW := hid (PW.out.step hb); replace HB := hid (below_then HB.out hb); replace HK := hid (below_then HK.out hb)
  clear hb
  go_wp2_with fail
  refine (rsettle14_any (fun i => i < w7.heap.size) s g es8 a8 w8 HR8.out (fun i hi => by have := HW8.out; omega) HN8.out (by rw [HQ8.out]; exact HOK.out) HQT.out).mono ?_
  rw [show sv0 g es8 = sv0 g es by unfold sv0; rw [HQ8.out]]
  clear HR8
  rintro e w9 ⟨aw, esw, B, m, d, rfl, hqw, hnw, hrw, how, hb⟩
  have HQW := hid hqw; have HRW := hid hrw; have HOW := hid how
  have HW7 := hid (show w4.heap.size + 1 < w7.heap.size from PWL.out)
  clear hqw hnw hrw how
  replace HI := hid (HI.out.step hb); replace PX := hid (PX.out.step hb); replace RR := hid (RR.out.step hb); replace P3 := hid (P3.out.step hb); replace RN := hid (RN.out.step hb); replace HO := hid (HO.out.step hb); replace P4 := hid (P4.out.step hb); replace PW := hid (PW.out.step hb); replace HB := hid (below_then HB.out hb); replace HK := hid (below_then HK.out hb)
  clear hb
  obtain ⟨F, hF⟩ : ∃ F, F = setF s (sv0 g es) := ⟨_, rfl⟩
  rw [← hF] at HQW HRW HOW ⊢
  have h0 := HRS.out
  rw [show settleC s g es = (0, s, F.g, F.qs, F.ran) from by rw [hF]; unfold settleC; rw [if_pos (rcOk_iff.2 HOK.out), if_pos HQT.out]] at h0
  have HRL := hid (show F.ran.length ≤ 1000000 by
    have h1 := (settled (sv0_ok HOK.out HQT.out) rfl).2.2.1.length_eq
    rw [wAll_len] at h1
    have h2 := wN_le (es := es) (fun x hx => by have := (HOK.out.2.2 _ (ql_mem hx)).1.2.1; dsimp only at this; omega) es.length
    rw [List.take_length] at h2
    have h3 := HOK.out.1.2.1.2.1
    have h4 := HOK.out.2.1
    rw [ql_len] at h4
    rw [hF]
    have h5 : (sv0 g es).qs = ql es := rfl
    rw [h5] at h1
    omega)
  clear HRS hok hq hF HOK HQT
  cases h0
  obtain rfl : F.ran.length = m := HOW.out.len
  obtain ⟨y00, y01, y02, y03, y04, y05, y06, y07, yf0⟩ := PW.out.cells8
  go_wp2_with fail
  clear y00 y01 y02 y03 y04 y05 y06 y07 yf0
  have hbk0 : Blk (w9.setCell ⟨w4.heap.size + 1, 0, none⟩ (.int .i64 s.1)) (w4.heap.size + 1) 30 #[.int .i64 s.1, .slice none 0 0, .slice none 0 0, .int .i64 0, .int .i64 0, .bool false, .slice none 0 0, .slice none 0 0] := PW.out.setCell 0 (.int .i64 s.1)
  have hbk1 : Blk ((w9.setCell ⟨w4.heap.size + 1, 0, none⟩ (.int .i64 s.1)).setCell ⟨w4.heap.size + 1, 1, none⟩ (.slice aw.A aw.n aw.k)) (w4.heap.size + 1) 30 #[.int .i64 s.1, .slice aw.A aw.n aw.k, .slice none 0 0, .int .i64 0, .int .i64 0, .bool false, .slice none 0 0, .slice none 0 0] := hbk0.setCell 1 (.slice aw.A aw.n aw.k)
  have hbk2 : Blk (((w9.setCell ⟨w4.heap.size + 1, 0, none⟩ (.int .i64 s.1)).setCell ⟨w4.heap.size + 1, 1, none⟩ (.slice aw.A aw.n aw.k)).setCell ⟨w4.heap.size + 1, 2, none⟩ (.slice aw.B aw.m aw.d)) (w4.heap.size + 1) 30 #[.int .i64 s.1, .slice aw.A aw.n aw.k, .slice aw.B aw.m aw.d, .int .i64 0, .int .i64 0, .bool false, .slice none 0 0, .slice none 0 0] := hbk1.setCell 2 (.slice aw.B aw.m aw.d)
  have hbk3 : Blk ((((w9.setCell ⟨w4.heap.size + 1, 0, none⟩ (.int .i64 s.1)).setCell ⟨w4.heap.size + 1, 1, none⟩ (.slice aw.A aw.n aw.k)).setCell ⟨w4.heap.size + 1, 2, none⟩ (.slice aw.B aw.m aw.d)).setCell ⟨w4.heap.size + 1, 3, none⟩ (.int .i64 F.g.dn)) (w4.heap.size + 1) 30 #[.int .i64 s.1, .slice aw.A aw.n aw.k, .slice aw.B aw.m aw.d, .int .i64 F.g.dn, .int .i64 0, .bool false, .slice none 0 0, .slice none 0 0] := hbk2.setCell 3 (.int .i64 F.g.dn)
  have hbk4 : Blk (((((w9.setCell ⟨w4.heap.size + 1, 0, none⟩ (.int .i64 s.1)).setCell ⟨w4.heap.size + 1, 1, none⟩ (.slice aw.A aw.n aw.k)).setCell ⟨w4.heap.size + 1, 2, none⟩ (.slice aw.B aw.m aw.d)).setCell ⟨w4.heap.size + 1, 3, none⟩ (.int .i64 F.g.dn)).setCell ⟨w4.heap.size + 1, 4, none⟩ (.int .i64 F.g.ak)) (w4.heap.size + 1) 30 #[.int .i64 s.1, .slice aw.A aw.n aw.k, .slice aw.B aw.m aw.d, .int .i64 F.g.dn, .int .i64 F.g.ak, .bool false, .slice none 0 0, .slice none 0 0] := hbk3.setCell 4 (.int .i64 F.g.ak)
  have hbk5 : Blk ((((((w9.setCell ⟨w4.heap.size + 1, 0, none⟩ (.int .i64 s.1)).setCell ⟨w4.heap.size + 1, 1, none⟩ (.slice aw.A aw.n aw.k)).setCell ⟨w4.heap.size + 1, 2, none⟩ (.slice aw.B aw.m aw.d)).setCell ⟨w4.heap.size + 1, 3, none⟩ (.int .i64 F.g.dn)).setCell ⟨w4.heap.size + 1, 4, none⟩ (.int .i64 F.g.ak)).setCell ⟨w4.heap.size + 1, 5, none⟩ (.bool F.g.on)) (w4.heap.size + 1) 30 #[.int .i64 s.1, .slice aw.A aw.n aw.k, .slice aw.B aw.m aw.d, .int .i64 F.g.dn, .int .i64 F.g.ak, .bool F.g.on, .slice none 0 0, .slice none 0 0] := hbk4.setCell 5 (.bool F.g.on)
  have hbk6 : Blk (((((((w9.setCell ⟨w4.heap.size + 1, 0, none⟩ (.int .i64 s.1)).setCell ⟨w4.heap.size + 1, 1, none⟩ (.slice aw.A aw.n aw.k)).setCell ⟨w4.heap.size + 1, 2, none⟩ (.slice aw.B aw.m aw.d)).setCell ⟨w4.heap.size + 1, 3, none⟩ (.int .i64 F.g.dn)).setCell ⟨w4.heap.size + 1, 4, none⟩ (.int .i64 F.g.ak)).setCell ⟨w4.heap.size + 1, 5, none⟩ (.bool F.g.on)).setCell ⟨w4.heap.size + 1, 6, none⟩ (.slice aw.D F.g.nd.length aw.kd)) (w4.heap.size + 1) 30 #[.int .i64 s.1, .slice aw.A aw.n aw.k, .slice aw.B aw.m aw.d, .int .i64 F.g.dn, .int .i64 F.g.ak, .bool F.g.on, .slice aw.D F.g.nd.length aw.kd, .slice none 0 0] := hbk5.setCell 6 (.slice aw.D F.g.nd.length aw.kd)
  have hbk7 : Blk ((((((((w9.setCell ⟨w4.heap.size + 1, 0, none⟩ (.int .i64 s.1)).setCell ⟨w4.heap.size + 1, 1, none⟩ (.slice aw.A aw.n aw.k)).setCell ⟨w4.heap.size + 1, 2, none⟩ (.slice aw.B aw.m aw.d)).setCell ⟨w4.heap.size + 1, 3, none⟩ (.int .i64 F.g.dn)).setCell ⟨w4.heap.size + 1, 4, none⟩ (.int .i64 F.g.ak)).setCell ⟨w4.heap.size + 1, 5, none⟩ (.bool F.g.on)).setCell ⟨w4.heap.size + 1, 6, none⟩ (.slice aw.D F.g.nd.length aw.kd)).setCell ⟨w4.heap.size + 1, 7, none⟩ (.slice aw.Q aw.nq aw.kq)) (w4.heap.size + 1) 30 #[.int .i64 s.1, .slice aw.A aw.n aw.k, .slice aw.B aw.m aw.d, .int .i64 F.g.dn, .int .i64 F.g.ak, .bool F.g.on, .slice aw.D F.g.nd.length aw.kd, .slice aw.Q aw.nq aw.kq] := hbk6.setCell 7 (.slice aw.Q aw.nq aw.kq)
  have hgr : w9.grownBy ((((((((w9.setCell ⟨w4.heap.size + 1, 0, none⟩ (.int .i64 s.1)).setCell ⟨w4.heap.size + 1, 1, none⟩ (.slice aw.A aw.n aw.k)).setCell ⟨w4.heap.size + 1, 2, none⟩ (.slice aw.B aw.m aw.d)).setCell ⟨w4.heap.size + 1, 3, none⟩ (.int .i64 F.g.dn)).setCell ⟨w4.heap.size + 1, 4, none⟩ (.int .i64 F.g.ak)).setCell ⟨w4.heap.size + 1, 5, none⟩ (.bool F.g.on)).setCell ⟨w4.heap.size + 1, 6, none⟩ (.slice aw.D F.g.nd.length aw.kd)).setCell ⟨w4.heap.size + 1, 7, none⟩ (.slice aw.Q aw.nq aw.kq)) (some (w4.heap.size + 1)) := (grown_set (grown_set (grown_set (grown_set (grown_set (grown_set (grown_set (grown_set (World.grownBy.refl w9 (some (w4.heap.size + 1))) 0 (.int .i64 s.1)) 1 (.slice aw.A aw.n aw.k)) 2 (.slice aw.B aw.m aw.d)) 3 (.int .i64 F.g.dn)) 4 (.int .i64 F.g.ak)) 5 (.bool F.g.on)) 6 (.slice aw.D F.g.nd.length aw.kd)) 7 (.slice aw.Q aw.nq aw.kq))
  replace PW := hid hbk7
  clear hbk0 hbk1 hbk2 hbk3 hbk4 hbk5 hbk6 hbk7
  generalize (((((((w9.setCell ⟨w4.heap.size + 1, 0, none⟩ (.int .i64 s.1)).setCell ⟨w4.heap.size + 1, 1, none⟩ (.slice aw.A aw.n aw.k)).setCell ⟨w4.heap.size + 1, 2, none⟩ (.slice aw.B aw.m aw.d)).setCell ⟨w4.heap.size + 1, 3, none⟩ (.int .i64 F.g.dn)).setCell ⟨w4.heap.size + 1, 4, none⟩ (.int .i64 F.g.ak)).setCell ⟨w4.heap.size + 1, 5, none⟩ (.bool F.g.on)).setCell ⟨w4.heap.size + 1, 6, none⟩ (.slice aw.D F.g.nd.length aw.kd)).setCell ⟨w4.heap.size + 1, 7, none⟩ (.slice aw.Q aw.nq aw.kq) = w10 at *
  replace RN := hid (RN.out.turn hgr (by show w4.heap.size ≤ _; omega)); replace RR := hid (RR.out.turn hgr (by show w2.heap.size ≤ _; have := HL4.out; omega)); replace HRW := hid (HRW.out.turn hgr (by show _ < w7.heap.size; exact HW7.out))
  replace HO := hid (HO.out.keptG hgr (fun a ha e => by have h1 := HOB.out a ha; have := Option.some.inj e; omega))
  replace HOW := hid (HOW.out.keptG hgr (fun a ha e => by have h1 := (HOW.out.blk a ha).1; have := Option.some.inj e; have := HW7.out; have := HW8.out; omega))
  replace P3 := hid (P3.out.grown hgr (by have := HL4.out; simp; omega)); replace P4 := hid (P4.out.grown hgr (by simp)); replace PX := hid (PX.out.grown hgr (by have := HL4.out; have := HX0.out; simp; omega))
  replace HB := hid (HB.out.grown hgr HB.out.size (fun r e => by cases e; have := HL4.out; have := HX0.out; omega))
  replace HK := hid (HK.out.grown hgr HK.out.size (fun r e => by cases e; omega))
  replace HI := hid (HI0.out.step HB.out)
  have HSM := hid (show sameRc s F.g F.qs s F.g (ql esw) = true by rw [HQW.out]; exact sameRc_refl _ _ _)
  clear hgr
  refine (equal_u64 R B F.ran.length kr F.ran.length d _ _ _ _ F.ran F.ran _ (HO.out.sl (d := 0)) (HOW.out.sl (d := 0)) HRL.out (by have := HRL.out; omega)).mono ?_
  rintro e wa ⟨rfl, hb⟩
  replace RN := hid (RN.out.step hb); replace RR := hid (RR.out.step hb); replace HRW := hid (HRW.out.step hb); replace HO := hid (HO.out.step hb); replace HOW := hid (HOW.out.step hb); replace P3 := hid (P3.out.step hb); replace P4 := hid (P4.out.step hb); replace PX := hid (PX.out.step hb); replace PW := hid (PW.out.step hb); replace HI := hid (HI.out.step hb); replace HB := hid (below_then HB.out hb); replace HK := hid (below_then HK.out hb)
  clear hb
  rw [decide_eq_true rfl]
  obtain ⟨y00, y01, y02, y03, y04, y05, y06, y07, yf0⟩ := P4.out.cells8
  obtain ⟨y10, y11, y12, y13, y14, y15, y16, y17, yf1⟩ := PW.out.cells8
  go_wp2_with fail
  clear y00 y01 y02 y03 y04 y05 y06 y07 yf0 y10 y11 y12 y13 y14 y15 y16 y17 yf1
  refine (rsame14_any s F.g esn an s F.g esw aw _ RN.out.rcr HRW.out.rcr).mono ?_
  rintro e wb ⟨rfl, hb⟩
  replace RN := hid (RN.out.step hb); replace RR := hid (RR.out.step hb); replace HRW := hid (HRW.out.step hb); replace HO := hid (HO.out.step hb); replace HOW := hid (HOW.out.step hb); replace P3 := hid (P3.out.step hb); replace P4 := hid (P4.out.step hb); replace PX := hid (PX.out.step hb); replace PW := hid (PW.out.step hb); replace HI := hid (HI.out.step hb); replace HB := hid (below_then HB.out hb); replace HK := hid (below_then HK.out hb)
  clear hb
  rw [HQN.out, HSM.out]
  obtain ⟨y00, y01, y02, y03, y04, y05, y06, y07, yf0⟩ := P4.out.cells8
  go_wp2_with fail
  clear y00 y01 y02 y03 y04 y05 y06 y07 yf0
  refine (spoil14_any W3.heap.size s F.g esn an _ (HSP2.out _ (.below HK.out)) (by have := HK.out.size; have := HL4.out; have := hz3.out; omega)).mono ?_
  rintro e wc ⟨⟨v, rfl⟩, hb⟩
  have HRC := hid (RR.out.from hb (fun i hi => by have := hz3.out; omega)); have P3C := hid (P3.out.below hb (by have := hz3.out; omega)); have PXC := hid (PX.out.below hb (by have := hz3.out; have := HB2.out.size; have := HX0.out; omega))
  have HBC := hid (below_thenL HB.out hb (by have := hz3.out; have := HB2.out.size; have := HX0.out; omega))
  have HIC := hid (HI0.out.step HBC.out)
  clear hb HSP2 HK P3 PX P4 RR HI HB HSP RN HO
  go_upto_region 16 with fail
  have bx := (Below.refl wc.heap.size wc).drew
  replace HRC := hid (HRC.out.step bx); replace P3C := hid (P3C.out.step bx); replace PXC := hid (PXC.out.step bx); replace HIC := hid (HIC.out.step bx); replace HBC := hid (below_then HBC.out bx)
  clear bx
  have hszd := hid (show wc.drew.heap.size = wc.heap.size from rfl)
  refine wp_region_noPanic ?_
  refine wp_region_held_drew (S := (fun W' : World => W'.cell? ⟨w2.heap.size, 0, none⟩ = some (.int .i64 s.1) ∧ W'.cell? ⟨w2.heap.size, 1, none⟩ = some (.slice a.A a.n a.k) ∧ W'.cell? ⟨w2.heap.size, 2, none⟩ = some (.slice a.B a.m a.d) ∧ W'.cell? ⟨w2.heap.size, 3, none⟩ = some (.int .i64 g.dn) ∧ W'.cell? ⟨w2.heap.size, 4, none⟩ = some (.int .i64 g.ak) ∧ W'.cell? ⟨w2.heap.size, 5, none⟩ = some (.bool g.on) ∧ W'.cell? ⟨w2.heap.size, 6, none⟩ = some (.slice a.D g.nd.length a.kd) ∧ W'.cell? ⟨w2.heap.size, 7, none⟩ = some (.slice a.Q a.nq a.kq) ∧ W'.cell? ⟨w.heap.size, 0, none⟩ = some (.int .i64 s0.1) ∧ W'.cell? ⟨w.heap.size, 1, none⟩ = some (.slice a0.A a0.n a0.k) ∧ W'.cell? ⟨w.heap.size, 2, none⟩ = some (.slice a0.B a0.m a0.d) ∧ W'.cell? ⟨w.heap.size, 3, none⟩ = some (.int .i64 g0.dn) ∧ W'.cell? ⟨w.heap.size, 4, none⟩ = some (.int .i64 g0.ak) ∧ W'.cell? ⟨w.heap.size, 5, none⟩ = some (.bool g0.on) ∧ W'.cell? ⟨w.heap.size, 6, none⟩ = some (.slice a0.D g0.nd.length a0.kd) ∧ W'.cell? ⟨w.heap.size, 7, none⟩ = some (.slice a0.Q a0.nq a0.kq))) (by kernel_rfl) ⟨P3C.out.cells8.1, P3C.out.cells8.2.1, P3C.out.cells8.2.2.1, P3C.out.cells8.2.2.2.1, P3C.out.cells8.2.2.2.2.1, P3C.out.cells8.2.2.2.2.2.1, P3C.out.cells8.2.2.2.2.2.2.1, P3C.out.cells8.2.2.2.2.2.2.2.1, PXC.out.cells8.1, PXC.out.cells8.2.1, PXC.out.cells8.2.2.1, PXC.out.cells8.2.2.2.1, PXC.out.cells8.2.2.2.2.1, PXC.out.cells8.2.2.2.2.2.1, PXC.out.cells8.2.2.2.2.2.2.1, PXC.out.cells8.2.2.2.2.2.2.2.1⟩ (fun hS => ?_)
  generalize wc.drew = Wd at *
  refine tk 0 hS ?_
  refine tk 1 hS ?_
  refine rdy [2] (csy (fun K hK => ?_) AllReadyH.nil)
  go_simp
  refine (ownP_any s0 g0 es0 a0 _ HIC.out).mono ?_
  rintro e w16 ⟨a2, es2, rfl, hq2, _, hr2, _, hb⟩
  have hsz0 := hid (show Wd.heap.size ≤ w16.heap.size from hb.size)
  replace HRC := hid (HRC.out.step hb); replace P3C := hid (P3C.out.step hb); replace PXC := hid (PXC.out.step hb); replace HIC := hid (HIC.out.step hb); replace HBC := hid (below_then HBC.out hb)
  clear hb
  have HQ2 := hid hq2; have HR2 := hid hr2.rcr
  clear hq2 hr2
  go_wp2_with fail
  clear hS
  refine ky hK ⟨P3C.out.cells8.1, P3C.out.cells8.2.1, P3C.out.cells8.2.2.1, P3C.out.cells8.2.2.2.1, P3C.out.cells8.2.2.2.2.1, P3C.out.cells8.2.2.2.2.2.1, P3C.out.cells8.2.2.2.2.2.2.1, P3C.out.cells8.2.2.2.2.2.2.2.1, PXC.out.cells8.1, PXC.out.cells8.2.1, PXC.out.cells8.2.2.1, PXC.out.cells8.2.2.2.1, PXC.out.cells8.2.2.2.2.1, PXC.out.cells8.2.2.2.2.2.1, PXC.out.cells8.2.2.2.2.2.2.1, PXC.out.cells8.2.2.2.2.2.2.2.1⟩ fun hS => ?_
  clear hK K
  refine rdy [3] (csy (fun K hK => ?_) AllReadyH.nil)
  go_simp
  refine (rsame14_any s g es a (cutS s0) (cutG g0) es2 a2 _ HRC.out.rcr HR2.out).mono ?_
  rintro e w17 ⟨rfl, hb⟩
  have hsz1 := hid (show w16.heap.size ≤ w17.heap.size from hb.size)
  replace HRC := hid (HRC.out.step hb); replace P3C := hid (P3C.out.step hb); replace PXC := hid (PXC.out.step hb); replace HIC := hid (HIC.out.step hb); replace HR2 := hid (HR2.out.step hb); replace HBC := hid (below_then HBC.out hb)
  clear hb
  go_wp2_with fail
  clear hS
  refine ky hK ⟨P3C.out.cells8.1, P3C.out.cells8.2.1, P3C.out.cells8.2.2.1, P3C.out.cells8.2.2.2.1, P3C.out.cells8.2.2.2.2.1, P3C.out.cells8.2.2.2.2.2.1, P3C.out.cells8.2.2.2.2.2.2.1, P3C.out.cells8.2.2.2.2.2.2.2.1, PXC.out.cells8.1, PXC.out.cells8.2.1, PXC.out.cells8.2.2.1, PXC.out.cells8.2.2.2.1, PXC.out.cells8.2.2.2.2.1, PXC.out.cells8.2.2.2.2.2.1, PXC.out.cells8.2.2.2.2.2.2.1, PXC.out.cells8.2.2.2.2.2.2.2.1⟩ fun hS => ?_
  clear hK K
  refine tk 4 hS ?_
  refine wpAnyH_done (by kernel_rfl) ?_ _
  refine NoPanic.normal ?_
  clear hS
  rw [show sameRc s g (ql es) (cutS s0) (cutG g0) (ql es2) = true by rw [HQ2.out, HQC.out, ← HS.out, ← HG.out]; exact sameRc_refl _ _ _]
  go_wp2_with fail
  go_ret
  exact ⟨rfl, HBC.out⟩
end Go.Proofs.YtfipdoofgbjbjaaGreat

/- What a law is told of all of chapter 14, and of a row of what CPUs do, that came in. No condition. -/
namespace Go.Proofs.YtfipdoofgbjbjaaGreat
open Go.ChangeShapes Go.WideShapes Go.ChangeAt Go.RowKit Go.Joins Go.Deep
theorem i64_wf {a : Int} (hw : Lit.wf (.int .i64 a) = true) : -9223372036854775808 ≤ a ∧ a ≤ 9223372036854775807 := by
  simp only [Lit.wf, IntKind.min, IntKind.max, IntKind.signed, IntKind.bits, Bool.and_eq_true, decide_eq_true_eq, if_true] at hw
  omega
theorem u64_wf {a : Int} (hw : Lit.wf (.int .u64 a) = true) : 0 ≤ a ∧ a ≤ 18446744073709551615 := by
  simp only [Lit.wf, IntKind.min, IntKind.max, IntKind.signed, IntKind.bits, Bool.and_eq_true, decide_eq_true_eq] at hw
  simp at hw
  omega
theorem Sm.toSl {α : Type} {enc : α → Value} {d : α} {w : World} {lo hi : Nat} {A : Option Addr} {n : Nat} {xs : List α} (h : Sm 1 (fun x _ => enc x) d w lo hi A n xs) : Sl enc d w lo hi A n xs :=
  ⟨h.len, fun hn => by
    obtain ⟨b, off, e, h1, h2, h3⟩ := h.row hn
    exact ⟨b, off, e, h1, h2, fun k hk => by have := h3 k hk 0 (by omega); simpa using this⟩⟩
section
variable {H : Type} {enc : TypeId × Value → H} {w : World} {base : Nat} {spare : Nat → Bool} {held : Bool}
theorem open_bools {fuel : Nat} {v : Value} {x : DataW H × List MemPlace} (h : DataW.trod enc Tryz.prog w base spare held fuel 25 [v] = some x) :
    ∃ A n c xs, v = .slice A n c ∧ n ≤ c ∧ c ≤ maxLen ∧ Sl blv false w 0 w.heap.size A n xs := by
  obtain ⟨A, n, c, xs, h1, h2, h3, h4, _⟩ := open_sm Tryz.underlying25 (sz := 1) (by kernel_rfl) (by omega) (fun (x : Bool) _ => blv x) false (fun _ => True) (fun n cs y hy => by
    obtain ⟨a, e0, _⟩ := DataW.trod_bool Tryz.underlying4 hy
    subst e0
    exact ⟨a, trivial, fun j hj => by obtain rfl : j = 0 := by omega
                                      rfl⟩) h
  exact ⟨A, n, c, xs, h1, h2, h3, h4.toSl⟩
set_option maxRecDepth 100000 in
theorem open_readers_el {n : Nat} {cs : List Value} {y : DataW H × List MemPlace} (h : DataW.trod enc Tryz.prog w base spare held n 24 cs = some y) :
    ∃ (now : Int) (A : Option Addr) (n c : Nat) (B : Option Addr) (m d : Nat) (xs ys : List Int), cs = [.int .i64 now, .slice A n c, .slice B m d] ∧ n ≤ c ∧ m ≤ d ∧ Sl i64 0 w 0 w.heap.size A n xs ∧ Sl i64 0 w 0 w.heap.size B m ys := by
  obtain ⟨xs, k, _, _, hlen, hl, hf⟩ := DataW.trod_struct Tryz.underlying24 h
  rw [show Tryz.prog.cellsOf 24 = 3 by kernel_rfl] at hlen
  match xs, hl, cs, hlen with
  | [y0, y1, y2], _, [v0, v1, v2], _ =>
    have c1 : Tryz.prog.cellsOf 3 = 1 := by kernel_rfl
    have c2 : Tryz.prog.cellsOf 22 = 1 := by kernel_rfl
    have h0 := hf 0 _ rfl
    have h1 := hf 1 _ rfl
    have h2 := hf 2 _ rfl
    simp [c1, c2] at h0 h1 h2
    obtain ⟨a0, e0, _⟩ := DataW.trod_int Tryz.underlying3 h0
    simp only [List.cons.injEq, and_true] at e0
    subst e0
    obtain ⟨A, n, c, xs, rfl, g3, g4, g5, _⟩ := open_islice h1
    obtain ⟨B, m, d, ys, rfl, g6, g7, g8, _⟩ := open_islice h2
    exact ⟨a0, A, n, c, B, m, d, xs, ys, rfl, g3, g6, g5, g8⟩
set_option maxRecDepth 100000 in
theorem open_grace_el {n : Nat} {cs : List Value} {y : DataW H × List MemPlace} (h : DataW.trod enc Tryz.prog w base spare held n 27 cs = some y) :
    ∃ (g : Gr) (D : Option Addr) (kd : Nat), cs = [.int .i64 g.dn, .int .i64 g.ak, .bool g.on, .slice D g.nd.length kd] ∧ g.nd.length ≤ kd ∧ Sl blv false w 0 w.heap.size D g.nd.length g.nd ∧ g.dn ≤ 9223372036854775807 ∧ g.ak ≤ 9223372036854775807 := by
  obtain ⟨xs, k, _, _, hlen, hl, hf⟩ := DataW.trod_struct Tryz.underlying27 h
  rw [show Tryz.prog.cellsOf 27 = 4 by kernel_rfl] at hlen
  match xs, hl, cs, hlen with
  | [y0, y1, y2, y3], _, [v0, v1, v2, v3], _ =>
    have c1 : Tryz.prog.cellsOf 3 = 1 := by kernel_rfl
    have c2 : Tryz.prog.cellsOf 4 = 1 := by kernel_rfl
    have c3 : Tryz.prog.cellsOf 25 = 1 := by kernel_rfl
    have h0 := hf 0 _ rfl
    have h1 := hf 1 _ rfl
    have h2 := hf 2 _ rfl
    have h3 := hf 3 _ rfl
    simp [c1, c2, c3] at h0 h1 h2 h3
    obtain ⟨a0, e0, _, k0⟩ := DataW.trod_int Tryz.underlying3 h0
    obtain ⟨a1, e1, _, k1⟩ := DataW.trod_int Tryz.underlying3 h1
    obtain ⟨b, e2, _⟩ := DataW.trod_bool Tryz.underlying4 h2
    simp only [List.cons.injEq, and_true] at e0 e1 e2
    subst e0 e1 e2
    obtain ⟨A, n, c, ys, rfl, g3, g4, g5⟩ := open_bools h3
    obtain rfl : ys.length = n := g5.len
    exact ⟨⟨ys, a0, a1, b⟩, A, c, rfl, g3, g5, (i64_wf k0).2, (i64_wf k1).2⟩
set_option maxRecDepth 100000 in
theorem open_cb_el {n : Nat} {cs : List Value} {y : DataW H × List MemPlace} (h : DataW.trod enc Tryz.prog w base spare held n 60 cs = some y) : ∃ x : Cb, True ∧ ∀ j, j < 2 → cs[j]? = some (encC x j) := by
  obtain ⟨xs, k, _, _, hlen, hl, hf⟩ := DataW.trod_struct Tryz.underlying60 h
  rw [show Tryz.prog.cellsOf 60 = 2 by kernel_rfl] at hlen
  match xs, hl, cs, hlen with
  | [y0, y1], _, [v0, v1], _ =>
    have c2 : Tryz.prog.cellsOf 35 = 1 := by kernel_rfl
    have g0 := hf 0 _ rfl
    have g1 := hf 1 _ rfl
    simp [c2] at g0 g1
    obtain ⟨a0, e0, _⟩ := DataW.trod_int Tryz.underlying35 g0
    obtain ⟨a1, e1, _⟩ := DataW.trod_int Tryz.underlying35 g1
    simp only [List.cons.injEq, and_true] at e0 e1
    subst e0 e1
    refine ⟨(a0, a1), trivial, fun j hj => ?_⟩
    match j, hj with
    | 0, _ => rfl
    | 1, _ => rfl
/-- a queue of a row that came in -/
def QeIn (w : World) (x : Qe) : Prop := Sm 2 encC (0, 0) w 0 w.heap.size x.A x.n x.l ∧ x.n ≤ x.c ∧ 0 ≤ x.o ∧ x.o ≤ 18446744073709551615
set_option maxRecDepth 100000 in
theorem open_qe_el {n : Nat} {cs : List Value} {y : DataW H × List MemPlace} (h : DataW.trod enc Tryz.prog w base spare held n 58 cs = some y) : ∃ x : Qe, QeIn w x ∧ ∀ j, j < 2 → cs[j]? = some (encQ x j) := by
  obtain ⟨xs, k, _, _, hlen, hl, hf⟩ := DataW.trod_struct Tryz.underlying58 h
  rw [show Tryz.prog.cellsOf 58 = 2 by kernel_rfl] at hlen
  match xs, hl, cs, hlen with
  | [y0, y1], _, [v0, v1], _ =>
    have c1 : Tryz.prog.cellsOf 56 = 1 := by kernel_rfl
    have c2 : Tryz.prog.cellsOf 35 = 1 := by kernel_rfl
    have h0 := hf 0 _ rfl
    have h1 := hf 1 _ rfl
    simp [c1, c2] at h0 h1
    obtain ⟨A, n, c, xs, rfl, h3, h4, h5, _⟩ := open_sm Tryz.underlying56 (sz := 2) (by kernel_rfl) (by omega) encC (0, 0) _ (fun n cs' y => open_cb_el) h0
    obtain ⟨o, e1, _, k1⟩ := DataW.trod_int Tryz.underlying35 h1
    simp only [List.cons.injEq, and_true] at e1
    subst e1
    refine ⟨⟨xs, o, A, n, c⟩, ⟨h5, h3, (u64_wf k1).1, (u64_wf k1).2⟩, fun j hj => ?_⟩
    match j, hj with
    | 0, _ => rfl
    | 1, _ => rfl
theorem array8_ {α : Type} {cs : Array α} (h : cs.size = 8) : ∃ c0 c1 c2 c3 c4 c5 c6 c7, cs = #[c0, c1, c2, c3, c4, c5, c6, c7] := by
  obtain ⟨l⟩ := cs
  match l, h with
  | [c0, c1, c2, c3, c4, c5, c6, c7], _ => exact ⟨c0, c1, c2, c3, c4, c5, c6, c7, rfl⟩
set_option maxRecDepth 100000 in
theorem open_rcu {r : Reach} {b0 : Nat} {v : Value} {d : DataW H} {p : List MemPlace}
    (hv : Value.okWide Tryz.prog w r b0 30 v) (h : DataW.Trod enc Tryz.prog w base spare held 30 v d p) :
    ∃ (s : St) (g : Gr) (es : List Qe) (a : Ra), v = rcv s g a ∧ RcIn w s g es a := by
  obtain ⟨cs, rfl, hsz⟩ := okWide_struct Tryz.underlying30 hv
  obtain ⟨c0, c1, c2, c3, c4, c5, c6, c7, rfl⟩ := array8_ (hsz.trans (by kernel_rfl))
  obtain ⟨fuel, hf⟩ := h
  obtain ⟨zs, n, _, _, _, hlen, hff⟩ := DataW.trod_struct Tryz.underlying30 hf
  match zs, hlen with
  | [y0, y1, y2], _ =>
    have k1 : Tryz.prog.cellsOf 24 = 3 := by kernel_rfl
    have k2 : Tryz.prog.cellsOf 27 = 4 := by kernel_rfl
    have k3 : Tryz.prog.cellsOf 28 = 1 := by kernel_rfl
    have h0 := hff 0 _ rfl
    have h1 := hff 1 _ rfl
    have h2 := hff 2 _ rfl
    simp [k1, k2, k3, Value.cells] at h0 h1 h2
    obtain ⟨now, A, n, c, B, m, d, xs, ys, e1, g1, g2, g3, g4⟩ := open_readers_el h0
    obtain ⟨g, D, kd, e2, g5, g6, g7⟩ := open_grace_el h1
    obtain ⟨Q, nq, kq, es, rfl, g8, _, g9, g10⟩ := open_sm Tryz.underlying28 (sz := 2) (by kernel_rfl) (by omega) encQ zQe (QeIn w) (fun n cs' y => open_qe_el) h2
    simp only [List.cons.injEq, and_true] at e1 e2
    obtain ⟨rfl, rfl, rfl⟩ := e1
    obtain ⟨rfl, rfl, rfl, rfl⟩ := e2
    exact ⟨(now, xs, ys), g, es, ⟨A, n, c, B, m, d, D, kd, Q, nq, kq⟩, rfl, ⟨g3, g1, g4, g2, g6, g5, g7, g9, g8, g10⟩⟩
def OpOk (x : Int × Int × Int) : Prop := (-9223372036854775808 ≤ x.1 ∧ x.1 ≤ 9223372036854775807) ∧ (-9223372036854775808 ≤ x.2.1 ∧ x.2.1 ≤ 9223372036854775807) ∧ (0 ≤ x.2.2 ∧ x.2.2 ≤ 18446744073709551615)
end
end Go.Proofs.YtfipdoofgbjbjaaGreat
