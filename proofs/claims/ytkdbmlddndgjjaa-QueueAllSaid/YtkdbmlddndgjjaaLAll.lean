/- afterglowlaw13.QueueAll. -/
import Derived.Test.YtkdbmlddndgjjaaQj3
import Derived.Test.YtkdbmlddndgjjaaQm
import Derived.Test.YtkdbmlddndgjjaaLTakes
import Derived.Deep.DeepCutAuto
import Derived.Deep.CutBlock
import Derived.BigQuiet
import Derived.Test.YtkdbmlddndgjjaaKitW
namespace Go.Proofs.Ytkdbmlddndgjjaa
open Go.RowKit
theorem doneN_all {o : Int} {l : List Cb} (h : ∀ k, k < l.length → perAt l k ≤ o) : doneN o l = l.length := by
  have h1 := doneN_le o l
  by_cases h2 : doneN o l < l.length
  · exact absurd ⟨h2, h _ h2⟩ (doneN_stop (o := o) (xs := l))
  · omega
theorem seg_all {o : Int} {l : List Cb} (h : ∀ k, k < l.length → perAt l k ≤ o) : seg0 o l = l.length ∧ seg1 o l = 0 := by
  have h0 : seg0 o l = l.length := by
    unfold seg0
    rw [List.countP_eq_length]
    intro x hx
    obtain ⟨k, hk, rfl⟩ := List.mem_iff_getElem.1 hx
    have := h k hk
    have h4 : perAt l k = (l[k]).1 := by show (l[k]?.getD (0, 0)).1 = _; rw [List.getElem?_eq_getElem hk]; rfl
    simpa [h4] using this
  have := seg_le o l
  exact ⟨h0, by omega⟩
theorem perAt_drop (l : List Cb) (k i : Nat) : perAt (l.drop k) i = perAt l (k + i) := by unfold perAt; rw [List.getElem?_drop]
theorem QGood.drop {o : Int} {l : List Cb} (h : QGood o l) (k : Nat) : QGood o (l.drop k) := by
  refine ⟨h.1, by rw [List.length_drop]; have := h.2.1; omega, fun i hi h1 => ?_, fun i hi => ?_⟩
  · rw [List.length_drop] at hi
    rw [perAt_drop, perAt_drop, show k + (i - 1) = (k + i) - 1 by omega]
    exact h.2.2.1 (k + i) (by omega) (by omega)
  · rw [List.length_drop] at hi
    rw [perAt_drop]
    exact h.2.2.2 (k + i) (by omega)
/-- what a row gives that is done as a whole -/
theorem drainF_all {o : Int} {l : List Cb} {a : Int} (hg : QGood o l) (h : ∀ k, k < l.length → perAt l k ≤ o) (ha : 0 ≤ a) : drainF o l a = (o, l.drop (min l.length a.toNat), (l.take (min l.length a.toNat)).map (·.2), 0) := by
  rw [drainF, if_neg (not_not_intro hg), if_neg (by omega), doneN_all h]
/-- the rounds over the parts -/
structure AlI (Wb : World) (base g15 : Nat) (o : Int) (ys : List Cb) (W : World) (k : Nat) (S : Option Addr) (cs : Nat) (D : Option Addr) (nd cd : Nat) : Prop where
  box : Blk W g15 25 (qcs D nd cd o)
  q : Qown W 0 D nd (ys.drop k)
  nc : nd ≤ cd
  some : Ow u64v W base 23 S k cs ((ys.take k).map (·.2))
  be : Below Wb.heap.size Wb W
  size : base ≤ W.heap.size
theorem AlI.step {Wb W W' : World} {base g15 : Nat} {o : Int} {ys : List Cb} {k : Nat} {S : Option Addr} {cs : Nat} {D : Option Addr} {nd cd : Nat} (h : AlI Wb base g15 o ys W k S cs D nd cd) (hb : Below W.heap.size W W') : AlI Wb base g15 o ys W' k S cs D nd cd :=
  ⟨h.box.step hb, h.q.step hb, h.nc, h.some.step hb, below_then h.be hb, Nat.le_trans h.size hb.size⟩
def AlMid (Wb : World) (base g15 : Nat) (o : Int) (ys : List Cb) (s14 : Value) (W : World) : Prop :=
  ∃ k S cs D nd cd, s14 = .slice S k cs ∧ AlI Wb base g15 o ys W k S cs D nd cd
set_option maxRecDepth 100000 in
set_option maxHeartbeats 16000000 in
theorem qall_any (A : Option Addr) (n c : Nat) (o : Int) (xs : List Cb) (L : Option Addr) (nl cl : Nat) (ns : List Int) (w : World) (hx : Sm 2 encC (0, 0) w 0 w.heap.size A n xs) (hnc : n ≤ c) (h0 : 0 ≤ o)
    (hw : Sl i64 0 w 0 w.heap.size L nl ns) (hnl : nl ≤ 9223372036854775807) (hns : ∀ x ∈ ns, -9223372036854775808 ≤ x ∧ x ≤ 9223372036854775807) :
    Calls Try.prog 6 #[qv A n c o, .slice L nl cl] w fun e w' => e = .returned (.bool true) ∧ Below w.heap.size w w' := by
  have HX := hid hx; have HW := hid hw; have HNS := hid hns; have HB := hid (Below.refl w.heap.size w)
  clear hx hw hns
  have bx := below_box w (.cells (qcs A n c o) 25)
  replace HX := hid (HX.out.step bx); replace HW := hid (HW.out.step bx); replace HB := hid (below_then HB.out bx)
  clear bx
  have P2 := hid (Blk.new w 25 (qcs A n c o))
  go_enter Try.func6, Try.ntmps6
  go_wp2_with fail
  generalize w.alloc (.cells (qcs A n c o) 25) = W0 at *
  refine (qwakes_any W0).mono ?_
  rintro e w1 ⟨rfl, hb⟩
  replace HX := hid (HX.out.step hb); replace HW := hid (HW.out.step hb); replace P2 := hid (P2.out.step hb); replace HB := hid (below_then HB.out hb)
  clear hb
  obtain ⟨y00, y01, yf0⟩ := P2.out.cells2
  go_wp2_with fail
  clear y00 y01 yf0
  refine (qown_any A n c o xs w1 HX.out hnc).mono ?_
  rintro e w2 ⟨A2, n2, c2, rfl, hn2, ho, hb⟩
  replace HX := hid (HX.out.step hb); replace HW := hid (HW.out.step hb); replace P2 := hid (P2.out.step hb); replace HB := hid (below_then HB.out hb)
  have hnc2 := ho.cap.1
  have O2 := hid (Qown.ofOm ho)
  clear ho hb
  clear HX P2
  obtain ⟨ys, hys⟩ : ∃ ys, ys = xs.take 20 := ⟨_, rfl⟩
  rw [← hys] at O2
  clear hys
  have hyl := hid O2.out.sm.len
  have bx := below_box w2 (.cells (qcs A2 n2 c2 o) 25)
  replace HW := hid (HW.out.step bx); replace O2 := hid (O2.out.step bx); replace HB := hid (below_then HB.out bx)
  clear bx
  have P5 := hid (Blk.new w2 25 (qcs A2 n2 c2 o))
  obtain ⟨y00, y01, yf0⟩ := P5.out.cells2
  go_wp2_with fail
  clear y00 y01 yf0
  generalize w2.alloc (.cells (qcs A2 n2 c2 o) 25) = W2 at *
  have HC := hid (show qcheckC o ys = if QGood o ys then 0 else 230 from rfl)
  refine (qcheck_any A2 n2 c2 o ys W2 (O2.out.sm.mono (Nat.zero_le _) (Nat.le_refl _)) (by omega) h0).mono ?_
  rintro e w3 ⟨rfl, hb⟩
  replace HW := hid (HW.out.step hb); replace O2 := hid (O2.out.step hb); replace P5 := hid (P5.out.step hb); replace HB := hid (below_then HB.out hb)
  clear hb
  by_cases hg : QGood o ys
  · have e0 : qcheckC o ys = 0 := by rw [HC.out, if_pos hg]
    rw [e0]
    have HG := hid hg
    clear e0 HC hg
    by_cases hbig : 4611686018427387904 < o
    · skip
      obtain ⟨y00, y01, yf0⟩ := P5.out.cells2
      go_wp2
      refine bodyPost_ret (v := .bool true) (by simp [results, Try.results6, go_sem]) rfl ⟨rfl, HB.out⟩
    · have hw2 : IntKind.u64.wrap (o + 2) = o + 2 := by rw [IntKind.wrap_u64]; omega
      have HP := hid (show ∀ k, k < ys.length → perAt ys k ≤ o + 2 from HG.out.2.2.2)
      have HG2 := hid (show QGood (o + 2) ys from ⟨by omega, HG.out.2.1, HG.out.2.2.1, fun k hk => by have := HG.out.2.2.2 k hk; omega⟩)
      have hn16 : n2 ≤ 16 := by have := HG.out.2.1; have := hyl.out; omega
      obtain ⟨y00, y01, yf0⟩ := P5.out.cells2
      go_wp2_with fail
      clear y00 y01 yf0 hw2
      refine (qend_any A2 n2 c2 o ys (o + 2) w3 (O2.out.sm.mono (Nat.zero_le _) (Nat.le_refl _)) (by omega) h0).mono ?_
      rintro e w6 ⟨A6, n6, c6, rfl, o6, hb, hnc6⟩
      rw [show endF o ys (o + 2) = (o + 2, ys, 0) by rw [endF, if_neg (not_not_intro HG.out), if_neg (by omega)]] at o6 ⊢
      dsimp only at o6 ⊢
      have hn6 : n6 = n2 := by have := o6.sm.len; have := hyl.out; omega
      subst hn6
      replace HW := hid (HW.out.step hb); replace O2 := hid (O2.out.step hb); replace P5 := hid (P5.out.step hb); replace HB := hid (below_then HB.out hb)
      have O6 := hid o6
      clear o6 hb
      have bx := below_box w6 (.cells (qcs A6 n6 c6 (o + 2)) 25)
      replace HW := hid (HW.out.step bx); replace O2 := hid (O2.out.step bx); replace P5 := hid (P5.out.step bx); replace O6 := hid (O6.out.step bx); replace HB := hid (below_then HB.out bx)
      clear bx
      have P6 := hid (Blk.new w6 25 (qcs A6 n6 c6 (o + 2)))
      obtain ⟨y00, y01, yf0⟩ := P6.out.cells2
      go_wp2_with fail
      clear y00 y01 yf0
      generalize w6.alloc (.cells (qcs A6 n6 c6 (o + 2)) 25) = W6 at *
      have hsg := seg_all HP.out
      refine (qsegs_any A6 n6 c6 (o + 2) ys W6 (O6.out.sm.mono (Nat.zero_le _) (Nat.le_refl _)) (by omega) (by omega) hnc6).mono ?_
      rintro e w7 ⟨rfl, hb⟩
      rw [show segF (o + 2) ys = ((n6 : Int), 0, 0) by rw [segF, if_pos HG2.out, hsg.1, hsg.2, hyl.out]; simp]
      dsimp only
      replace HW := hid (HW.out.step hb); replace O2 := hid (O2.out.step hb); replace P5 := hid (P5.out.step hb); replace O6 := hid (O6.out.step hb); replace P6 := hid (P6.out.step hb); replace HB := hid (below_then HB.out hb)
      clear hb hsg
      have bx := below_box w7 (.cells #[.int .i64 n6, .int .i64 0, .int .i64 0] 48)
      replace HW := hid (HW.out.step bx); replace O2 := hid (O2.out.step bx); replace P5 := hid (P5.out.step bx); replace O6 := hid (O6.out.step bx); replace P6 := hid (P6.out.step bx); replace HB := hid (below_then HB.out bx)
      clear bx
      have P8 := hid (Blk.new w7 48 #[.int .i64 n6, .int .i64 0, .int .i64 0])
      obtain ⟨y00, y01, yf0⟩ := P6.out.cells2
      obtain ⟨y10, y11, yf1⟩ := P5.out.cells2
      go_wp2_with fail
      clear y00 y01 yf0 y10 y11 yf1
      generalize w7.alloc (.cells #[.int .i64 n6, .int .i64 0, .int .i64 0] 48) = W7 at *
      refine (drain_any A6 n6 c6 (o + 2) ys n6 W7 (O6.out.sm.mono (Nat.zero_le _) (Nat.le_refl _)) (by omega) (by omega)).mono ?_
      rintro e w9 ⟨A9, n9, c9, B9, m9, d9, rfl, o9, b9, hb, hnc9⟩
      rw [drainF_all HG2.out HP.out (by omega), show min ys.length (n6 : Int).toNat = ys.length by have := hyl.out; omega, List.drop_length, List.take_length] at o9 b9 ⊢
      dsimp only at o9 b9 ⊢
      have hn9 : n9 = 0 := by have := o9.sm.len; simp at this; omega
      have hm9 : m9 = n6 := by have := b9.len; simp at this; have := hyl.out; omega
      subst hn9 hm9
      replace HW := hid (HW.out.step hb); replace O2 := hid (O2.out.step hb); replace P5 := hid (P5.out.step hb); replace O6 := hid (O6.out.step hb); replace P6 := hid (P6.out.step hb); replace P8 := hid (P8.out.step hb); replace HB := hid (below_then HB.out hb)
      have B9' := hid b9
      clear b9 o9 hb
      have bx := below_box w9 (.cells (qcs A9 0 c9 (o + 2)) 25)
      replace HW := hid (HW.out.step bx); replace O2 := hid (O2.out.step bx); replace P5 := hid (P5.out.step bx); replace O6 := hid (O6.out.step bx); replace P6 := hid (P6.out.step bx); replace P8 := hid (P8.out.step bx); replace B9' := hid (B9'.out.step bx); replace HB := hid (below_then HB.out bx)
      clear bx
      have P9 := hid (Blk.new w9 25 (qcs A9 0 c9 (o + 2)))
      have hnt := neq_tri m9 0 0 m9 0 0
      obtain ⟨y00, y01, yf0⟩ := P5.out.cells2
      obtain ⟨y10, y11, y12, yf1⟩ := P8.out.cells3
      obtain ⟨y20, y21, yf2⟩ := P9.out.cells2
      go_upto_region 11 with fail
      clear hnt y00 y01 yf0 y10 y11 y12 yf1 y20 y21 yf2
      clear P8 P9
      generalize w9.alloc (.cells (qcs A9 0 c9 (o + 2)) 25) = W9 at *
      obtain ⟨y00, y01, yf0⟩ := P5.out.cells2
      go_wp2_with fail
      clear y00 y01 yf0
      have XW := HW; have X2 := O2; have X5 := P5; have X6 := P6; have XO := O6; have X9 := B9'; have XB := HB; have H0 := hid (Below.refl W9.heap.size W9)
      go_loopw [90] (fun i wr => ∃ j : Nat, j ≤ m9 ∧ i = .int .i64 j ∧ Below W9.heap.size W9 wr) (fun i _ => m9 - (intOf i).toNat)
      case atStart => exact ⟨0, Nat.zero_le _, rfl, H0.out⟩
      case round =>
        clear HW O2 P5 P6 O6 B9' HB H0
        obtain ⟨j, hj, rfl, hbr⟩ := hrel
        have HW := hid (XW.out.step hbr); have O2 := hid (X2.out.step hbr); have P5 := hid (X5.out.step hbr); have P6 := hid (X6.out.step hbr); have O6 := hid (XO.out.step hbr); have B9' := hid (X9.out.step hbr); have HB := hid (below_then XB.out hbr); have HBr := hid hbr
        clear hbr
        by_cases hjn : j < m9
        · obtain ⟨b, off, rfl, _, hbh, hc⟩ := O2.out.sm.row (by omega)
          obtain ⟨f0, f1⟩ := Sm.cb (lo := 0) (hi := wr.heap.size) hc hjn
          obtain ⟨⟨v0, v1⟩, hx⟩ : ∃ x, x = ys[j]?.getD (0, 0) := ⟨_, rfl⟩
          rw [← hx] at f0 f1
          obtain ⟨b9, off9, rfl, _, hb9h, hc9⟩ := (B9'.out.sl (d := (0 : Int))).row (by omega)
          have f2 := hc9 j hjn
          have hx2 : (ys.map (·.2))[j]?.getD 0 = v1 := by
            rw [List.getElem?_map]
            rw [List.getElem?_eq_getElem (by rw [hyl.out]; exact hjn)] at hx ⊢
            simp at hx ⊢
            rw [← hx]
          rw [hx2] at f2
          have hjc : (j : Int) < (m9 : Int) := by omega
          clear hx hc hc9 hx2
          go_upto_region 14 with fail
          have bx := below_box wr (.cells #[.int .u64 v0, .int .u64 v1] 53)
          replace HW := hid (HW.out.step bx); replace O2 := hid (O2.out.step bx); replace P5 := hid (P5.out.step bx); replace P6 := hid (P6.out.step bx); replace O6 := hid (O6.out.step bx); replace B9' := hid (B9'.out.step bx); replace HB := hid (below_then HB.out bx); replace HBr := hid (below_then HBr.out bx)
          clear bx
          have P13 := hid (Blk.new wr 53 #[.int .u64 v0, .int .u64 v1])
          have f2' := (below_box wr (.cells #[.int .u64 v0, .int .u64 v1] 53)).cell (p := ⟨b9, off9 + j, none⟩) hb9h
          rw [f2] at f2'
          clear f0 f1 f2
          generalize wr.alloc (.cells #[.int .u64 v0, .int .u64 v1] 53) = W13 at *
          obtain ⟨y0, y1, yf⟩ := P13.out.cells2
          go_quiet (fail)
          clear y0 y1 yf f2'
          go_wp2
          go_roundw
          case rel => exact ⟨j + 1, by omega, by go_num, below_drewN HBr.out _⟩
          case measure => simp [intOf]; omega
        · obtain rfl : j = m9 := by omega
          clear hjn HBr XW X2 X5 X6 XO X9 XB
          obtain ⟨y00, y01, yf0⟩ := P6.out.cells2
          go_upto_block 2 with fail
          clear y00 y01 yf0
          have hob := hid (show o ≤ 4611686018427387904 by omega)
          generalize decide (4611686018427387904 < o) = bD
          clear hbig P6
          have XW := HW; have XO2 := O2; have X5 := P5; have XO6 := O6; have X9 := B9'; have XB := HB; have HWb := hid (Below.refl wr.heap.size wr)
          clear HW O2 P5 B9' HB
          have bx := below_box wr (.cells (qcs A6 j c6 (o + 2)) 25)
          replace O6 := hid (O6.out.step bx); replace HWb := hid (below_then HWb.out bx)
          clear bx
          have P15 := hid (Blk.new wr 25 (qcs A6 j c6 (o + 2)))
          have hs18 := hid (show (wr.alloc (.cells (qcs A6 j c6 (o + 2)) 25)).heap.size = wr.heap.size + 1 by simp)
          generalize wr.alloc (.cells (qcs A6 j c6 (o + 2)) 25) = W18 at *
          have h15 := hid (show wr.heap.size < W18.heap.size by have := hs18.out; omega)
          have T0 := hid (show AlI wr W18.heap.size wr.heap.size (o + 2) ys W18 0 none 0 A6 j c6 from ⟨P15.out, O6.out.mono (Nat.zero_le _), hnc6, Ow.nil _ _ _, HWb.out, Nat.le_refl _⟩)
          clear P15 O6 HWb hs18
          go_cut [14] (fun s14 wx => AlMid wr W18.heap.size wr.heap.size (o + 2) ys s14 wx)
          case first =>
            go_wp2_with fail
            go_loopw [14, 106] (fun s14 i wz => ∃ (i2 k cs nd cd : Nat) (S D : Option Addr), i2 ≤ nl ∧ i = .int .i64 i2 ∧ s14 = .slice S k cs ∧ AlI wr W18.heap.size wr.heap.size (o + 2) ys wz k S cs D nd cd) (fun _ i _ => nl - (intOf i).toNat)
            case atStart => exact ⟨0, 0, 0, j, c6, none, A6, Nat.zero_le _, rfl, rfl, T0.out⟩
            case round =>
              clear T0
              obtain ⟨i2, k, cs, nd, cd, S, D, hi2, rfl, rfl, t⟩ := hrel
              rename World => wz
              have HT := hid t; have HWz := hid (XW.out.step t.be)
              have hnd := hid t.q.sm.len; have hkl := hid t.some.len
              clear t
              by_cases hil : i2 < nl
              · obtain ⟨b, off, rfl, _, hbh, hc⟩ := HWz.out.row (by omega)
                have f0 := hc i2 hil
                by_cases hi8 : i2 = 8
                · have hi8b : ((i2 : Int) == 8) = true := by simp; omega
                  subst hi8
                  simp only [show ((8 : Nat) : Int) = 8 from rfl] at *
                  have h8n : (8 : Int) < (nl : Int) := by omega
                  clear hc
                  go_wp2
                  go_meet
                  exact ⟨k, S, cs, D, nd, cd, rfl, HT.out⟩
                · have hi8b : ((i2 : Int) == 8) = false := by simp; omega
                  obtain ⟨x, hxx⟩ : ∃ x, x = ns[i2]?.getD 0 := ⟨_, rfl⟩
                  have hwl := HWz.out.len
                  have hxb := HNS.out x (by rw [hxx, List.getElem?_eq_getElem (by omega)]; exact List.getElem_mem _)
                  rw [← hxx] at f0
                  clear hc hxx hwl
                  obtain ⟨y00, y01, yf0⟩ := (HT.out.box).cells2
                  go_wp2_with fail
                  clear f0 y00 y01 yf0
                  generalize hA : wrap64 ((IntKind.u64.wrap x).tmod 5) = a
                  have ha : 0 ≤ a ∧ a ≤ 4 := by
                    have hu0 : 0 ≤ IntKind.u64.wrap x := by rw [IntKind.wrap_u64]; omega
                    rw [← hA, Int.tmod_eq_emod_of_nonneg hu0]
                    unfold wrap64
                    omega
                  have hPk : ∀ i, i < (ys.drop k).length → perAt (ys.drop k) i ≤ o + 2 := fun i hi => by
                    rw [perAt_drop]
                    rw [List.length_drop] at hi
                    exact HP.out (k + i) (by omega)
                  have hk16 : k ≤ 16 := by have := hkl.out; rw [List.length_map, List.length_take] at this; have := hyl.out; omega
                  have hnd16 : nd ≤ 16 := by have := hnd.out; rw [List.length_drop] at this; have := hyl.out; omega
                  have hsz := hid HT.out.size
                  have hSb := hid (show ∀ r, (Value.slice S k cs).ownBlock = some r → W18.heap.size ≤ r ∧ r < wz.heap.size from fun r hr => HT.out.some.own.lt r hr)
                  refine (drain_any D nd cd (o + 2) (ys.drop k) a wz (HT.out.q.sm.mono (Nat.le_refl _) (Nat.le_refl _)) (by omega) (by omega)).mono ?_
                  rintro e w8 ⟨A8, n8, c8, B8, m8, d8, rfl, o8, b8, hb, hnc8⟩
                  rw [drainF_all (HG2.out.drop k) hPk ha.1] at o8 b8 ⊢
                  obtain ⟨t, ht⟩ : ∃ t, t = min (ys.drop k).length a.toNat := ⟨_, rfl⟩
                  rw [← ht] at o8 b8
                  dsimp only at o8 b8 ⊢
                  have hm8 : m8 = t := by have := b8.len; rw [List.length_map, List.length_take] at this; omega
                  subst hm8
                  have hma : ¬ a < (m8 : Int) := by omega
                  have hm4 : m8 ≤ 4 := by omega
                  have Q8 := hid o8; have L8 := hid b8; have hs8 := hid hb.size
                  clear ht o8 b8 hPk
                  replace HT := hid (HT.out.step hb)
                  clear hb
                  have bx := below_box w8 (.cells (qcs A8 n8 c8 (o + 2)) 25)
                  replace HT := hid (HT.out.step bx); replace Q8 := hid (Q8.out.step bx); replace L8 := hid (L8.out.step bx)
                  clear bx
                  have P18 := hid (Blk.new w8 25 (qcs A8 n8 c8 (o + 2)))
                  go_upto_region 26 with fail
                  clear hA hma
                  generalize w8.alloc (.cells (qcs A8 n8 c8 (o + 2)) 25) = W19 at *
                  obtain ⟨i0, hi0, hz00, hz01, hz02⟩ := info_parts info_u64
                  go_wp2_with (at_builtin; refine wpList_app u64v 0 _ rfl _ _ 26 rfl W18.heap.size 23 i0 _ 8 Try.underlying26 hi0 hz00 hz01 hz02 rfl S k cs _ rfl HT.out.some wz.heap.size W19.heap.size B8 m8 d8 _ rfl (L8.out.sl (d := (0 : Int))) (fun _ => rfl) (by simp only [maxLen]; omega) (by omega) HT.out.size ?_; intro S' cs' w10 own10 hg10 hat10; have P18b := hid (P18.out.grown hg10 (fun e => by have := (hSb.out _ e.symm).2; have := hs8.out; omega)); have P15b := hid (HT.out.box.grown hg10 (fun e => by have := (hSb.out _ e.symm).1; have := h15.out; omega)); obtain ⟨u0, u1, uf⟩ := P18b.out.cells2; obtain ⟨v0, v1, vf⟩ := P15b.out.cells2; have OWN := hid own10; have HGR := hid hg10; clear own10 hg10 hat10)
                  clear u0 u1 uf v0 v1 vf hi0 hz00 hz01 hz02
                  have hcon : ∀ (l : List Cb), (l.take k).map (·.2) ++ ((l.drop k).take m8).map (·.2) = (l.take (k + m8)).map (·.2) := fun l => by rw [← List.map_append, List.take_add]
                  have OWN2 := OWN.out
                  rw [hcon ys] at OWN2
                  have Q9 := Q8.out.kept HGR.out (fun r hr => (hSb.out r hr).2)
                  rw [List.drop_drop] at Q9
                  have OWN3 := hid OWN2; have Q10 := hid Q9
                  clear OWN2 Q9 hcon
                  go_roundw
                  case rel => exact ⟨i2 + 1, k + m8, cs', n8, c8, S', A8, by omega, by go_num, rfl, ⟨(P15b.out.setCell 0 _).setCell 1 _, ((Q10.out.setCell (p := ⟨wr.heap.size, 0, none⟩) (by have := hsz.out; have := h15.out; show wr.heap.size < wz.heap.size; omega) _).setCell (p := ⟨wr.heap.size, 1, none⟩) (by have := hsz.out; have := h15.out; show wr.heap.size < wz.heap.size; omega) _).mono (Nat.zero_le _), hnc8, (OWN3.out.setCell (p := ⟨wr.heap.size, 0, none⟩) h15.out _).setCell (p := ⟨wr.heap.size, 1, none⟩) h15.out _, ((HT.out.be.grown HGR.out (by have := HT.out.be.size; omega) (fun r hr => by have := (hSb.out r hr).1; have := h15.out; omega)).setCell (Nat.le_refl _) _).setCell (Nat.le_refl _) _, by have := HGR.out.size; have := HT.out.size; simp; omega⟩⟩
                  case measure => simp [intOf] <;> omega
              · obtain rfl : i2 = nl := by omega
                go_wp2
                go_meet
                exact ⟨k, S, cs, D, nd, cd, rfl, HT.out⟩
          case rest =>
            obtain ⟨k, S, cs, D, nd, cd, rfl, t⟩ := hcut
            rename World => We
            have HT := hid t; have HWe := hid t.be
            have hkl := hid t.some.len; have hnd := hid t.q.sm.len
            clear t T0
            have hk16 : k ≤ 16 := by have := hkl.out; rw [List.length_map, List.length_take] at this; have := hyl.out; omega
            have hnd16 : nd ≤ 16 := by have := hnd.out; rw [List.length_drop] at this; have := hyl.out; omega
            have hPk : ∀ i, i < (ys.drop k).length → perAt (ys.drop k) i ≤ o + 2 := fun i hi => by
              rw [perAt_drop]
              rw [List.length_drop] at hi
              exact HP.out (k + i) (by omega)
            have hSb := hid (show ∀ r, (Value.slice S k cs).ownBlock = some r → W18.heap.size ≤ r ∧ r < We.heap.size from fun r hr => HT.out.some.own.lt r hr)
            obtain ⟨y00, y01, yf0⟩ := (HT.out.box).cells2
            go_wp2_with fail
            clear y00 y01 yf0
            refine (drain_any D nd cd (o + 2) (ys.drop k) 16 We (HT.out.q.sm.mono (Nat.le_refl _) (Nat.le_refl _)) (by omega) (by omega)).mono ?_
            rintro e w29 ⟨A21, n21, c21, B21, m21, d21, rfl, o21, b21, hb, hnc21⟩
            rw [drainF_all (HG2.out.drop k) hPk (by omega), show min (ys.drop k).length (16 : Int).toNat = (ys.drop k).length by rw [List.length_drop]; have := hyl.out; have : (16 : Int).toNat = 16 := rfl; omega, List.drop_length, List.take_length] at o21 b21 ⊢
            dsimp only at o21 b21 ⊢
            have hm21 : m21 ≤ 16 := by have := b21.len; rw [List.length_map, List.length_drop] at this; have := hyl.out; omega
            have L21 := hid b21; have hs29 := hid hb.size
            clear hPk
            replace HT := hid (HT.out.step hb); replace HWe := hid (below_then HWe.out hb)
            clear hb o21 b21
            have bx := below_box w29 (.cells (qcs A21 n21 c21 (o + 2)) 25)
            replace HT := hid (HT.out.step bx); replace L21 := hid (L21.out.step bx); replace HWe := hid (below_then HWe.out bx)
            clear bx
            have P21 := hid (Blk.new w29 25 (qcs A21 n21 c21 (o + 2)))
            clear P21
            obtain ⟨y00, y01, yf0⟩ := (X5.out.step HWe.out).cells2
            go_wp2_with fail
            clear y00 y01 yf0
            have hs30 := hid (show (w29.alloc (.cells (qcs A21 n21 c21 (o + 2)) 25)).heap.size = w29.heap.size + 1 by simp)
            generalize w29.alloc (.cells (qcs A21 n21 c21 (o + 2)) 25) = W29 at *
            refine (qnew_any o W29).mono ?_
            rintro e w30 ⟨rfl, hb⟩
            have hs30b := hid hb.size
            replace HT := hid (HT.out.step hb); replace L21 := hid (L21.out.step hb); replace HWe := hid (below_then HWe.out hb)
            clear hb
            rw [show newQ o = (o, [], 0) by rw [newQ, if_neg (by have := hob.out; omega)]]
            dsimp only
            have bx := below_box w30 (.cells (qcs none 0 0 o) 25)
            replace HT := hid (HT.out.step bx); replace L21 := hid (L21.out.step bx); replace HWe := hid (below_then HWe.out bx)
            clear bx
            have P23 := hid (Blk.new w30 25 (qcs none 0 0 o))
            have HG0 := hid (show QGood o [] from ⟨HG.out.1, by simp, fun k hk _ => absurd hk (by simp), fun k hk => absurd hk (by simp)⟩)
            obtain ⟨y00, y01, yf0⟩ := (X5.out.step HWe.out).cells2
            obtain ⟨y10, y11, yf1⟩ := P23.out.cells2
            go_wp2_with fail
            clear y00 y01 yf0 y10 y11 yf1
            have hs30c := hid (show We.heap.size ≤ (w30.alloc (.cells (qcs none 0 0 o) 25)).heap.size by have := hs29.out; have := hs30.out; have := hs30b.out; simp; omega)
            generalize w30.alloc (.cells (qcs none 0 0 o) 25) = W30 at *
            refine (join_any A2 j c2 o ys none 0 0 [] W30 ((XO2.out.step HWe.out).sm.mono (Nat.zero_le _) (Nat.le_refl _)) (Sm.nil _ _ _ _) (by omega) h0 HG.out HG0.out (by rw [List.append_nil]; exact HG.out.2.2.1)).mono ?_
            rintro e w31 ⟨R24, c24, rfl, o24, hb⟩
            simp only [Nat.add_zero, List.append_nil] at o24 ⊢
            have R24' := hid o24
            have hs31 := hid hb.size
            replace HT := hid (HT.out.step hb); replace L21 := hid (L21.out.step hb); replace P23 := hid (P23.out.step hb); replace HWe := hid (below_then HWe.out hb)
            clear hb o24
            have bx := below_box w31 (.cells (qcs R24 j c24 o) 25)
            replace HT := hid (HT.out.step bx); replace L21 := hid (L21.out.step bx); replace P23 := hid (P23.out.step bx); replace R24' := hid (R24'.out.step bx); replace HWe := hid (below_then HWe.out bx)
            clear bx
            have P24 := hid (Blk.new w31 25 (qcs R24 j c24 o))
            obtain ⟨y00, y01, yf0⟩ := (X5.out.step HWe.out).cells2
            obtain ⟨y10, y11, yf1⟩ := P23.out.cells2
            go_wp2_with fail
            clear y00 y01 yf0 y10 y11 yf1
            have hs31b := hid (show w31.heap.size ≤ (w31.alloc (.cells (qcs R24 j c24 o) 25)).heap.size by simp)
            generalize w31.alloc (.cells (qcs R24 j c24 o) 25) = W31 at *
            refine (join_any none 0 0 o [] A2 j c2 ys W31 (Sm.nil _ _ _ _) ((XO2.out.step HWe.out).sm.mono (Nat.zero_le _) (Nat.le_refl _)) (by omega) h0 HG0.out HG.out HG.out.2.2.1).mono ?_
            rintro e w32 ⟨R26, c26, rfl, o26, hb⟩
            simp only [Nat.zero_add, List.nil_append] at o26 ⊢
            have R26' := hid o26; have hs32 := hid hb.size
            replace HT := hid (HT.out.step hb); replace L21 := hid (L21.out.step hb); replace P23 := hid (P23.out.step hb); replace R24' := hid (R24'.out.step hb); replace P24 := hid (P24.out.step hb); replace HWe := hid (below_then HWe.out hb)
            clear hb o26
            have bx := below_box w32 (.cells (qcs R26 j c26 o) 25)
            replace HT := hid (HT.out.step bx); replace L21 := hid (L21.out.step bx); replace P23 := hid (P23.out.step bx); replace R24' := hid (R24'.out.step bx); replace P24 := hid (P24.out.step bx); replace R26' := hid (R26'.out.step bx); replace HWe := hid (below_then HWe.out bx)
            clear bx
            have P26 := hid (Blk.new w32 25 (qcs R26 j c26 o))
            go_upto_region 33 with fail
            generalize w32.alloc (.cells (qcs R26 j c26 o) 25) = W32 at *
            obtain ⟨i0, hi0, hz00, hz01, hz02⟩ := info_parts info_u64
            go_wp2_with (at_builtin; refine wpList_appw u64v 0 _ rfl _ _ 26 rfl W18.heap.size 23 i0 _ 8 Try.underlying26 hi0 hz00 hz01 hz02 rfl S k cs _ rfl HT.out.some We.heap.size W32.heap.size B21 m21 d21 _ rfl (L21.out.sl (d := (0 : Int))) (fun _ => rfl) (by simp only [maxLen]; omega) (by omega) HT.out.size ?_; intro S' cs' w33 own33 hg33 hat33; have OWN := hid own33; have HGR := hid hg33; clear own33 hg33 hat33)
            clear hi0 hz00 hz01 hz02
            have OWN2 := OWN.out
            rw [← List.map_append, List.take_append_drop] at OWN2
            have OWN3 := hid OWN2
            have HW33 := hid (HWe.out.grown HGR.out (by have := HWe.out.size; omega) (fun r hr => by have := (hSb.out r hr).1; have := h15.out; omega))
            have Q24 := hid (R24'.out.kept HGR.out (fun r hr => by have := (hSb.out r hr).2; have := hs30c.out; omega))
            have Q26 := hid (R26'.out.kept HGR.out (fun r hr => by have := (hSb.out r hr).2; have := hs30c.out; have := hs31.out; have := hs31b.out; have := hs32.out; omega))
            have PA := hid (P24.out.grown HGR.out (fun e => by have := (hSb.out _ e.symm).2; have := hs30c.out; have := hs31.out; omega))
            have PB := hid (P26.out.grown HGR.out (fun e => by have := (hSb.out _ e.symm).2; have := hs30c.out; have := hs31.out; have := hs31b.out; have := hs32.out; omega))
            clear OWN OWN2 HGR hSb R24' R26' P24 P26 HWe HT
            have hkj : k + m21 ≤ 1000 := by omega
            refine (equal_u64 S' B9 (k + m21) cs' j d9 _ _ _ _ _ _ w33 (OWN3.out.sl (d := (0 : Int))) ((X9.out.step HW33.out).sl (d := (0 : Int))) (by omega) (by omega)).mono ?_
            rintro e w34 ⟨rfl, hb⟩
            replace OWN3 := hid (OWN3.out.step hb); replace Q24 := hid (Q24.out.step hb); replace Q26 := hid (Q26.out.step hb); replace PA := hid (PA.out.step hb); replace PB := hid (PB.out.step hb); replace HW33 := hid (below_then HW33.out hb)
            clear hb
            rw [show decide (ys.map (·.2) = ys.map (·.2)) = true from decide_eq_true rfl]
            obtain ⟨y00, y01, yf0⟩ := (X5.out.step HW33.out).cells2
            obtain ⟨y10, y11, yf1⟩ := PA.out.cells2
            go_wp2_with fail
            clear y00 y01 yf0 y10 y11 yf1
            refine (qsame_any R24 j c24 o ys A2 j c2 o ys w34 (Q24.out.sm.mono (Nat.zero_le _) (Nat.le_refl _)) ((XO2.out.step HW33.out).sm.mono (Nat.zero_le _) (Nat.le_refl _)) (by omega) (by omega)).mono ?_
            rintro e w35 ⟨rfl, hb⟩
            replace OWN3 := hid (OWN3.out.step hb); replace Q24 := hid (Q24.out.step hb); replace Q26 := hid (Q26.out.step hb); replace PA := hid (PA.out.step hb); replace PB := hid (PB.out.step hb); replace HW33 := hid (below_then HW33.out hb)
            clear hb
            rw [show sameQ o ys o ys = true from decide_eq_true ⟨rfl, rfl⟩]
            obtain ⟨y00, y01, yf0⟩ := (X5.out.step HW33.out).cells2
            obtain ⟨y10, y11, yf1⟩ := PB.out.cells2
            go_wp2_with fail
            clear y00 y01 yf0 y10 y11 yf1
            refine (qsame_any R26 j c26 o ys A2 j c2 o ys w35 (Q26.out.sm.mono (Nat.zero_le _) (Nat.le_refl _)) ((XO2.out.step HW33.out).sm.mono (Nat.zero_le _) (Nat.le_refl _)) (by omega) (by omega)).mono ?_
            rintro e w36 ⟨rfl, hb⟩
            replace OWN3 := hid (OWN3.out.step hb); replace Q24 := hid (Q24.out.step hb); replace Q26 := hid (Q26.out.step hb); replace PA := hid (PA.out.step hb); replace PB := hid (PB.out.step hb); replace HW33 := hid (below_then HW33.out hb)
            clear hb
            rw [show sameQ o ys o ys = true from decide_eq_true ⟨rfl, rfl⟩]
            go_wp2
            refine bodyPost_ret (v := .bool true) (by simp [results, Try.results6, go_sem]) rfl ⟨rfl, below_then XB.out HW33.out⟩
  · have e0 : qcheckC o ys = 230 := by rw [HC.out, if_neg hg]
    rw [e0]
    clear e0 HC hg
    obtain ⟨y00, y01, yf0⟩ := P5.out.cells2
    go_wp2
    refine bodyPost_ret (v := .bool true) (by simp [results, Try.results6, go_sem]) rfl ⟨rfl, HB.out⟩
end Go.Proofs.Ytkdbmlddndgjjaa
