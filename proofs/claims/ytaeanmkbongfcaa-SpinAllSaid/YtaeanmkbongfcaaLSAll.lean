/- afterglowlaw05.SpinAll returns true at every number, and row of rounds, and turns nothing old. No condition but the sizes of memory. -/
import Derived.Test.YtaeanmkbongfcaaSpPl2
import Derived.Test.YtaeanmkbongfcaaSpR
import Derived.Test.YtaeanmkbongfcaaSlC
import Derived.Test.YtaeanmkbongfcaaSo
import Derived.Test.YtaeanmkbongfcaaOpenRw
import Derived.Deep.CutBlock
namespace Go.Proofs.Ytaeanmkbongfcaa
open Go.RowKit
/-- behind r rounds -/
structure QSb (w W : World) (gm N : Nat) (L : Option Addr) (cl : Nat) (O : Option Addr) (no co r : Nat) : Prop where
  out : ∃ A n c B k d NN S ls od, Blk W gm 25 (mcs A n c B k d false) ∧ Mown W w.heap.size A n c B k d (tkM NN S).1 (tkM NN S).2.1 ∧ Om 3 encS W w.heap.size 38 L N cl ls ∧ Ow i64 W w.heap.size 3 O no co od ∧ TkI NN S ls od ∧ Dq NN S ls od.length (5 * N + 1 - r)
  be : Below w.heap.size w W
theorem TkI.lenl' {N S : Nat} {l : List Spn} {od : List Int} (h : TkI N S l od) : od.length ≤ l.length := h.le.2
set_option maxRecDepth 100000 in
set_option maxHeartbeats 8000000 in
theorem spall_any (many : Int) (R : Option Addr) (nr cr : Nat) (rs : List NmE) (w : World) (hr : Sm 1 (fun (x : NmE) _ => encN x) ([], none, 0, 0) w 0 w.heap.size R nr rs) (hrs : ∀ y ∈ rs, Sl i64 0 w 0 w.heap.size y.2.1 y.2.2.1 y.1 ∧ y.2.2.1 ≤ y.2.2.2 ∧ y.2.2.2 ≤ maxLen) :
    Calls Try.prog 7 #[.int .i64 many, .slice R nr cr] w fun e w' => e = .returned (.bool true) ∧ Below w.heap.size w w' := by
  have HR := hid hr; have HRS := hid hrs; have HB := hid (Below.refl w.heap.size w)
  obtain ⟨N, hN, hN1, hN4⟩ : ∃ N : Nat, wrap64 (1 + wrap64 ((IntKind.u64.wrap many).tmod 4)) = (N : Int) ∧ 1 ≤ N ∧ N ≤ 4 := by
    have h0 : 0 ≤ IntKind.u64.wrap many := by rw [IntKind.wrap_u64]; omega
    refine ⟨1 + ((IntKind.u64.wrap many).tmod 4).toNat, ?_, by omega, ?_⟩
    · rw [Int.tmod_eq_emod_of_nonneg h0]; unfold wrap64; omega
    · rw [Int.tmod_eq_emod_of_nonneg h0]; omega
  clear hr hrs
  go_enter Try.func7, Try.ntmps7
  go_wp2_with fail
  refine (spwakes_any w).mono ?_
  rintro e w1 ⟨rfl, hb⟩
  replace HB := hid (below_then HB.out hb)
  clear hb
  have hs1 := hid HB.out.size
  go_wp2_with fail
  refine (laid_any w1).mono ?_
  rintro e w2 ⟨A, c, B, d, rfl, om, hb⟩
  have OM := hid (om.mono (show w.heap.size ≤ w1.heap.size from hs1.out))
  have hs2 := hid (Nat.le_trans hs1.out hb.size)
  clear om hs1
  replace HB := hid (below_then HB.out hb)
  clear hb
  have bx := below_box w2 (.cells (mcs A 2 c B 2 d false) 25)
  replace OM := hid (OM.out.step bx); replace HB := hid (below_then HB.out bx)
  clear bx
  have PM := hid (Blk.new w2 25 (mcs A 2 c B 2 d false))
  go_upto_region 4 with fail
  have hz2 := hid (show (w2.alloc (.cells (mcs A 2 c B 2 d false) 25)).heap.size = w2.heap.size + 1 by simp)
  generalize w2.alloc (.cells (mcs A 2 c B 2 d false) 25) = W2 at *
  go_wp2_with fail
  simp only [hN]
  clear hN
  refine (asking_any N W2 hN1 (by omega)).mono ?_
  rintro e w3 ⟨g3, rfl, ol, hb⟩
  have OL := hid (ol.mono (show w.heap.size ≤ W2.heap.size from HB.out.size))
  clear ol
  replace OM := hid (OM.out.step hb); replace PM := hid (PM.out.step hb); replace HB := hid (below_then HB.out hb)
  clear hb
  have hst : QSb w w3 w2.heap.size N (some ⟨g3, 0, none⟩) N none 0 0 0 := ⟨⟨A, 2, c, B, 2, d, 0, 0, List.replicate N (0, 0, 0), [], PM.out, OM.out, OL.out, Ow.nil _ _ _, TkI.start N, Dq.start N hN1⟩, HB.out⟩
  have HST := hid hst
  have hm6 : IntKind.i64.wrap (6 * (N : Int)) = 6 * (N : Int) := by rw [IntKind.wrap_i64]; omega
  have hm7 : IntKind.i64.wrap (6 * (N : Int) + 6) = 6 * (N : Int) + 6 := by rw [IntKind.wrap_i64]; omega
  clear hst PM OM OL HB
  obtain ⟨i1, hi1, hz10, hz11, hz12⟩ := info_parts info_int
  go_wp2_with fail
  go_loopw [8, 9, 37] (fun sl so i wr => ∃ (j : Nat) (L : Option Addr) (cl : Nat) (O : Option Addr) (no co : Nat), j ≤ 6 * N + 6 ∧ i = .int .i64 j ∧ sl = .slice L N cl ∧ so = .slice O no co ∧ QSb w wr w2.heap.size N L cl O no co j) (fun _ _ i _ => 6 * N + 6 - (intOf i).toNat)
  case atStart => exact ⟨0, _, _, _, _, _, Nat.zero_le _, rfl, rfl, rfl, HST.out⟩
  case round =>
    obtain ⟨j, L, cl, O, no, co, hj, rfl, rfl, rfl, hI⟩ := hrel
    rename World => wo
    clear HST hm6 hm7
    obtain ⟨⟨A1, n1, c1, B1, k1, d1, NN, S, ls, od, h1, h2, h3, h4, h5, h7⟩, h6⟩ := hI
    have PM := hid h1; have OM := hid h2; have OL := hid h3; have OO := hid h4; have HT := hid h5; have HDQ := hid h7; have HB := hid h6
    have HRL := hid h1.lt; have hlen := hid h3.len
    clear h1 h2 h3 h4 h5 h6 h7
    by_cases hjn : j < 6 * N + 6
    rotate_left
    · skip
      have hnn : ¬ ((j : Int) < 6 * (N : Int) + 6) := by omega
      have hdone := Dq.done HT.out (by have h := HDQ.out; rwa [show 5 * N + 1 - j = 0 by omega] at h)
      rw [hlen.out] at hdone
      obtain ⟨hS, hNN, hod, hph⟩ := hdone
      have hS2 := hid hS; have hNN2 := hid hNN
      clear hS hNN
      have HOD := hid hod; have HPH := hid hph
      clear hod hph
      have hno := hid (show no = N from OO.out.len.symm.trans HOD.out)
      go_wp2_with fail
      refine (sort_ow O no co w.heap.size od wo OO.out (by have := hno.out; omega) (by have := hno.out; omega)).mono ?_
      rintro e w4 ⟨rfl, hown, hgr⟩
      have HSO := hid (show ∀ i, i < N → (srt od)[i]? = some (i : Int) from srt_iota HOD.out (fun k hk => (HT.out.once (k := k) (by rw [HOD.out]; exact hk)).2 |> fun h => ⟨h.1, by have := h.2.1; rw [hlen.out] at this; exact this, h.2.2⟩))
      replace PM := hid (PM.out.keptO OO.out (by decide) hgr)
      replace OM := hid (show Mown w4 w.heap.size A1 n1 c1 B1 k1 d1 _ _ from ⟨OM.out.oa.keptO OO.out (by decide) hgr, OM.out.ob.keptO OO.out (by decide) hgr, OM.out.apart, OM.out.hn, OM.out.hm⟩)
      replace OL := hid (OL.out.keptO OO.out (by decide) hgr)
      replace HB := hid (HB.out.grown hgr HB.out.size (fun k hk => OO.out.row_ge k hk))
      replace OO := hid hown
      have H4 := hid (Below.refl w4.heap.size w4)
      have hnoN := hno.out
      subst hnoN
      clear hown hgr
      go_wp2_with fail
      go_loopw [100] (fun i wr => ∃ k : Nat, k ≤ no ∧ i = .int .i64 k ∧ Below w4.heap.size w4 wr) (fun i _ => no - (intOf i).toNat)
      case atStart => exact ⟨0, Nat.zero_le _, rfl, H4.out⟩
      case round =>
        obtain ⟨k, hk, rfl, hbr⟩ := hrel
        clear H4
        have HBR := hid hbr
        clear hbr
        by_cases hkn : k < no
        rotate_left
        · skip
          obtain rfl : k = no := by omega
          have hnn2 : ¬ ((k : Int) < (k : Int)) := by omega
          obtain rfl : 2 = n1 := OM.out.oa.len
          have hS := hS2.out; have hNN := hNN2.out
          have hm1 : (tkM NN S).1 = [(k : Int), (k : Int)] := by unfold tkM; rw [hS, hNN]
          have hoa := OM.out.oa.step HBR.out
          rw [hm1] at hoa
          obtain ⟨ga, rfl, _, _, a0, _⟩ := hoa.at_ 0 (k := 0) (by omega)
          obtain ⟨gb, hgb, _, _, a1, _⟩ := hoa.at_ 0 (k := 1) (by omega)
          obtain rfl : ga = gb := by simpa using hgb
          simp only [List.getElem?_cons_zero, List.getElem?_cons_succ, Option.getD_some] at a0 a1
          have hwu : IntKind.u64.wrap (k : Int) = (k : Int) := by rw [IntKind.wrap_u64]; omega
          have HM := hid (PM.out.step HBR.out)
          clear hgb hoa hm1 hS hNN
          obtain ⟨y00, y01, y02, yf0⟩ := HM.out.cells3
          go_wp2
          go_ret
          exact ⟨rfl, below_then HB.out HBR.out⟩
        have hki : (k : Int) < (no : Int) := by omega
        have hsm : Sm 3 encS (0, 0, 0) wr 0 wr.heap.size L no ls := (OL.out.step HBR.out).sm.mono (Nat.zero_le _) (Nat.le_refl _)
        obtain ⟨b5, off5, rfl, _, _, hc5⟩ := hsm.row (by omega)
        obtain ⟨f0, f1, f2⟩ := Sm.spn hc5 hkn
        have hp5 : (ls[k]?.getD (0, 0, 0)).2.1 = 5 := HPH.out k hkn
        rw [hp5] at f1
        have hso := (OO.out.step HBR.out).sl (d := (0 : Int))
        obtain ⟨bo, oo, rfl, _, _, hco⟩ := hso.row (by omega)
        have g0 := hco k hkn
        rw [HSO.out k hkn] at g0
        simp only [Option.getD_some] at g0
        have hwk : IntKind.i64.wrap ((k : Int) + 1) = (k : Int) + 1 := by rw [IntKind.wrap_i64]; omega
        have hge : ¬ ((no : Int) ≤ (k : Int)) := by omega
        have hge2 : decide ((no : Int) ≤ (k : Int)) = false := decide_eq_false hge
        obtain ⟨⟨sa, sq⟩, hx⟩ : ∃ x : Int × Int, x = ((ls[k]?.getD (0, 0, 0)).1, (ls[k]?.getD (0, 0, 0)).2.2) := ⟨_, rfl⟩
        clear hsm hc5 hp5 hso hco hx
        go_wp2_with fail
        go_roundw
        case rel => exact ⟨k + 1, by omega, by go_num, below_then HBR.out (below_box _ _)⟩
        case measure => simp [intOf]; omega
    have hji : (j : Int) < 6 * (N : Int) + 6 := by omega
    go_upto_if 43 with fail
    have H1 := hid (Below.refl wo.heap.size wo)
    go_cut [11] (fun sp wx => ∃ (P : Option Addr) (np cp : Nat) (v : List Int), sp = .slice P np cp ∧ Ow i64 wx wo.heap.size 3 P np cp v ∧ PkIn N v ∧ np ≤ 6 ∧ Below wo.heap.size wo wx)
    case first =>
      by_cases hjr : j < nr
      rotate_left
      · have hjf : ¬ ((j : Int) < (nr : Int)) := by omega
        go_wp2
        go_meet
        exact ⟨none, 0, 0, [], rfl, Ow.nil _ _ _, (fun i hi => by simp at hi), by omega, H1.out⟩
      have hjf : (j : Int) < (nr : Int) := by omega
      obtain ⟨b, off, rfl, _, hbh, hc⟩ := HR.out.row (by omega)
      have f0 := (HB.out.cell (p := ⟨b, off + j * 1 + 0, none⟩) hbh).trans (hc j hjr 0 (by omega))
      rw [Nat.mul_one, Nat.add_zero] at f0
      have hrow := HRS.out (rs[j]?.getD ([], none, 0, 0)) (by rw [List.getElem?_eq_getElem (by rw [HR.out.len]; exact hjr)]; exact List.getElem_mem _)
      obtain ⟨⟨xs, X, nx, cx⟩, hx⟩ : ∃ x, x = rs[j]?.getD ([], none, 0, 0) := ⟨_, rfl⟩
      rw [← hx] at f0 hrow
      simp only [encN] at f0
      dsimp only at hrow
      have HX := hid hrow.1
      have hnx := hid (show nx ≤ maxLen from Nat.le_trans hrow.2.1 hrow.2.2)
      clear hc hx hrow
      go_wp2_with fail
      clear f0
      (try simp only [decide_eq_true hjr])
      go_loopw [11, 49] (fun sp i wz => ∃ (k : Nat) (P : Option Addr) (np cp : Nat) (v : List Int), k ≤ nx ∧ i = .int .i64 k ∧ sp = .slice P np cp ∧ Ow i64 wz wo.heap.size 3 P np cp v ∧ PkIn N v ∧ np ≤ 6 ∧ np ≤ k ∧ Below wo.heap.size wo wz) (fun _ i _ => nx - (intOf i).toNat)
      case atStart => exact ⟨0, none, 0, 0, [], Nat.zero_le _, rfl, rfl, Ow.nil _ _ _, (fun i hi => by simp at hi), by omega, by omega, H1.out⟩
      case round =>
        obtain ⟨k, P, np, cp, v, hk, rfl, rfl, hO, hv, hn6, hnk, hbr⟩ := hrel
        have OP := hid hO; have HV := hid hv; have HBR := hid hbr
        clear hO hv hbr
        by_cases hkn : k < nx
        rotate_left
        · obtain rfl : k = nx := by omega
          have hnn : ¬ ((k : Int) < (k : Int)) := by omega
          go_wp2
          go_meet
          exact ⟨P, np, cp, v, rfl, OP.out, HV.out, hn6, HBR.out⟩
        have hki : (k : Int) < (nx : Int) := by omega
        have hxz := (HX.out.below (below_then HB.out HBR.out) (Nat.le_refl _))
        obtain ⟨bx, ox, rfl, _, _, hcx⟩ := hxz.row (by omega)
        have f0 := hcx k hkn
        obtain ⟨p, hp⟩ : ∃ p, p = xs[k]?.getD 0 := ⟨_, rfl⟩
        rw [← hp] at f0
        clear hcx hxz hp
        have hwk : IntKind.i64.wrap ((k : Int) + 1) = (k : Int) + 1 := by have := hnx.out; simp only [maxLen] at this; rw [IntKind.wrap_i64]; omega
        by_cases hk6 : k < 6
        rotate_left
        · have hk6i : ¬ ((k : Int) < 6) := by omega
          go_wp2_with fail
          go_roundw
          case rel => exact ⟨k + 1, P, np, cp, v, by omega, by go_num, rfl, OP.out, HV.out, hn6, by omega, HBR.out⟩
          case measure => simp [intOf]; omega
        have hk6i : (k : Int) < 6 := by omega
        obtain ⟨i0, hi0, hiN⟩ : ∃ i0 : Nat, wrap64 ((IntKind.u64.wrap p).tmod (N : Int)) = (i0 : Int) ∧ i0 < N := by
          have h0 : 0 ≤ IntKind.u64.wrap p := by rw [IntKind.wrap_u64]; omega
          have h1 := Int.emod_nonneg (IntKind.u64.wrap p) (show (N : Int) ≠ 0 by omega)
          have h2 := Int.emod_lt_of_pos (IntKind.u64.wrap p) (show (0 : Int) < (N : Int) by omega)
          refine ⟨((IntKind.u64.wrap p).tmod N).toNat, ?_, ?_⟩
          · rw [Int.tmod_eq_emod_of_nonneg h0]; unfold wrap64; omega
          · rw [Int.tmod_eq_emod_of_nonneg h0]; omega
        have hnz : ¬ (N : Int) = 0 := by omega
        have hnu : IntKind.u64.wrap (N : Int) = (N : Int) := by rw [IntKind.wrap_u64]; omega
        have HLO := hid (show w.heap.size ≤ wo.heap.size from HB.out.size)
        have HBZ := hid HBR.out.size
        have hwk : IntKind.i64.wrap ((k : Int) + 1) = (k : Int) + 1 := by have := hnx.out; simp only [maxLen] at this; rw [IntKind.wrap_i64]; omega
        have HPI := hid hiN
        have HL := hid (Sl.lit (enc := i64) (d := 0) (w := wr) (e := 3) (g := wr.heap.size) [(i0 : Int)] (#[.int .i64 i0]) (by simp) (by simp))
        have bx := below_box wr (.cells #[.int .i64 i0] 3)
        replace OP := hid (OP.out.step bx); replace HBR := hid (below_then HBR.out bx)
        clear bx
        go_wp2_with (at_builtin; refine wpList_app i64 0 _ rfl _ _ 27 rfl wo.heap.size 3 i1 _ 8 Try.underlying27 hi1 hz10 hz11 hz12 rfl P np cp v rfl OP.out 0 _ _ 1 1 [(i0 : Int)] rfl HL.out (fun _ => rfl) (by simp only [maxLen]; omega) (by omega) (by have := HBZ.out; simp; omega) ?_; intro P2 cp2 w9 hown hgr hat; have HOWN := hid hown; have HGR := hid hgr; clear hown hgr hat hi0 hnu hnz)
        replace HBR := hid (HBR.out.grown HGR.out (by simp; have := HBZ.out; omega) (fun k hk => OP.out.row_ge k hk))
        go_roundw
        case rel => exact ⟨k + 1, P2, np + 1, cp2, v ++ [(i0 : Int)], by omega, by go_num, rfl, HOWN.out, (fun i hi => by
          rcases List.mem_append.1 hi with h | h
          · exact HV.out i h
          · rw [List.mem_singleton] at h; subst h; omega), by omega, by omega, HBR.out⟩
        case measure => simp [intOf]; omega
    case rest =>
      obtain ⟨P0, np0, cp0, v0, rfl, hO, hv, hn6, hbx⟩ := hcut
      rename World => wx
      have OP0 := hid hO; have HV0 := hid hv; have HBX := hid hbx
      clear hO hv hbx H1
      go_wp2_with fail
      go_loopw [11, 67] (fun sp i wz => ∃ (k : Nat) (P : Option Addr) (np cp : Nat) (v : List Int), k ≤ N ∧ i = .int .i64 k ∧ sp = .slice P np cp ∧ Ow i64 wz wo.heap.size 3 P np cp v ∧ PkIn N v ∧ np ≤ 6 + k ∧ (∀ m : Nat, m < k → (m : Int) ∈ v) ∧ Below wo.heap.size wo wz) (fun _ i _ => N - (intOf i).toNat)
      case atStart => exact ⟨0, P0, np0, cp0, v0, Nat.zero_le _, rfl, rfl, OP0.out, HV0.out, by omega, (fun m hm => by omega), HBX.out⟩
      case round =>
        obtain ⟨k, P, np, cp, v, hk, rfl, rfl, hO, hv, hnp, hall, hbr⟩ := hrel
        clear OP0 HV0 HBX
        have OP := hid hO; have HV := hid hv; have HBR := hid hbr; have HALL := hid hall
        clear hO hv hbr hall
        by_cases hkn : k < N
        rotate_left
        · skip
          obtain rfl : k = N := by omega
          have hnn : ¬ ((k : Int) < (k : Int)) := by omega
          have hb := HBR.out
          replace PM := hid (PM.out.step hb); replace OM := hid (OM.out.step hb); replace OL := hid (OL.out.step hb); replace OO := hid (OO.out.step hb); replace HB := hid (below_then HB.out hb)
          clear hb HBR
          obtain ⟨y00, y01, y02, yf0⟩ := PM.out.cells3
          go_wp2_with fail
          clear y00 y01 y02 yf0
          obtain ⟨NN2, S2, ls2, hF, hl2, hT2, hD2⟩ := HT.out.round (by rw [hlen.out]; omega) (v := v) (by rw [hlen.out]; exact HV.out) (by rw [hlen.out]; exact HALL.out) HDQ.out
          obtain ⟨hd, hhd⟩ : ∃ h, h = heldF (tkM NN S) ls v := ⟨_, rfl⟩
          rw [← hhd] at hF hT2 hD2
          have HF := hid hF; have HT2 := hid hT2; have HL2 := hid hl2
          have HD2 := hid (show Dq NN2 S2 ls2 (od ++ hd).length (5 * k + 1 - (j + 1)) by have h := hD2; rwa [show 5 * k + 1 - j - 1 = 5 * k + 1 - (j + 1) by omega] at h)
          clear hF hT2 hl2 hhd hD2
          refine (spplay_any A1 n1 c1 B1 k1 d1 false (tkM NN S).1 (tkM NN S).2.1 L k cl ls P np cp v wr OM.out.mem (OL.out.sm.mono (Nat.zero_le _) (Nat.le_refl _)) (by omega) (OP.out.sl.mono (Nat.zero_le _) (Nat.le_refl _)) (by omega)).mono ?_
          rw [show (((tkM NN S).1, (tkM NN S).2.1, false) : MSt) = tkM NN S from rfl, HF.out]
          rintro e w5 ⟨A5, n5, c5, B5, k5, d5, L5, nl5, cl5, G5, ng5, cg5, rfl, om, ol, og, hb⟩
          dsimp only at om ol og
          obtain rfl : k = nl5 := by rw [← ol.len, HL2.out, hlen.out]
          have hsr := hid (show w.heap.size ≤ wr.heap.size from HB.out.size)
          have hs5 := hid (show w2.heap.size < w5.heap.size from Nat.lt_of_lt_of_le PM.out.lt hb.size)
          clear HT OM OL OP
          replace PM := hid (PM.out.step hb); replace OO := hid (OO.out.step hb); replace HB := hid (below_then HB.out hb)
          have OM := hid (om.mono hsr.out); have OL := hid (ol.mono hsr.out); have OG := hid (og.mono hsr.out)
          clear om ol og hb
          have bx := below_box w5 (.cells (mcs A5 n5 c5 B5 k5 d5 (tkM NN2 S2).2.2) 25)
          replace PM := hid (PM.out.step bx); replace OO := hid (OO.out.step bx); replace OM := hid (OM.out.step bx); replace OL := hid (OL.out.step bx); replace OG := hid (OG.out.step bx); replace HB := hid (below_then HB.out bx)
          clear bx
          have PN := hid (Blk.new w5 25 (mcs A5 n5 c5 B5 k5 d5 (tkM NN2 S2).2.2))
          go_upto_region 25 with fail
          have hz6 := hid (show (w5.alloc (.cells (mcs A5 n5 c5 B5 k5 d5 (tkM NN2 S2).2.2) 25)).heap.size = w5.heap.size + 1 by simp)
          generalize w5.alloc (.cells (mcs A5 n5 c5 B5 k5 d5 (tkM NN2 S2).2.2) 25) = W6 at *
          replace PN := hid (show Blk W6 w5.heap.size 25 (mcs A5 n5 c5 B5 k5 d5 false) from PN.out)
          obtain ⟨y00, y01, y02, yf0⟩ := PN.out.cells3
          obtain ⟨y10, y11, y12, yf1⟩ := PM.out.cells3
          go_upto_region 28 with fail
          clear y00 y01 y02 yf0 y10 y11 y12 yf1
          have PX := PM
          have hbk0 : Blk (W6.setCell ⟨w2.heap.size, 0, none⟩ (.slice A5 n5 c5)) (w2.heap.size) 25 #[.slice A5 n5 c5, .slice B1 k1 d1, .bool false] := PM.out.setCell 0 (.slice A5 n5 c5)
          have hbk1 : Blk ((W6.setCell ⟨w2.heap.size, 0, none⟩ (.slice A5 n5 c5)).setCell ⟨w2.heap.size, 1, none⟩ (.slice B5 k5 d5)) (w2.heap.size) 25 #[.slice A5 n5 c5, .slice B5 k5 d5, .bool false] := hbk0.setCell 1 (.slice B5 k5 d5)
          have hbk2 : Blk (((W6.setCell ⟨w2.heap.size, 0, none⟩ (.slice A5 n5 c5)).setCell ⟨w2.heap.size, 1, none⟩ (.slice B5 k5 d5)).setCell ⟨w2.heap.size, 2, none⟩ (.bool false)) (w2.heap.size) 25 #[.slice A5 n5 c5, .slice B5 k5 d5, .bool false] := hbk1.setCell 2 (.bool false)
          have hgr : W6.grownBy (((W6.setCell ⟨w2.heap.size, 0, none⟩ (.slice A5 n5 c5)).setCell ⟨w2.heap.size, 1, none⟩ (.slice B5 k5 d5)).setCell ⟨w2.heap.size, 2, none⟩ (.bool false)) (some (w2.heap.size)) := (grown_set (grown_set (grown_set (World.grownBy.refl W6 (some (w2.heap.size))) 0 (.slice A5 n5 c5)) 1 (.slice B5 k5 d5)) 2 (.bool false))
          replace PM := hid hbk2
          clear hbk0 hbk1 hbk2
          generalize ((W6.setCell ⟨w2.heap.size, 0, none⟩ (.slice A5 n5 c5)).setCell ⟨w2.heap.size, 1, none⟩ (.slice B5 k5 d5)).setCell ⟨w2.heap.size, 2, none⟩ (.bool false) = W7 at *
          replace OM := hid (mown_kept OM.out PX.out (by decide) (by decide) hgr)
          replace OL := hid (OL.out.keptG hgr (fun v hv e => OL.out.ne_blk PX.out (by decide) v hv (by simpa using e)))
          replace OO := hid (OO.out.keptG hgr (fun v hv e => OO.out.ne_blk PX.out (by decide) v hv (by simpa using e)))
          replace OG := hid (OG.out.keptG hgr (fun v hv e => OG.out.ne_blk PX.out (by decide) v hv (by simpa using e)))
          replace HB := hid (HB.out.grown hgr HB.out.size (fun r e => by cases e; have := hs2.out; omega))
          clear hgr PX PN
          have hlo := hid (show od.length = no from OO.out.len)
          have hlh := hid (show hd.length = ng5 from OG.out.len)
          have hno := hid (show no + ng5 ≤ 5 by
            have h := HT2.out.lenl'
            rw [List.length_append, hlo.out, hlh.out, HL2.out, hlen.out] at h; omega)
          go_wp2_with (at_builtin; refine wpList_app i64 0 _ rfl _ _ 27 rfl w.heap.size 3 i1 _ 8 Try.underlying27 hi1 hz10 hz11 hz12 rfl O no co od rfl OO.out w.heap.size _ G5 ng5 cg5 hd rfl OG.out.sl (fun _ => rfl) (by have := hno.out; simp only [maxLen]; omega) (by have := hno.out; omega) HB.out.size ?_; intro O8 co8 w8 hown hgr hat; have HOWN := hid hown; have HGR := hid hgr; clear hown hgr hat)
          have hwj : IntKind.i64.wrap ((j : Int) + 1) = (j : Int) + 1 := by rw [IntKind.wrap_i64]; omega
          replace PM := hid (PM.out.keptO OO.out (by decide) HGR.out)
          replace OM := hid (show Mown w8 w.heap.size A5 n5 c5 B5 k5 d5 _ _ from ⟨OM.out.oa.keptO OO.out (by decide) HGR.out, OM.out.ob.keptO OO.out (by decide) HGR.out, OM.out.apart, OM.out.hn, OM.out.hm⟩)
          replace OL := hid (OL.out.keptO OO.out (by decide) HGR.out)
          replace HB := hid (HB.out.grown HGR.out HB.out.size (fun k hk => OO.out.row_ge k hk))
          go_roundw
          case rel => exact ⟨j + 1, L5, cl5, O8, no + ng5, co8, by omega, by go_num, rfl, rfl, ⟨⟨_, _, _, _, _, _, NN2, S2, ls2, _, PM.out, OM.out, OL.out, HOWN.out, HT2.out, HD2.out⟩, HB.out⟩⟩
          case measure => simp [intOf]; omega
        have hki : (k : Int) < (N : Int) := by omega
        have hwk : IntKind.i64.wrap ((k : Int) + 1) = (k : Int) + 1 := by rw [IntKind.wrap_i64]; omega
        go_wp2_with fail
        refine (contains_int P np cp wo.heap.size wr.heap.size v (k : Int) wr (OP.out.sl) (by omega)).mono ?_
        rintro e w' ⟨rfl, rfl⟩
        by_cases hmem : (k : Int) ∈ v
        · rw [decide_eq_true hmem]
          have HM := hid hmem
          clear hmem
          go_wp2_with fail
          go_roundw
          case rel => exact ⟨k + 1, P, np, cp, v, by omega, by go_num, rfl, OP.out, HV.out, by omega, (fun m hm => by
            by_cases e : m = k
            · subst e; exact HM.out
            · exact HALL.out m (by omega)), HBR.out⟩
          case measure => simp [intOf]; omega
        rw [decide_eq_false hmem]
        clear hmem
        have HBZ := hid HBR.out.size
        have HL := hid (Sl.lit (enc := i64) (d := 0) (w := w') (e := 3) (g := w'.heap.size) [(k : Int)] (#[.int .i64 k]) (by simp) (by simp))
        have bx := below_box w' (.cells #[.int .i64 k] 3)
        replace OP := hid (OP.out.step bx); replace HBR := hid (below_then HBR.out bx)
        clear bx
        go_wp2_with (at_builtin; refine wpList_app i64 0 _ rfl _ _ 27 rfl wo.heap.size 3 i1 _ 8 Try.underlying27 hi1 hz10 hz11 hz12 rfl P np cp v rfl OP.out 0 _ _ 1 1 [(k : Int)] rfl HL.out (fun _ => rfl) (by simp only [maxLen]; omega) (by omega) (by have := HBZ.out; simp; omega) ?_; intro P2 cp2 w9 hown hgr hat; have HOWN := hid hown; have HGR := hid hgr; clear hown hgr hat)
        replace HBR := hid (HBR.out.grown HGR.out (by simp; have := HBZ.out; omega) (fun k hk => OP.out.row_ge k hk))
        go_roundw
        case rel => exact ⟨k + 1, P2, np + 1, cp2, v ++ [(k : Int)], by omega, by go_num, rfl, HOWN.out, (fun i hi => by
          rcases List.mem_append.1 hi with h | h
          · exact HV.out i h
          · rw [List.mem_singleton] at h; subst h; omega), by omega, (fun m hm => by
          by_cases e : m = k
          · subst e; exact List.mem_append_right _ (List.mem_singleton.2 rfl)
          · exact List.mem_append_left _ (HALL.out m (by omega))), HBR.out⟩
        case measure => simp [intOf]; omega
end Go.Proofs.Ytaeanmkbongfcaa
