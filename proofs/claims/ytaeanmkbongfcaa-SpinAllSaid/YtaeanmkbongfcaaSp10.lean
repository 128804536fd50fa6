/- package spin: holders, as one ranges over it. No condition but sizes. -/
import Derived.Test.YtaeanmkbongfcaaSp9
namespace Go.Proofs.Ytaeanmkbongfcaa
open Go.RowKit Go.Shelf
attribute [local go_sem] Oper.semAt_some
set_option maxRecDepth 100000 in
set_option maxHeartbeats 8000000 in
theorem holders_seq (M P lo Tp Tq lq hq : Nat) (Q : Option Addr) (nq cq : Nat) (picks : List Int) (m0 : MSt) (l0 : List Spn) (L : Option Addr) (nl cl lo2 : Nat) (hm : 1 ≤ M) (hnq : nq ≤ 1000000) (hnl : nl ≤ 1000000) (hP : hq ≤ P) (hL : hq ≤ lo2) (hTq : hq ≤ Tq) (hg : MGood m0.1 m0.2.1) (hs : AllSp l0) (hl0 : l0.length = nl) :
    StateSeqP Fence.wide M Try.prog 56 #[ptr Tq, ptr Tp] (fun k => #[.int .i64 (whoK m0 l0 (vpk nl picks) k)]) (vpk nl picks).length (plp P L) (Hld P lo Tp Tq lq hq Q nq cq picks m0 l0 L nl cl lo2) := by
  intro l J Jx W hJD hY hJ0 hI0
  refine callsIn_of_wp Try.func56 rfl trivial ?_ rfl
  simp only [Try.ntmps56, List.size_toArray, List.length_cons, List.length_nil, Nat.reduceAdd, Nat.reduceSub, Array.replicate_succ, Array.replicate_zero, List.push_toArray, List.append_toArray, List.nil_append, List.cons_append]
  have hnq2 := hI0.sl.len
  have HNQ := hid hnq2
  obtain ⟨k0, kf⟩ := hI0.bq.cells1
  refine wpIn_wide.2 ?_
  go_wp2_with fail
  go_step3
  go_wp2_with fail
  go_step3
  go_wp2_with fail
  clear k0 kf hnq2
  have HJ0 := hid hJ0; have HI0 := hid hI0; have HGD := hid hg; have HAS := hid hs; have HL0 := hid hl0
  clear hJ0 hI0 hg hs hl0
  go_loopw [5, 6, 7, 10] (fun _ _ _ i wr => ∃ j : Nat, j ≤ nq ∧ i = .int .i64 j ∧ J (vpk nl (picks.take j)).length wr ∧ Hld P lo Tp Tq lq hq Q nq cq picks m0 l0 L nl cl lo2 (vpk nl (picks.take j)).length wr) (fun _ _ _ i _ => nq - (intOf i).toNat)
  case atStart => exact ⟨0, Nat.zero_le _, rfl, HJ0.out, HI0.out⟩
  case round =>
    clear HJ0 HI0
    obtain ⟨j, hj, rfl, hjj, hh⟩ := hrel
    have HJ := hid hjj; have HH := hid hh
    have HQS := hid (show hq ≤ wr.heap.size from Nat.le_trans hTq (Nat.le_of_lt hh.bq.lt))
    clear hjj hh
    by_cases hlt : j < nq
    · obtain ⟨b, off, rfl, _, hbh, hc⟩ := HH.out.sl.row (by omega)
      have f0 := hc j hlt
      obtain ⟨i, hi⟩ : ∃ i, i = picks[j]?.getD 0 := ⟨_, rfl⟩
      rw [← hi] at f0
      have HI := hid hi
      have hts := vpk_take_succ (n := nl) (r := picks) (j := j) (by rw [HNQ.out]; exact hlt)
      rw [← hi] at hts
      have HTS := hid hts
      clear hc hi hts
      obtain ⟨q0, qf⟩ := HH.out.bq.cells1
      obtain ⟨p0, pf⟩ := HH.out.bp.cells1
      obtain ⟨kk, hkk⟩ : ∃ k, k = (vpk nl (picks.take j)).length := ⟨_, rfl⟩
      obtain ⟨⟨mk, lk⟩, hst⟩ : ∃ s, s = playS m0 l0 ((vpk nl picks).take kk) := ⟨_, rfl⟩
      have HST := hid hst; have HKK := hid hkk
      have hgd := playS_good m0 l0 ((vpk nl picks).take kk) HGD.out HAS.out ((HL0.out.symm ▸ vpk_in nl picks : PkIn l0.length (vpk nl picks)).take kk)
      rw [← hst] at hgd
      dsimp only at hgd
      rw [← hkk] at HJ HH
      have hpl := HH.out.pl
      rw [← hst] at hpl
      dsimp only at hpl
      have HPL := hid hpl; have HG2 := hid hgd.1; have HA2 := hid hgd.2.1
      have hlk := hid (hgd.2.2.trans HL0.out)
      clear hst hkk hgd hpl
      obtain ⟨⟨A, n, c, B, k, d, hb, hmm⟩, hr, hle⟩ := HPL.out
      obtain ⟨a0, a1, a2, a3, af⟩ := hb.cells4
      clear hmm hle
      by_cases hin : 0 ≤ i ∧ i < nl
      · obtain ⟨i, rfl⟩ := Int.eq_ofNat_of_zero_le hin.1
        have hil : (i : Int) < (nl : Int) := hin.2
        have hinl : i < nl := by omega
        have hva := vpk_at (n := nl) (r := picks) (j := j) (by rw [HNQ.out]; exact hlt) (by rw [← HI.out]; exact ⟨by omega, hin.2⟩)
        rw [← HKK.out, ← HI.out] at hva
        have HVA := hid hva.1; have HVB := hid hva.2
        obtain ⟨⟨sa, sp, st⟩, hsx⟩ : ∃ s, s = lk[i]?.getD (0, 0, 0) := ⟨_, rfl⟩
        obtain ⟨g, rfl, hg1, hg2, hc, hfz⟩ := hr.at_ (0, 0, 0) hinl
        have f1 := hc 1 (by omega)
        rw [← hsx] at f1
        simp only [encS] at f1
        have HSX := hid hsx
        have hd0 : decide ((i : Int) < 0) = false := decide_eq_false (by omega)
        have hd1 : decide ((nl : Int) ≤ (i : Int)) = false := decide_eq_false (by omega)
        have hnneg : ¬ (nl : Int) ≤ (i : Int) := by omega
        have HTS2 := hid (show (vpk nl (picks.take (j + 1))).length = kk + 1 by rw [HTS.out, if_pos hin, List.length_append, ← HKK.out]; rfl)
        have HSTEP := hid (pstep_any P lo mk (some ⟨g, 0, none⟩) nl cl lo2 lk i wr HPL.out hinl hnl HG2.out (HA2.out.at (by rw [hlk.out]; exact hinl)))
        clear hva hc hsx hin hr HTS
        go_wp2_with fail
        refine HSTEP.out.mono ?_
        rintro e w1 ⟨rfl, hp1, hg1'⟩
        have HN := hid (HH.out.next HVA.out HQS.out hP hL hg1' (by rw [HVB.out, ← HST.out]; exact hp1))
        have HJ1 := hid (hJD _ _ _ HJ.out hg1')
        have HP1 := hid hp1
        clear a0 a1 a2 a3 af p0 pf q0 qf f0 f1 hfz hb HSTEP hg1' HPL
        obtain ⟨⟨A1, n1, c1, B1, k1, d1', hb1, _⟩, hr1, _⟩ := HP1.out
        obtain ⟨a0, a1, a2, a3, af⟩ := hb1.cells4
        obtain ⟨p0, pf⟩ := HN.out.bp.cells1
        obtain ⟨⟨ta, tp, tt⟩, htx⟩ : ∃ s, s = (pstepF mk lk i).2[i]?.getD (0, 0, 0) := ⟨_, rfl⟩
        obtain ⟨g', hgq, _, _, hc, hfz⟩ := hr1.at_ (0, 0, 0) hinl
        obtain rfl : g = g' := by simpa using hgq
        have f1 := hc 1 (by omega)
        rw [← htx] at f1
        simp only [encS] at f1
        have HW := hid (show whoK m0 l0 (vpk nl picks) kk = if sp ≠ 3 ∧ tp = 3 then (i : Int) else -1 by
          unfold whoK whoS
          rw [HVB.out, ← HST.out]
          dsimp only
          rw [show ((i : Int)).toNat = i from rfl, ← HSX.out, ← htx])
        clear hgq hc hr1 hb1 htx
        by_cases h3 : sp = 3
        · have e3 : (sp != 3) = false := by simpa using h3
          have HWV := hid (show (if sp ≠ 3 ∧ tp = 3 then (i : Int) else -1) = -1 from if_neg (fun h => h.1 h3))
          clear h3
          have hy0 := hY kk w1 HVA.out HJ1.out HN.out
          rw [show whoK m0 l0 (vpk nl picks) kk = -1 from HW.out.trans HWV.out] at hy0
          obtain ⟨fn, tmps, assign, body, hy, hR⟩ := hy0
          clear hY
          go_upto_region 9 with fail
          clear a0 a1 a2 a3 af p0 pf f1 hfz
          refine (wpIn_wide (n := M)).1 ?_
          gi_wp2
          refine hR.mono ?_
          rintro e W3 (⟨rfl, hJ3, hI3⟩ | ⟨rfl, hJx3⟩)
          · gi_wp2
            go_wp2_with fail
            go_roundw
            case rel => exact ⟨j + 1, by omega, by go_num, by rw [HTS2.out]; exact hJ3, by rw [HTS2.out]; exact hI3⟩
            case measure => simp [intOf]; omega
          · gi_wp2
            go_wp2_with fail
            (try rw [Exit.noGoto_ret])
            exact bodyPost_ret (v := .tuple #[]) (by simp [results, Try.results56, go_sem]) rfl ⟨⟨_, rfl⟩, .inr ⟨_, hJx3⟩⟩
        · have e3 : (sp != 3) = true := by simpa using h3
          by_cases h4 : tp = 3
          · have e4 : (tp == 3) = true := by simpa using h4
            have HWV := hid (show (if sp ≠ 3 ∧ tp = 3 then (i : Int) else -1) = (i : Int) from if_pos ⟨h3, h4⟩)
            clear h3 h4
            have hy0 := hY kk w1 HVA.out HJ1.out HN.out
            rw [show whoK m0 l0 (vpk nl picks) kk = (i : Int) from HW.out.trans HWV.out] at hy0
            obtain ⟨fn, tmps, assign, body, hy, hR⟩ := hy0
            clear hY
            go_upto_region 9 with fail
            clear a0 a1 a2 a3 af p0 pf f1 hfz
            refine (wpIn_wide (n := M)).1 ?_
            gi_wp2
            refine hR.mono ?_
            rintro e W3 (⟨rfl, hJ3, hI3⟩ | ⟨rfl, hJx3⟩)
            · gi_wp2
              go_wp2_with fail
              go_roundw
              case rel => exact ⟨j + 1, by omega, by go_num, by rw [HTS2.out]; exact hJ3, by rw [HTS2.out]; exact hI3⟩
              case measure => simp [intOf]; omega
            · gi_wp2
              go_wp2_with fail
              (try rw [Exit.noGoto_ret])
              exact bodyPost_ret (v := .tuple #[]) (by simp [results, Try.results56, go_sem]) rfl ⟨⟨_, rfl⟩, .inr ⟨_, hJx3⟩⟩
          · have e4 : (tp == 3) = false := by simpa using h4
            have HWV := hid (show (if sp ≠ 3 ∧ tp = 3 then (i : Int) else -1) = -1 from if_neg (fun h => h4 h.2))
            clear h3 h4
            have hy0 := hY kk w1 HVA.out HJ1.out HN.out
            rw [show whoK m0 l0 (vpk nl picks) kk = -1 from HW.out.trans HWV.out] at hy0
            obtain ⟨fn, tmps, assign, body, hy, hR⟩ := hy0
            clear hY
            go_upto_region 9 with fail
            clear a0 a1 a2 a3 af p0 pf f1 hfz
            refine (wpIn_wide (n := M)).1 ?_
            gi_wp2
            refine hR.mono ?_
            rintro e W3 (⟨rfl, hJ3, hI3⟩ | ⟨rfl, hJx3⟩)
            · gi_wp2
              go_wp2_with fail
              go_roundw
              case rel => exact ⟨j + 1, by omega, by go_num, by rw [HTS2.out]; exact hJ3, by rw [HTS2.out]; exact hI3⟩
              case measure => simp [intOf]; omega
            · gi_wp2
              go_wp2_with fail
              (try rw [Exit.noGoto_ret])
              exact bodyPost_ret (v := .tuple #[]) (by simp [results, Try.results56, go_sem]) rfl ⟨⟨_, rfl⟩, .inr ⟨_, hJx3⟩⟩
      · have HTS2 := hid (show (vpk nl (picks.take (j + 1))).length = kk by rw [HTS.out, if_neg hin, ← HKK.out])
        clear HTS
        by_cases hi0 : i < 0
        · have hd0 : decide (i < 0) = true := decide_eq_true hi0
          clear hin
          go_wp2_with fail
          go_roundw
          case rel => exact ⟨j + 1, by omega, by go_num, by rw [HTS2.out]; exact HJ.out, by rw [HTS2.out]; exact HH.out⟩
          case measure => simp [intOf]; omega
        · have hd0 : decide (i < 0) = false := decide_eq_false hi0
          have hd1 : decide ((nl : Int) ≤ i) = true := decide_eq_true (by omega)
          have hge : (nl : Int) ≤ i := by omega
          clear hin
          go_wp2_with fail
          go_roundw
          case rel => exact ⟨j + 1, by omega, by go_num, by rw [HTS2.out]; exact HJ.out, by rw [HTS2.out]; exact HH.out⟩
          case measure => simp [intOf]; omega
    · obtain rfl : j = nq := by omega
      have hall : vpk nl (picks.take j) = vpk nl picks := by rw [List.take_of_length_le (Nat.le_of_eq HNQ.out)]
      rw [hall] at HJ HH
      go_wp2
      simp only [Exit.noGoto]
      go_end0
      exact ⟨⟨_, rfl⟩, .inl ⟨HJ.out, HH.out⟩⟩
end Go.Proofs.Ytaeanmkbongfcaa
