/- afterglowlaw05.SpinTakes returns true at every one who wants a lock and row of what accesses come to, and turns nothing old. No condition. -/
import Derived.Test.YtaeanmkbongfcaaSp14
import Derived.Deep.DeepCutAuto
import Derived.Deep.CutBlock
import Derived.Test.YtaeanmkbongfcaaKitU
namespace Go.Proofs.Ytaeanmkbongfcaa
open Go.RowKit
theorem Sm.got {w : World} {b off n : Nat} {xs : List (Int × Bool)} (hc : ∀ k, k < n → ∀ j, j < 2 → w.cell? ⟨b, off + k * 2 + j, none⟩ = some (encG (xs[k]?.getD (0, false)) j)) {k : Nat} (hk : k < n) :
    w.cell? ⟨b, off + k * 2, none⟩ = some (.int .u64 (xs[k]?.getD (0, false)).1) ∧ w.cell? ⟨b, off + k * 2 + 1, none⟩ = some (.bool (xs[k]?.getD (0, false)).2) :=
  ⟨by have := hc k hk 0 (by omega); rwa [Nat.add_zero] at this, hc k hk 1 (by omega)⟩
set_option maxRecDepth 100000 in
set_option maxHeartbeats 8000000 in
theorem sptakes_bad (a p t : Int) (L : Option Addr) (nl cl : Nat) (ls : List (Int × Bool)) (w : World) (hl : Sm 2 encG (0, false) w 0 w.heap.size L nl ls) (hnl : nl ≤ 9223372036854775807) (hyp : ¬ SpGood (a, p, t)) :
    Calls Try.prog 4 #[sv a p t, .slice L nl cl] w fun e w' => e = .returned (.bool true) ∧ Below w.heap.size w w' := by
  have HL := hid hl; have HB := hid (Below.refl w.heap.size w); have HY := hid hyp
  clear hl hyp
  have HR := hid (show decide (SpGood (a, p, t)) = false from decide_eq_false HY.out)
  have HC := hid (show spCheckC (a, p, t) = 150 from if_neg HY.out)
  have HN := hid (show spNeedF (a, p, t) = ((0, 0, 0, 0), false) from if_neg (fun h => HY.out h.1))
  have HV := hid (show spLeaveF (a, p, t) = ((0, 0, 0), 150) from if_pos HY.out)
  have HL0 := HL
  have bx := below_box w (.cells (scs a p t) 38)
  replace HB := hid (below_then HB.out bx)
  clear bx
  have PS := hid (Blk.new w 38 (scs a p t))
  go_enter Try.func4, Try.ntmps4
  go_wp2_with fail
  generalize w.alloc (.cells (scs a p t) 38) = W0 at *
  refine (spwakes_any W0).mono ?_
  rintro e w1 ⟨rfl, hb⟩
  replace PS := hid (PS.out.step hb); replace HB := hid (below_then HB.out hb)
  clear hb
  obtain ⟨y00, y01, y02, yf0⟩ := PS.out.cells3
  go_wp2_with fail
  clear y00 y01 y02 yf0
  refine (rspright_any a p t w1).mono ?_
  rintro e w2 ⟨rfl, hb⟩
  replace PS := hid (PS.out.step hb); replace HB := hid (below_then HB.out hb)
  clear hb
  rw [HR.out]
  obtain ⟨y00, y01, y02, yf0⟩ := PS.out.cells3
  go_wp2_with fail
  clear y00 y01 y02 yf0
  refine (spcheck_any a p t w2).mono ?_
  rintro e w3 ⟨rfl, hb⟩
  replace PS := hid (PS.out.step hb); replace HB := hid (below_then HB.out hb)
  clear hb
  rw [HC.out]
  obtain ⟨y00, y01, y02, yf0⟩ := PS.out.cells3
  go_wp2_with fail
  clear y00 y01 y02 yf0
  refine (spneed_any a p t w3).mono ?_
  rintro e w4 ⟨rfl, hb⟩
  replace PS := hid (PS.out.step hb); replace HB := hid (below_then HB.out hb)
  clear hb
  rw [HN.out]
  dsimp only
  have hps := hid PS.out.lt
  have bx := below_box w4 (.cells (acs 0 0 0 0) 49)
  replace PS := hid (PS.out.step bx); replace HB := hid (below_then HB.out bx)
  clear bx
  have PA := hid (Blk.new w4 49 (acs 0 0 0 0))
  have bx := below_box (w4.alloc (.cells (acs 0 0 0 0) 49)) (.cells (acs 0 0 0 0) 49)
  replace PS := hid (PS.out.step bx); replace PA := hid (PA.out.step bx); replace HB := hid (below_then HB.out bx)
  clear bx
  have PW := hid (Blk.new2 w4 49 (acs 0 0 0 0) (.cells (acs 0 0 0 0) 49))
  obtain ⟨y00, y01, y02, yf0⟩ := PS.out.cells3
  go_upto_region 7 with fail
  clear y00 y01 y02 yf0
  have hz4 := hid (show ((w4.alloc (.cells (acs 0 0 0 0) 49)).alloc (.cells (acs 0 0 0 0) 49)).heap.size = w4.heap.size + 2 by simp)
  generalize (w4.alloc (.cells (acs 0 0 0 0) 49)).alloc (.cells (acs 0 0 0 0) 49) = W4 at *
  have hneq := neqs_acc 0 0 0 0
  obtain ⟨y00, y01, y02, yf0⟩ := PS.out.cells3
  obtain ⟨y10, y11, y12, y13, yf1⟩ := PA.out.cells4
  obtain ⟨y20, y21, y22, y23, yf2⟩ := PW.out.cells4
  go_upto_block 0 with fail
  clear hneq y00 y01 y02 yf0 y10 y11 y12 y13 yf1 y20 y21 y22 y23 yf2
  clear PA PW
  have XPS := PS; have XB := HB; have H0 := hid (Below.refl W4.heap.size W4)
  go_cut [] (fun wx => Below W4.heap.size W4 wx)
  case first =>
    go_wp2_with fail
    go_loopw [66] (fun i wr => ∃ j : Nat, j ≤ nl ∧ j ≤ 6 ∧ i = .int .i64 j ∧ Below W4.heap.size W4 wr) (fun i _ => nl - (intOf i).toNat)
    case atStart => exact ⟨0, Nat.zero_le _, by omega, rfl, H0.out⟩
    case round =>
      clear PS HB H0
      obtain ⟨j, hj, hj6, rfl, hbr⟩ := hrel
      have HBR := hid hbr; have PS := hid (XPS.out.step hbr)
      have HLW := hid (HL0.out.below (below_then XB.out hbr) (Nat.le_refl _))
      clear hbr
      by_cases hjl : j < nl
      · obtain ⟨b, off, rfl, _, _, hc⟩ := HLW.out.row (by omega)
        obtain ⟨f0, f1⟩ := Sm.got hc hjl
        obtain ⟨⟨gx, gy⟩, hx⟩ : ∃ x, x = ls[j]?.getD (0, false) := ⟨_, rfl⟩
        rw [← hx] at f0 f1
        clear hc hx HLW
        by_cases hj2 : j = 6
        · have hjb : ((j : Int) == 6) = true := by simp; omega
          subst hj2
          simp only [show ((6 : Nat) : Int) = 6 from rfl] at *
          have h6n : (6 : Int) < (nl : Int) := by omega
          go_wp2
          go_meet
          exact below_then HBR.out (below_box _ _)
        have hjb : ((j : Int) == 6) = false := by simp; omega
        have hji : (j : Int) < (nl : Int) := by omega
        have bx := below_box wr (.cells #[.int .u64 gx, .bool gy] 54)
        replace PS := hid (PS.out.step bx); replace HBR := hid (below_then HBR.out bx)
        clear bx
        have PG := hid (Blk.new wr 54 #[.int .u64 gx, .bool gy])
        skip
        go_upto_region 15 with fail
        clear f0 f1
        generalize wr.alloc (.cells #[.int .u64 gx, .bool gy] 54) = W8 at *
        obtain ⟨⟨⟨ta, tp, tt⟩, tc⟩, htk⟩ : ∃ x, x = spTakeF (a, p, t) (gx, gy) := ⟨_, rfl⟩
        have HTK := hid htk
        clear htk
        obtain ⟨y00, y01, y02, yf0⟩ := PS.out.cells3
        obtain ⟨y10, y11, yf1⟩ := PG.out.cells2
        go_wp2_with fail
        clear y00 y01 y02 yf0 y10 y11 yf1
        refine (sptake_any a p t gx gy W8).mono ?_
        rintro e w9 ⟨rfl, hb⟩
        replace PS := hid (PS.out.step hb); replace PG := hid (PG.out.step hb); replace HBR := hid (below_then HBR.out hb)
        clear hb
        rw [← HTK.out]
        dsimp only
        have hw9 := hid HBR.out.size
        have bx := below_box w9 (.cells (scs ta tp tt) 38)
        replace PS := hid (PS.out.step bx); replace PG := hid (PG.out.step bx); replace HBR := hid (below_then HBR.out bx)
        clear bx
        have PN := hid (Blk.new w9 38 (scs ta tp tt))
        have bx := below_box (w9.alloc (.cells (scs ta tp tt) 38)) (.cells (scs 0 0 0) 38)
        replace PS := hid (PS.out.step bx); replace PG := hid (PG.out.step bx); replace PN := hid (PN.out.step bx); replace HBR := hid (below_then HBR.out bx)
        clear bx
        have PT := hid (Blk.new2 w9 38 (scs 0 0 0) (.cells (scs ta tp tt) 38))
        obtain ⟨⟨rfl, rfl, rfl⟩, rfl⟩ : (ta = 0 ∧ tp = 0 ∧ tt = 0) ∧ tc = 150 := by have := HTK.out; rw [show spTakeF (a, p, t) (gx, gy) = ((0, 0, 0), 150) from if_pos HY.out] at this; simpa using this
        have hns := neqs_spn 0 0 0
        obtain ⟨y00, y01, y02, yf0⟩ := PN.out.cells3
        obtain ⟨y10, y11, y12, yf1⟩ := PT.out.cells3
        go_wp2_with fail
        clear y00 y01 y02 yf0 y10 y11 y12 yf1 hns
        go_roundw
        case rel => exact ⟨j + 1, by omega, by omega, by go_num, HBR.out⟩
        case measure => simp [intOf]; omega
      · obtain rfl : j = nl := by omega
        go_wp2
        go_meet
        exact HBR.out
  case rest =>
    rename World => W20
    have hb := hcut
    clear hcut
    replace PS := hid (PS.out.step hb); replace HB := hid (below_then HB.out hb)
    clear hb H0
    obtain ⟨y00, y01, y02, yf0⟩ := PS.out.cells3
    go_wp2_with fail
    clear y00 y01 y02 yf0
    refine (spleave_any a p t W20).mono ?_
    rintro e w21 ⟨rfl, hb⟩
    replace PS := hid (PS.out.step hb); replace HB := hid (below_then HB.out hb)
    clear hb
    rw [HV.out]
    dsimp only
    have hps21 := hid PS.out.lt
    have bx := below_box w21 (.cells (scs 0 0 0) 38)
    replace PS := hid (PS.out.step bx); replace HB := hid (below_then HB.out bx)
    clear bx
    have P1 := hid (Blk.new w21 38 (scs 0 0 0))
    have bx := below_box (w21.alloc (.cells (scs 0 0 0) 38)) (.cells (scs 0 0 0) 38)
    replace PS := hid (PS.out.step bx); replace P1 := hid (P1.out.step bx); replace HB := hid (below_then HB.out bx)
    clear bx
    have P2 := hid (Blk.new2 w21 38 (scs 0 0 0) (.cells (scs 0 0 0) 38))
    have hns := eqds_spn 0 0 0; have hna := eqds_spn a 0 0
    obtain ⟨y00, y01, y02, yf0⟩ := PS.out.cells3
    obtain ⟨y10, y11, y12, yf1⟩ := P1.out.cells3
    obtain ⟨y20, y21, y22, yf2⟩ := P2.out.cells3
    go_upto_region 31 with fail
    clear y00 y01 y02 yf0 y10 y11 y12 yf1 y20 y21 y22 yf2
    have hz21 := hid (show ((w21.alloc (.cells (scs 0 0 0) 38)).alloc (.cells (scs 0 0 0) 38)).heap.size = w21.heap.size + 2 by simp)
    generalize (w21.alloc (.cells (scs 0 0 0) 38)).alloc (.cells (scs 0 0 0) 38) = W21 at *
    clear XPS XB
    have bx := (Below.refl W21.heap.size W21).drew
    replace PS := hid (PS.out.step bx); replace P1 := hid (P1.out.step bx); replace P2 := hid (P2.out.step bx); replace HB := hid (below_then HB.out bx)
    clear bx
    have hszd := hid (show W21.drew.heap.size = W21.heap.size from rfl)
    refine wp_region_noPanic ?_
    refine wp_region_held_drew (S := (fun W' : World => W'.cell? ⟨w.heap.size, 0, none⟩ = some (.int .i64 a) ∧ W'.cell? ⟨w.heap.size, 1, none⟩ = some (.int .i64 p) ∧ W'.cell? ⟨w.heap.size, 2, none⟩ = some (.int .u64 t) ∧ W'.cell? ⟨w21.heap.size, 0, none⟩ = some (.int .i64 0) ∧ W'.cell? ⟨w21.heap.size, 1, none⟩ = some (.int .i64 0) ∧ W'.cell? ⟨w21.heap.size, 2, none⟩ = some (.int .u64 0) ∧ W'.cell? ⟨w21.heap.size + 1, 0, none⟩ = some (.int .i64 0) ∧ W'.cell? ⟨w21.heap.size + 1, 1, none⟩ = some (.int .i64 0) ∧ W'.cell? ⟨w21.heap.size + 1, 2, none⟩ = some (.int .u64 0))) (by kernel_rfl) ⟨PS.out.cells3.1, PS.out.cells3.2.1, PS.out.cells3.2.2.1, P1.out.cells3.1, P1.out.cells3.2.1, P1.out.cells3.2.2.1, P2.out.cells3.1, P2.out.cells3.2.1, P2.out.cells3.2.2.1⟩ (fun hS => ?_)
    generalize W21.drew = Wd at *
    refine wpAnyH_take (i := 0) (v := ?_) (by simp only [List.getElem?_toArray, List.getElem?_cons_succ, List.getElem?_cons_zero]; rfl) (by kernel_rfl) (by kernel_rfl) (by kernel_rfl) (fun _ _ _ h => h) (Or.inl ⟨by rfl, ?_⟩) hS ?_
    rotate_left
    · intro w' hSw; (try dsimp only at hSw); go_split_ands; go_simp; (try with_reducible rfl)
    (try simp only [Act.put, List.setIfInBounds_toArray, List.set_cons_zero, List.set_cons_succ])
    refine wpAnyH_take (i := 1) (v := ?_) (by simp only [List.getElem?_toArray, List.getElem?_cons_succ, List.getElem?_cons_zero]; rfl) (by kernel_rfl) (by kernel_rfl) (by kernel_rfl) (fun _ _ _ h => h) (Or.inl ⟨by rfl, ?_⟩) hS ?_
    rotate_left
    · intro w' hSw; (try dsimp only at hSw); go_split_ands; go_simp; (try with_reducible rfl)
    (try simp only [Act.put, List.setIfInBounds_toArray, List.set_cons_zero, List.set_cons_succ])
    refine wpAnyH_take (i := 2) (v := ?_) (by simp only [List.getElem?_toArray, List.getElem?_cons_succ, List.getElem?_cons_zero]; rfl) (by kernel_rfl) (by kernel_rfl) (by kernel_rfl) (fun _ _ _ h => h) (Or.inl ⟨by rfl, ?_⟩) hS ?_
    rotate_left
    · intro w' hSw; (try dsimp only at hSw); go_split_ands; go_simp; (try with_reducible rfl)
    (try simp only [Act.put, List.setIfInBounds_toArray, List.set_cons_zero, List.set_cons_succ])
    refine wpAnyH_take (i := 3) (v := ?_) (by simp only [List.getElem?_toArray, List.getElem?_cons_succ, List.getElem?_cons_zero]; rfl) (by kernel_rfl) (by kernel_rfl) (by kernel_rfl) (fun _ _ _ h => h) (Or.inl ⟨by rfl, ?_⟩) hS ?_
    rotate_left
    · intro w' hSw; (try dsimp only at hSw); go_split_ands; go_simp; (try with_reducible rfl)
    (try simp only [Act.put, List.setIfInBounds_toArray, List.set_cons_zero, List.set_cons_succ])
    refine wpAnyH_take (i := 4) (v := ?_) (by simp only [List.getElem?_toArray, List.getElem?_cons_succ, List.getElem?_cons_zero]; rfl) (by kernel_rfl) (by kernel_rfl) (by kernel_rfl) (fun _ _ _ h => h) (Or.inl ⟨by rfl, ?_⟩) hS ?_
    rotate_left
    · intro w' hSw; (try dsimp only at hSw); go_split_ands; go_simp; (try with_reducible rfl)
    (try simp only [Act.put, List.setIfInBounds_toArray, List.set_cons_zero, List.set_cons_succ])
    refine wpAnyH_take (i := 5) (v := ?_) (by simp only [List.getElem?_toArray, List.getElem?_cons_succ, List.getElem?_cons_zero]; rfl) (by kernel_rfl) (by kernel_rfl) (by kernel_rfl) (fun _ _ _ h => h) (Or.inl ⟨by rfl, ?_⟩) hS ?_
    rotate_left
    · intro w' hSw; (try dsimp only at hSw); go_split_ands; go_simp; (try with_reducible rfl)
    (try simp only [Act.put, List.setIfInBounds_toArray, List.set_cons_zero, List.set_cons_succ])
    refine wpAnyH_take (i := 6) (v := ?_) (by simp only [List.getElem?_toArray, List.getElem?_cons_succ, List.getElem?_cons_zero]; rfl) (by kernel_rfl) (by kernel_rfl) (by kernel_rfl) (fun _ _ _ h => h) (Or.inl ⟨by rfl, ?_⟩) hS ?_
    rotate_left
    · intro w' hSw; (try dsimp only at hSw); go_split_ands; go_simp; (try with_reducible rfl)
    (try simp only [Act.put, List.setIfInBounds_toArray, List.set_cons_zero, List.set_cons_succ])
    refine wpAnyH_take (i := 7) (v := ?_) (by simp only [List.getElem?_toArray, List.getElem?_cons_succ, List.getElem?_cons_zero]; rfl) (by kernel_rfl) (by kernel_rfl) (by kernel_rfl) (fun _ _ _ h => h) (Or.inl ⟨by rfl, ?_⟩) hS ?_
    rotate_left
    · intro w' hSw; (try dsimp only at hSw); go_split_ands; go_simp; (try with_reducible rfl)
    (try simp only [Act.put, List.setIfInBounds_toArray, List.set_cons_zero, List.set_cons_succ])
    refine wpAnyH_take (i := 8) (v := ?_) (by simp only [List.getElem?_toArray, List.getElem?_cons_succ, List.getElem?_cons_zero]; rfl) (by kernel_rfl) (by kernel_rfl) (by kernel_rfl) (fun _ _ _ h => h) (Or.inl ⟨by rfl, ?_⟩) hS ?_
    rotate_left
    · intro w' hSw; (try dsimp only at hSw); go_split_ands; go_simp; (try with_reducible rfl)
    (try simp only [Act.put, List.setIfInBounds_toArray, List.set_cons_zero, List.set_cons_succ])
    refine wpAnyH_take (i := 9) (v := ?_) (by simp only [List.getElem?_toArray, List.getElem?_cons_succ, List.getElem?_cons_zero]; rfl) (by kernel_rfl) (by kernel_rfl) (by kernel_rfl) (fun _ _ _ h => h) (Or.inl ⟨by rfl, ?_⟩) hS ?_
    rotate_left
    · intro w' hSw; (try dsimp only at hSw); go_split_ands; go_simp; (try with_reducible rfl)
    (try simp only [Act.put, List.setIfInBounds_toArray, List.set_cons_zero, List.set_cons_succ])
    refine wpAnyH_take (i := 10) (v := ?_) (by simp only [List.getElem?_toArray, List.getElem?_cons_succ, List.getElem?_cons_zero]; rfl) (by kernel_rfl) (by kernel_rfl) (by kernel_rfl) (fun _ _ _ h => h) (Or.inl ⟨by rfl, ?_⟩) hS ?_
    rotate_left
    · intro w' hSw; (try dsimp only at hSw); go_split_ands; go_simp; (try with_reducible rfl)
    (try simp only [Act.put, List.setIfInBounds_toArray, List.set_cons_zero, List.set_cons_succ])
    refine wpAnyH_take (i := 12) (v := ?_) (by simp only [List.getElem?_toArray, List.getElem?_cons_succ, List.getElem?_cons_zero]; rfl) (by kernel_rfl) (by kernel_rfl) (by kernel_rfl) (fun _ _ _ h => h) (Or.inl ⟨by rfl, ?_⟩) hS ?_
    rotate_left
    · intro w' hSw; (try dsimp only at hSw); go_split_ands; go_simp; (try with_reducible rfl)
    (try simp only [Act.put, List.setIfInBounds_toArray, List.set_cons_zero, List.set_cons_succ])
    refine wpAnyH_take (i := 13) (v := ?_) (by simp only [List.getElem?_toArray, List.getElem?_cons_succ, List.getElem?_cons_zero]; rfl) (by kernel_rfl) (by kernel_rfl) (by kernel_rfl) (fun _ _ _ h => h) (Or.inl ⟨by rfl, ?_⟩) hS ?_
    rotate_left
    · intro w' hSw; (try dsimp only at hSw); go_split_ands; go_simp; (try with_reducible rfl)
    (try simp only [Act.put, List.setIfInBounds_toArray, List.set_cons_zero, List.set_cons_succ])
    refine wpAnyH_take (i := 14) (v := ?_) (by simp only [List.getElem?_toArray, List.getElem?_cons_succ, List.getElem?_cons_zero]; rfl) (by kernel_rfl) (by kernel_rfl) (by kernel_rfl) (fun _ _ _ h => h) (Or.inl ⟨by rfl, ?_⟩) hS ?_
    rotate_left
    · intro w' hSw; (try dsimp only at hSw); go_split_ands; go_simp; (try with_reducible rfl)
    (try simp only [Act.put, List.setIfInBounds_toArray, List.set_cons_zero, List.set_cons_succ])
    refine wpAnyH_ready (rs := [11]) (by kernel_rfl) (by simp) ?_
    refine AllReadyH.cons (by simp only [List.getElem?_toArray, List.getElem?_cons_succ, List.getElem?_cons_zero]; rfl) (fun K hK => ?_) ?_
    · skip
      go_simp
      refine (ask_any a _).mono ?_
      rintro e w22 ⟨rfl, hb⟩
      have hsz0 := hid (show Wd.heap.size ≤ w22.heap.size from hb.size)
      replace PS := hid (PS.out.step hb); replace P1 := hid (P1.out.step hb); replace P2 := hid (P2.out.step hb); replace HB := hid (below_then HB.out hb)
      clear hb
      go_wp2_with fail
      have hS' : (fun W' : World => W'.cell? ⟨w.heap.size, 0, none⟩ = some (.int .i64 a) ∧ W'.cell? ⟨w.heap.size, 1, none⟩ = some (.int .i64 p) ∧ W'.cell? ⟨w.heap.size, 2, none⟩ = some (.int .u64 t) ∧ W'.cell? ⟨w21.heap.size, 0, none⟩ = some (.int .i64 0) ∧ W'.cell? ⟨w21.heap.size, 1, none⟩ = some (.int .i64 0) ∧ W'.cell? ⟨w21.heap.size, 2, none⟩ = some (.int .u64 0) ∧ W'.cell? ⟨w21.heap.size + 1, 0, none⟩ = some (.int .i64 0) ∧ W'.cell? ⟨w21.heap.size + 1, 1, none⟩ = some (.int .i64 0) ∧ W'.cell? ⟨w21.heap.size + 1, 2, none⟩ = some (.int .u64 0)) _ := ⟨PS.out.cells3.1, PS.out.cells3.2.1, PS.out.cells3.2.2.1, P1.out.cells3.1, P1.out.cells3.2.1, P1.out.cells3.2.2.1, P2.out.cells3.1, P2.out.cells3.2.1, P2.out.cells3.2.2.1⟩
      refine hK.out _ _ hS' (fun _ => ?_)
      clear hK K hS
      have hS := hS'
      clear hS'
      (try simp only [Act.put, List.setIfInBounds_toArray, List.set_cons_zero, List.set_cons_succ])
      refine wpAnyH_take (i := 15) (v := ?_) (by simp only [List.getElem?_toArray, List.getElem?_cons_succ, List.getElem?_cons_zero]; rfl) (by kernel_rfl) (by kernel_rfl) (by kernel_rfl) (fun _ _ _ h => h) (Or.inl ⟨by rfl, ?_⟩) hS ?_
      rotate_left
      · intro w' hSw; (try dsimp only at hSw); go_split_ands; go_simp; (try with_reducible rfl)
      (try simp only [Act.put, List.setIfInBounds_toArray, List.set_cons_zero, List.set_cons_succ])
      refine wpAnyH_take (i := 16) (v := ?_) (by simp only [List.getElem?_toArray, List.getElem?_cons_succ, List.getElem?_cons_zero]; rfl) (by kernel_rfl) (by kernel_rfl) (by kernel_rfl) (fun _ _ _ h => h) (Or.inl ⟨by rfl, ?_⟩) hS ?_
      rotate_left
      · intro w' hSw; (try dsimp only at hSw); go_split_ands; go_simp; (try with_reducible rfl)
      (try simp only [Act.put, List.setIfInBounds_toArray, List.set_cons_zero, List.set_cons_succ])
      refine wpAnyH_take (i := 17) (v := ?_) (by simp only [List.getElem?_toArray, List.getElem?_cons_succ, List.getElem?_cons_zero]; rfl) (by kernel_rfl) (by kernel_rfl) (by kernel_rfl) (fun _ _ _ h => h) (Or.inl ⟨by rfl, ?_⟩) hS ?_
      rotate_left
      · intro w' hSw; (try dsimp only at hSw); go_split_ands; go_simp; (try with_reducible rfl)
      (try simp only [Act.put, List.setIfInBounds_toArray, List.set_cons_zero, List.set_cons_succ])
      refine wpAnyH_done (by kernel_rfl) ?_ _
      refine NoPanic.normal ?_
      clear hS
      go_wp2
      go_ret
      exact ⟨rfl, HB.out⟩
    exact AllReadyH.nil
set_option maxRecDepth 100000 in
set_option maxHeartbeats 8000000 in
theorem sptakes_has (a p t : Int) (L : Option Addr) (nl cl : Nat) (ls : List (Int × Bool)) (w : World) (hl : Sm 2 encG (0, false) w 0 w.heap.size L nl ls) (hnl : nl ≤ 9223372036854775807) (hyp : SpGood (a, p, t) ∧ spHas p) :
    Calls Try.prog 4 #[sv a p t, .slice L nl cl] w fun e w' => e = .returned (.bool true) ∧ Below w.heap.size w w' := by
  have HL := hid hl; have HB := hid (Below.refl w.heap.size w); have HY := hid hyp
  clear hl hyp
  have HG := hid HY.out.1; have HH := hid HY.out.2
  have HR := hid (show decide (SpGood (a, p, t)) = true from decide_eq_true HG.out)
  have HC := hid (show spCheckC (a, p, t) = 0 from if_pos HG.out)
  have HHS := hid (show decide (spHas p) = true from decide_eq_true HH.out)
  obtain ⟨⟨nk, na, no, nn⟩, hnd⟩ : ∃ x, x = spNeed (a, p, t) := ⟨_, rfl⟩
  have HND := hid hnd
  have HN := hid (show spNeedF (a, p, t) = ((nk, na, no, nn), true) by rw [hnd]; exact if_pos HY.out)
  clear hnd
  have hp3 : (p : Int) ≠ 3 := by exact HH.out.1
  have HV := hid (show spLeaveF (a, p, t) = ((0, 0, 0), 2) by rw [spLeaveF, if_neg (not_not_intro HG.out), if_pos hp3])
  have hp3b : ((p : Int) == 3) = false := by simpa using hp3
  clear hp3
  have HL0 := HL
  have bx := below_box w (.cells (scs a p t) 38)
  replace HB := hid (below_then HB.out bx)
  clear bx
  have PS := hid (Blk.new w 38 (scs a p t))
  go_enter Try.func4, Try.ntmps4
  go_wp2_with fail
  generalize w.alloc (.cells (scs a p t) 38) = W0 at *
  refine (spwakes_any W0).mono ?_
  rintro e w1 ⟨rfl, hb⟩
  replace PS := hid (PS.out.step hb); replace HB := hid (below_then HB.out hb)
  clear hb
  obtain ⟨y00, y01, y02, yf0⟩ := PS.out.cells3
  go_wp2_with fail
  clear y00 y01 y02 yf0
  refine (rspright_any a p t w1).mono ?_
  rintro e w2 ⟨rfl, hb⟩
  replace PS := hid (PS.out.step hb); replace HB := hid (below_then HB.out hb)
  clear hb
  rw [HR.out]
  obtain ⟨y00, y01, y02, yf0⟩ := PS.out.cells3
  go_wp2_with fail
  clear y00 y01 y02 yf0
  refine (spcheck_any a p t w2).mono ?_
  rintro e w3 ⟨rfl, hb⟩
  replace PS := hid (PS.out.step hb); replace HB := hid (below_then HB.out hb)
  clear hb
  rw [HC.out]
  obtain ⟨y00, y01, y02, yf0⟩ := PS.out.cells3
  go_wp2_with fail
  clear y00 y01 y02 yf0
  refine (spneed_any a p t w3).mono ?_
  rintro e w4 ⟨rfl, hb⟩
  replace PS := hid (PS.out.step hb); replace HB := hid (below_then HB.out hb)
  clear hb
  rw [HN.out]
  dsimp only
  have hps := hid PS.out.lt
  have bx := below_box w4 (.cells (acs nk na no nn) 49)
  replace PS := hid (PS.out.step bx); replace HB := hid (below_then HB.out bx)
  clear bx
  have PA := hid (Blk.new w4 49 (acs nk na no nn))
  have bx := below_box (w4.alloc (.cells (acs nk na no nn) 49)) (.cells (acs 0 0 0 0) 49)
  replace PS := hid (PS.out.step bx); replace PA := hid (PA.out.step bx); replace HB := hid (below_then HB.out bx)
  clear bx
  have PW := hid (Blk.new2 w4 49 (acs 0 0 0 0) (.cells (acs nk na no nn) 49))
  obtain ⟨y00, y01, y02, yf0⟩ := PS.out.cells3
  go_upto_region 7 with fail
  clear y00 y01 y02 yf0
  have hz4 := hid (show ((w4.alloc (.cells (acs nk na no nn) 49)).alloc (.cells (acs 0 0 0 0) 49)).heap.size = w4.heap.size + 2 by simp)
  generalize (w4.alloc (.cells (acs nk na no nn) 49)).alloc (.cells (acs 0 0 0 0) 49) = W4 at *
  obtain ⟨y00, y01, y02, yf0⟩ := PS.out.cells3
  obtain ⟨y10, y11, y12, y13, yf1⟩ := PA.out.cells4
  obtain ⟨y20, y21, y22, y23, yf2⟩ := PW.out.cells4
  go_wp2_with fail
  clear y00 y01 y02 yf0 y10 y11 y12 y13 yf1 y20 y21 y22 y23 yf2
  refine (rsphas_any a p t W4).mono ?_
  rintro e w5 ⟨rfl, hb⟩
  replace PS := hid (PS.out.step hb); replace PA := hid (PA.out.step hb); replace PW := hid (PW.out.step hb); replace HB := hid (below_then HB.out hb)
  clear hb
  rw [HHS.out]
  obtain ⟨y00, y01, y02, yf0⟩ := PS.out.cells3
  obtain ⟨y10, y11, y12, y13, yf1⟩ := PA.out.cells4
  obtain ⟨y20, y21, y22, y23, yf2⟩ := PW.out.cells4
  go_wp2_with fail
  clear y00 y01 y02 yf0 y10 y11 y12 y13 yf1 y20 y21 y22 y23 yf2
  refine (rspneed_any a p t w5).mono ?_
  rintro e w6 ⟨rfl, hb⟩
  replace PS := hid (PS.out.step hb); replace PA := hid (PA.out.step hb); replace PW := hid (PW.out.step hb); replace HB := hid (below_then HB.out hb)
  clear hb
  rw [← HND.out]
  dsimp only
  have hz46 := hid (show w4.heap.size ≠ w4.heap.size + 1 by omega)
  have hz46 := hid (show w.heap.size ≠ w4.heap.size + 1 ∧ w.heap.size ≤ w4.heap.size + 1 by have := hps.out; omega)
  obtain ⟨y00, y01, y02, yf0⟩ := PS.out.cells3
  obtain ⟨y10, y11, y12, y13, yf1⟩ := PA.out.cells4
  obtain ⟨y20, y21, y22, y23, yf2⟩ := PW.out.cells4
  go_upto_region 9 with fail
  clear y00 y01 y02 yf0 y10 y11 y12 y13 yf1 y20 y21 y22 y23 yf2
  replace PS := hid (((((PS.out.far (p := ⟨w4.heap.size + 1, 0, none⟩) (hz46.out.1) (.int .i64 nk)).far (p := ⟨w4.heap.size + 1, 1, none⟩) (hz46.out.1) (.int .i64 na)).far (p := ⟨w4.heap.size + 1, 2, none⟩) (hz46.out.1) (.int .u64 no)).far (p := ⟨w4.heap.size + 1, 3, none⟩) (hz46.out.1) (.int .u64 nn)))
  replace PA := hid (((((PA.out.far (p := ⟨w4.heap.size + 1, 0, none⟩) (by simp) (.int .i64 nk)).far (p := ⟨w4.heap.size + 1, 1, none⟩) (by simp) (.int .i64 na)).far (p := ⟨w4.heap.size + 1, 2, none⟩) (by simp) (.int .u64 no)).far (p := ⟨w4.heap.size + 1, 3, none⟩) (by simp) (.int .u64 nn)))
  replace HB := hid (((((HB.out.setCell (p := ⟨w4.heap.size + 1, 0, none⟩) (hz46.out.2) (.int .i64 nk)).setCell (p := ⟨w4.heap.size + 1, 1, none⟩) (hz46.out.2) (.int .i64 na)).setCell (p := ⟨w4.heap.size + 1, 2, none⟩) (hz46.out.2) (.int .u64 no)).setCell (p := ⟨w4.heap.size + 1, 3, none⟩) (hz46.out.2) (.int .u64 nn)))
  replace PW := hid (((((PW.out.setCell 0 (.int .i64 nk)).setCell 1 (.int .i64 na)).setCell 2 (.int .u64 no)).setCell 3 (.int .u64 nn)))
  generalize (((w6.setCell ⟨w4.heap.size + 1, 0, none⟩ (.int .i64 nk)).setCell ⟨w4.heap.size + 1, 1, none⟩ (.int .i64 na)).setCell ⟨w4.heap.size + 1, 2, none⟩ (.int .u64 no)).setCell ⟨w4.heap.size + 1, 3, none⟩ (.int .u64 nn) = W6 at *
  have hneq := neqs_acc nk na no nn
  obtain ⟨y00, y01, y02, yf0⟩ := PS.out.cells3
  obtain ⟨y10, y11, y12, y13, yf1⟩ := PA.out.cells4
  obtain ⟨y20, y21, y22, y23, yf2⟩ := PW.out.cells4
  go_wp2_with fail
  clear y00 y01 y02 yf0 y10 y11 y12 y13 yf1 y20 y21 y22 y23 yf2
  refine (rsphas_any a p t _).mono ?_
  rintro e w7 ⟨rfl, hb⟩
  replace PS := hid (PS.out.step hb); replace PA := hid (PA.out.step hb); replace PW := hid (PW.out.step hb); replace HB := hid (below_then HB.out hb)
  clear hb
  rw [HHS.out]
  obtain ⟨y00, y01, y02, yf0⟩ := PS.out.cells3
  obtain ⟨y10, y11, y12, y13, yf1⟩ := PA.out.cells4
  obtain ⟨y20, y21, y22, y23, yf2⟩ := PW.out.cells4
  go_upto_block 0 with fail
  clear hneq y00 y01 y02 yf0 y10 y11 y12 y13 yf1 y20 y21 y22 y23 yf2
  clear PA PW
  have XPS := PS; have XB := HB; have H0 := hid (Below.refl w7.heap.size w7)
  go_cut [] (fun wx => Below w7.heap.size w7 wx)
  case first =>
    go_wp2_with fail
    go_loopw [66] (fun i wr => ∃ j : Nat, j ≤ nl ∧ j ≤ 6 ∧ i = .int .i64 j ∧ Below w7.heap.size w7 wr) (fun i _ => nl - (intOf i).toNat)
    case atStart => exact ⟨0, Nat.zero_le _, by omega, rfl, H0.out⟩
    case round =>
      clear PS HB H0
      obtain ⟨j, hj, hj6, rfl, hbr⟩ := hrel
      have HBR := hid hbr; have PS := hid (XPS.out.step hbr)
      have HLW := hid (HL0.out.below (below_then XB.out hbr) (Nat.le_refl _))
      clear hbr
      by_cases hjl : j < nl
      · obtain ⟨b, off, rfl, _, _, hc⟩ := HLW.out.row (by omega)
        obtain ⟨f0, f1⟩ := Sm.got hc hjl
        obtain ⟨⟨gx, gy⟩, hx⟩ : ∃ x, x = ls[j]?.getD (0, false) := ⟨_, rfl⟩
        rw [← hx] at f0 f1
        clear hc hx HLW
        by_cases hj2 : j = 6
        · have hjb : ((j : Int) == 6) = true := by simp; omega
          subst hj2
          simp only [show ((6 : Nat) : Int) = 6 from rfl] at *
          have h6n : (6 : Int) < (nl : Int) := by omega
          go_wp2
          go_meet
          exact below_then HBR.out (below_box _ _)
        have hjb : ((j : Int) == 6) = false := by simp; omega
        have hji : (j : Int) < (nl : Int) := by omega
        have bx := below_box wr (.cells #[.int .u64 gx, .bool gy] 54)
        replace PS := hid (PS.out.step bx); replace HBR := hid (below_then HBR.out bx)
        clear bx
        have PG := hid (Blk.new wr 54 #[.int .u64 gx, .bool gy])
        skip
        go_upto_region 15 with fail
        clear f0 f1
        generalize wr.alloc (.cells #[.int .u64 gx, .bool gy] 54) = W8 at *
        obtain ⟨⟨⟨ta, tp, tt⟩, tc⟩, htk⟩ : ∃ x, x = spTakeF (a, p, t) (gx, gy) := ⟨_, rfl⟩
        have HTK := hid htk
        clear htk
        obtain ⟨y00, y01, y02, yf0⟩ := PS.out.cells3
        obtain ⟨y10, y11, yf1⟩ := PG.out.cells2
        go_wp2_with fail
        clear y00 y01 y02 yf0 y10 y11 yf1
        refine (sptake_any a p t gx gy W8).mono ?_
        rintro e w9 ⟨rfl, hb⟩
        replace PS := hid (PS.out.step hb); replace PG := hid (PG.out.step hb); replace HBR := hid (below_then HBR.out hb)
        clear hb
        rw [← HTK.out]
        dsimp only
        have hw9 := hid HBR.out.size
        have bx := below_box w9 (.cells (scs ta tp tt) 38)
        replace PS := hid (PS.out.step bx); replace PG := hid (PG.out.step bx); replace HBR := hid (below_then HBR.out bx)
        clear bx
        have PN := hid (Blk.new w9 38 (scs ta tp tt))
        have bx := below_box (w9.alloc (.cells (scs ta tp tt) 38)) (.cells (scs 0 0 0) 38)
        replace PS := hid (PS.out.step bx); replace PG := hid (PG.out.step bx); replace PN := hid (PN.out.step bx); replace HBR := hid (below_then HBR.out bx)
        clear bx
        have PT := hid (Blk.new2 w9 38 (scs 0 0 0) (.cells (scs ta tp tt) 38))
        obtain ⟨y00, y01, y02, yf0⟩ := PN.out.cells3
        obtain ⟨y10, y11, y12, yf1⟩ := PT.out.cells3
        go_upto_region 18 with fail
        clear y00 y01 y02 yf0 y10 y11 y12 yf1
        have hz9 := hid (show ((w9.alloc (.cells (scs ta tp tt) 38)).alloc (.cells (scs 0 0 0) 38)).heap.size = w9.heap.size + 2 by simp)
        generalize (w9.alloc (.cells (scs ta tp tt) 38)).alloc (.cells (scs 0 0 0) 38) = W9 at *
        obtain ⟨y00, y01, y02, yf0⟩ := PS.out.cells3
        go_wp2_with fail
        clear y00 y01 y02 yf0
        refine (rsphas_any a p t W9).mono ?_
        rintro e w10 ⟨rfl, hb⟩
        replace PS := hid (PS.out.step hb); replace PG := hid (PG.out.step hb); replace PN := hid (PN.out.step hb); replace PT := hid (PT.out.step hb); replace HBR := hid (below_then HBR.out hb)
        clear hb
        rw [HHS.out]
        obtain ⟨y00, y01, y02, yf0⟩ := PS.out.cells3
        obtain ⟨y10, y11, yf1⟩ := PG.out.cells2
        go_wp2_with fail
        clear y00 y01 y02 yf0 y10 y11 yf1
        refine (rsptake_any a p t gx gy w10).mono ?_
        rintro e w11 ⟨rfl, hb⟩
        replace PS := hid (PS.out.step hb); replace PG := hid (PG.out.step hb); replace PN := hid (PN.out.step hb); replace PT := hid (PT.out.step hb); replace HBR := hid (below_then HBR.out hb)
        clear hb
        have htt := HTK.out.trans (spTakeF_ok HG.out HH.out)
        rw [show spTake (a, p, t) (gx, gy) = (ta, tp, tt) from (congrArg Prod.fst htt).symm]
        obtain rfl : tc = 0 := congrArg Prod.snd htt
        clear htt
        dsimp only
        have hns := neqs_spn ta tp tt
        obtain ⟨v0, v1, v2, vf⟩ := (((PT.out.setCell 0 (.int .i64 ta)).setCell 1 (.int .i64 tp)).setCell 2 (.int .u64 tt)).cells3; obtain ⟨u0, u1, u2, uf⟩ := (((PN.out.far (p := ⟨w9.heap.size + 1, 0, none⟩) (by simp) (.int .i64 ta)).far (p := ⟨w9.heap.size + 1, 1, none⟩) (by simp) (.int .i64 tp)).far (p := ⟨w9.heap.size + 1, 2, none⟩) (by simp) (.int .u64 tt)).cells3
        obtain ⟨y00, y01, y02, yf0⟩ := PN.out.cells3
        obtain ⟨y10, y11, y12, yf1⟩ := PT.out.cells3
        go_wp2_with fail
        skip
        go_roundw
        case rel => exact ⟨j + 1, by omega, by omega, by go_num, ((HBR.out.setCell (by have := hw9.out; show w7.heap.size ≤ w9.heap.size + 1; omega) _).setCell (by have := hw9.out; show w7.heap.size ≤ w9.heap.size + 1; omega) _).setCell (by have := hw9.out; show w7.heap.size ≤ w9.heap.size + 1; omega) _⟩
        case measure => simp [intOf]; omega
      · obtain rfl : j = nl := by omega
        go_wp2
        go_meet
        exact HBR.out
  case rest =>
    rename World => W20
    have hb := hcut
    clear hcut
    replace PS := hid (PS.out.step hb); replace HB := hid (below_then HB.out hb)
    clear hb H0
    obtain ⟨y00, y01, y02, yf0⟩ := PS.out.cells3
    go_wp2_with fail
    clear y00 y01 y02 yf0
    refine (spleave_any a p t W20).mono ?_
    rintro e w21 ⟨rfl, hb⟩
    replace PS := hid (PS.out.step hb); replace HB := hid (below_then HB.out hb)
    clear hb
    rw [HV.out]
    dsimp only
    have hps21 := hid PS.out.lt
    have bx := below_box w21 (.cells (scs 0 0 0) 38)
    replace PS := hid (PS.out.step bx); replace HB := hid (below_then HB.out bx)
    clear bx
    have P1 := hid (Blk.new w21 38 (scs 0 0 0))
    have bx := below_box (w21.alloc (.cells (scs 0 0 0) 38)) (.cells (scs 0 0 0) 38)
    replace PS := hid (PS.out.step bx); replace P1 := hid (P1.out.step bx); replace HB := hid (below_then HB.out bx)
    clear bx
    have P2 := hid (Blk.new2 w21 38 (scs 0 0 0) (.cells (scs 0 0 0) 38))
    have hns := eqds_spn 0 0 0; have hna := eqds_spn a 0 0
    obtain ⟨y00, y01, y02, yf0⟩ := PS.out.cells3
    obtain ⟨y10, y11, y12, yf1⟩ := P1.out.cells3
    obtain ⟨y20, y21, y22, yf2⟩ := P2.out.cells3
    go_upto_region 31 with fail
    clear y00 y01 y02 yf0 y10 y11 y12 yf1 y20 y21 y22 yf2
    have hz21 := hid (show ((w21.alloc (.cells (scs 0 0 0) 38)).alloc (.cells (scs 0 0 0) 38)).heap.size = w21.heap.size + 2 by simp)
    generalize (w21.alloc (.cells (scs 0 0 0) 38)).alloc (.cells (scs 0 0 0) 38) = W21 at *
    clear XPS XB
    have bx := (Below.refl W21.heap.size W21).drew
    replace PS := hid (PS.out.step bx); replace P1 := hid (P1.out.step bx); replace P2 := hid (P2.out.step bx); replace HB := hid (below_then HB.out bx)
    clear bx
    have hszd := hid (show W21.drew.heap.size = W21.heap.size from rfl)
    refine wp_region_noPanic ?_
    refine wp_region_held_drew (S := (fun W' : World => W'.cell? ⟨w.heap.size, 0, none⟩ = some (.int .i64 a) ∧ W'.cell? ⟨w.heap.size, 1, none⟩ = some (.int .i64 p) ∧ W'.cell? ⟨w.heap.size, 2, none⟩ = some (.int .u64 t) ∧ W'.cell? ⟨w21.heap.size, 0, none⟩ = some (.int .i64 0) ∧ W'.cell? ⟨w21.heap.size, 1, none⟩ = some (.int .i64 0) ∧ W'.cell? ⟨w21.heap.size, 2, none⟩ = some (.int .u64 0) ∧ W'.cell? ⟨w21.heap.size + 1, 0, none⟩ = some (.int .i64 0) ∧ W'.cell? ⟨w21.heap.size + 1, 1, none⟩ = some (.int .i64 0) ∧ W'.cell? ⟨w21.heap.size + 1, 2, none⟩ = some (.int .u64 0))) (by kernel_rfl) ⟨PS.out.cells3.1, PS.out.cells3.2.1, PS.out.cells3.2.2.1, P1.out.cells3.1, P1.out.cells3.2.1, P1.out.cells3.2.2.1, P2.out.cells3.1, P2.out.cells3.2.1, P2.out.cells3.2.2.1⟩ (fun hS => ?_)
    generalize W21.drew = Wd at *
    refine wpAnyH_take (i := 0) (v := ?_) (by simp only [List.getElem?_toArray, List.getElem?_cons_succ, List.getElem?_cons_zero]; rfl) (by kernel_rfl) (by kernel_rfl) (by kernel_rfl) (fun _ _ _ h => h) (Or.inl ⟨by rfl, ?_⟩) hS ?_
    rotate_left
    · intro w' hSw; (try dsimp only at hSw); go_split_ands; go_simp; (try with_reducible rfl)
    (try simp only [Act.put, List.setIfInBounds_toArray, List.set_cons_zero, List.set_cons_succ])
    refine wpAnyH_take (i := 1) (v := ?_) (by simp only [List.getElem?_toArray, List.getElem?_cons_succ, List.getElem?_cons_zero]; rfl) (by kernel_rfl) (by kernel_rfl) (by kernel_rfl) (fun _ _ _ h => h) (Or.inl ⟨by rfl, ?_⟩) hS ?_
    rotate_left
    · intro w' hSw; (try dsimp only at hSw); go_split_ands; go_simp; (try with_reducible rfl)
    (try simp only [Act.put, List.setIfInBounds_toArray, List.set_cons_zero, List.set_cons_succ])
    refine wpAnyH_take (i := 2) (v := ?_) (by simp only [List.getElem?_toArray, List.getElem?_cons_succ, List.getElem?_cons_zero]; rfl) (by kernel_rfl) (by kernel_rfl) (by kernel_rfl) (fun _ _ _ h => h) (Or.inl ⟨by rfl, ?_⟩) hS ?_
    rotate_left
    · intro w' hSw; (try dsimp only at hSw); go_split_ands; go_simp; (try with_reducible rfl)
    (try simp only [Act.put, List.setIfInBounds_toArray, List.set_cons_zero, List.set_cons_succ])
    refine wpAnyH_take (i := 3) (v := ?_) (by simp only [List.getElem?_toArray, List.getElem?_cons_succ, List.getElem?_cons_zero]; rfl) (by kernel_rfl) (by kernel_rfl) (by kernel_rfl) (fun _ _ _ h => h) (Or.inl ⟨by rfl, ?_⟩) hS ?_
    rotate_left
    · intro w' hSw; (try dsimp only at hSw); go_split_ands; go_simp; (try with_reducible rfl)
    (try simp only [Act.put, List.setIfInBounds_toArray, List.set_cons_zero, List.set_cons_succ])
    refine wpAnyH_take (i := 4) (v := ?_) (by simp only [List.getElem?_toArray, List.getElem?_cons_succ, List.getElem?_cons_zero]; rfl) (by kernel_rfl) (by kernel_rfl) (by kernel_rfl) (fun _ _ _ h => h) (Or.inl ⟨by rfl, ?_⟩) hS ?_
    rotate_left
    · intro w' hSw; (try dsimp only at hSw); go_split_ands; go_simp; (try with_reducible rfl)
    (try simp only [Act.put, List.setIfInBounds_toArray, List.set_cons_zero, List.set_cons_succ])
    refine wpAnyH_take (i := 5) (v := ?_) (by simp only [List.getElem?_toArray, List.getElem?_cons_succ, List.getElem?_cons_zero]; rfl) (by kernel_rfl) (by kernel_rfl) (by kernel_rfl) (fun _ _ _ h => h) (Or.inl ⟨by rfl, ?_⟩) hS ?_
    rotate_left
    · intro w' hSw; (try dsimp only at hSw); go_split_ands; go_simp; (try with_reducible rfl)
    (try simp only [Act.put, List.setIfInBounds_toArray, List.set_cons_zero, List.set_cons_succ])
    refine wpAnyH_take (i := 6) (v := ?_) (by simp only [List.getElem?_toArray, List.getElem?_cons_succ, List.getElem?_cons_zero]; rfl) (by kernel_rfl) (by kernel_rfl) (by kernel_rfl) (fun _ _ _ h => h) (Or.inl ⟨by rfl, ?_⟩) hS ?_
    rotate_left
    · intro w' hSw; (try dsimp only at hSw); go_split_ands; go_simp; (try with_reducible rfl)
    (try simp only [Act.put, List.setIfInBounds_toArray, List.set_cons_zero, List.set_cons_succ])
    refine wpAnyH_take (i := 7) (v := ?_) (by simp only [List.getElem?_toArray, List.getElem?_cons_succ, List.getElem?_cons_zero]; rfl) (by kernel_rfl) (by kernel_rfl) (by kernel_rfl) (fun _ _ _ h => h) (Or.inl ⟨by rfl, ?_⟩) hS ?_
    rotate_left
    · intro w' hSw; (try dsimp only at hSw); go_split_ands; go_simp; (try with_reducible rfl)
    (try simp only [Act.put, List.setIfInBounds_toArray, List.set_cons_zero, List.set_cons_succ])
    refine wpAnyH_take (i := 8) (v := ?_) (by simp only [List.getElem?_toArray, List.getElem?_cons_succ, List.getElem?_cons_zero]; rfl) (by kernel_rfl) (by kernel_rfl) (by kernel_rfl) (fun _ _ _ h => h) (Or.inl ⟨by rfl, ?_⟩) hS ?_
    rotate_left
    · intro w' hSw; (try dsimp only at hSw); go_split_ands; go_simp; (try with_reducible rfl)
    (try simp only [Act.put, List.setIfInBounds_toArray, List.set_cons_zero, List.set_cons_succ])
    refine wpAnyH_take (i := 9) (v := ?_) (by simp only [List.getElem?_toArray, List.getElem?_cons_succ, List.getElem?_cons_zero]; rfl) (by kernel_rfl) (by kernel_rfl) (by kernel_rfl) (fun _ _ _ h => h) (Or.inl ⟨by rfl, ?_⟩) hS ?_
    rotate_left
    · intro w' hSw; (try dsimp only at hSw); go_split_ands; go_simp; (try with_reducible rfl)
    (try simp only [Act.put, List.setIfInBounds_toArray, List.set_cons_zero, List.set_cons_succ])
    refine wpAnyH_take (i := 10) (v := ?_) (by simp only [List.getElem?_toArray, List.getElem?_cons_succ, List.getElem?_cons_zero]; rfl) (by kernel_rfl) (by kernel_rfl) (by kernel_rfl) (fun _ _ _ h => h) (Or.inl ⟨by rfl, ?_⟩) hS ?_
    rotate_left
    · intro w' hSw; (try dsimp only at hSw); go_split_ands; go_simp; (try with_reducible rfl)
    (try simp only [Act.put, List.setIfInBounds_toArray, List.set_cons_zero, List.set_cons_succ])
    refine wpAnyH_take (i := 12) (v := ?_) (by simp only [List.getElem?_toArray, List.getElem?_cons_succ, List.getElem?_cons_zero]; rfl) (by kernel_rfl) (by kernel_rfl) (by kernel_rfl) (fun _ _ _ h => h) (Or.inl ⟨by rfl, ?_⟩) hS ?_
    rotate_left
    · intro w' hSw; (try dsimp only at hSw); go_split_ands; go_simp; (try with_reducible rfl)
    (try simp only [Act.put, List.setIfInBounds_toArray, List.set_cons_zero, List.set_cons_succ])
    refine wpAnyH_take (i := 13) (v := ?_) (by simp only [List.getElem?_toArray, List.getElem?_cons_succ, List.getElem?_cons_zero]; rfl) (by kernel_rfl) (by kernel_rfl) (by kernel_rfl) (fun _ _ _ h => h) (Or.inl ⟨by rfl, ?_⟩) hS ?_
    rotate_left
    · intro w' hSw; (try dsimp only at hSw); go_split_ands; go_simp; (try with_reducible rfl)
    (try simp only [Act.put, List.setIfInBounds_toArray, List.set_cons_zero, List.set_cons_succ])
    refine wpAnyH_take (i := 14) (v := ?_) (by simp only [List.getElem?_toArray, List.getElem?_cons_succ, List.getElem?_cons_zero]; rfl) (by kernel_rfl) (by kernel_rfl) (by kernel_rfl) (fun _ _ _ h => h) (Or.inl ⟨by rfl, ?_⟩) hS ?_
    rotate_left
    · intro w' hSw; (try dsimp only at hSw); go_split_ands; go_simp; (try with_reducible rfl)
    (try simp only [Act.put, List.setIfInBounds_toArray, List.set_cons_zero, List.set_cons_succ])
    refine wpAnyH_ready (rs := [11]) (by kernel_rfl) (by simp) ?_
    refine AllReadyH.cons (by simp only [List.getElem?_toArray, List.getElem?_cons_succ, List.getElem?_cons_zero]; rfl) (fun K hK => ?_) ?_
    · skip
      go_simp
      refine (ask_any a _).mono ?_
      rintro e w22 ⟨rfl, hb⟩
      have hsz0 := hid (show Wd.heap.size ≤ w22.heap.size from hb.size)
      replace PS := hid (PS.out.step hb); replace P1 := hid (P1.out.step hb); replace P2 := hid (P2.out.step hb); replace HB := hid (below_then HB.out hb)
      clear hb
      go_wp2_with fail
      have hS' : (fun W' : World => W'.cell? ⟨w.heap.size, 0, none⟩ = some (.int .i64 a) ∧ W'.cell? ⟨w.heap.size, 1, none⟩ = some (.int .i64 p) ∧ W'.cell? ⟨w.heap.size, 2, none⟩ = some (.int .u64 t) ∧ W'.cell? ⟨w21.heap.size, 0, none⟩ = some (.int .i64 0) ∧ W'.cell? ⟨w21.heap.size, 1, none⟩ = some (.int .i64 0) ∧ W'.cell? ⟨w21.heap.size, 2, none⟩ = some (.int .u64 0) ∧ W'.cell? ⟨w21.heap.size + 1, 0, none⟩ = some (.int .i64 0) ∧ W'.cell? ⟨w21.heap.size + 1, 1, none⟩ = some (.int .i64 0) ∧ W'.cell? ⟨w21.heap.size + 1, 2, none⟩ = some (.int .u64 0)) _ := ⟨PS.out.cells3.1, PS.out.cells3.2.1, PS.out.cells3.2.2.1, P1.out.cells3.1, P1.out.cells3.2.1, P1.out.cells3.2.2.1, P2.out.cells3.1, P2.out.cells3.2.1, P2.out.cells3.2.2.1⟩
      refine hK.out _ _ hS' (fun _ => ?_)
      clear hK K hS
      have hS := hS'
      clear hS'
      (try simp only [Act.put, List.setIfInBounds_toArray, List.set_cons_zero, List.set_cons_succ])
      refine wpAnyH_take (i := 15) (v := ?_) (by simp only [List.getElem?_toArray, List.getElem?_cons_succ, List.getElem?_cons_zero]; rfl) (by kernel_rfl) (by kernel_rfl) (by kernel_rfl) (fun _ _ _ h => h) (Or.inl ⟨by rfl, ?_⟩) hS ?_
      rotate_left
      · intro w' hSw; (try dsimp only at hSw); go_split_ands; go_simp; (try with_reducible rfl)
      (try simp only [Act.put, List.setIfInBounds_toArray, List.set_cons_zero, List.set_cons_succ])
      refine wpAnyH_take (i := 16) (v := ?_) (by simp only [List.getElem?_toArray, List.getElem?_cons_succ, List.getElem?_cons_zero]; rfl) (by kernel_rfl) (by kernel_rfl) (by kernel_rfl) (fun _ _ _ h => h) (Or.inl ⟨by rfl, ?_⟩) hS ?_
      rotate_left
      · intro w' hSw; (try dsimp only at hSw); go_split_ands; go_simp; (try with_reducible rfl)
      (try simp only [Act.put, List.setIfInBounds_toArray, List.set_cons_zero, List.set_cons_succ])
      refine wpAnyH_take (i := 17) (v := ?_) (by simp only [List.getElem?_toArray, List.getElem?_cons_succ, List.getElem?_cons_zero]; rfl) (by kernel_rfl) (by kernel_rfl) (by kernel_rfl) (fun _ _ _ h => h) (Or.inl ⟨by rfl, ?_⟩) hS ?_
      rotate_left
      · intro w' hSw; (try dsimp only at hSw); go_split_ands; go_simp; (try with_reducible rfl)
      (try simp only [Act.put, List.setIfInBounds_toArray, List.set_cons_zero, List.set_cons_succ])
      refine wpAnyH_done (by kernel_rfl) ?_ _
      refine NoPanic.normal ?_
      clear hS
      go_wp2
      go_ret
      exact ⟨rfl, HB.out⟩
    exact AllReadyH.nil
set_option maxRecDepth 100000 in
set_option maxHeartbeats 8000000 in
theorem sptakes3 (a  t : Int) (L : Option Addr) (nl cl : Nat) (ls : List (Int × Bool)) (w : World) (hl : Sm 2 encG (0, false) w 0 w.heap.size L nl ls) (hnl : nl ≤ 9223372036854775807) (hyp : SpGood (a, 3, t)) :
    Calls Try.prog 4 #[sv a 3 t, .slice L nl cl] w fun e w' => e = .returned (.bool true) ∧ Below w.heap.size w w' := by
  have HL := hid hl; have HB := hid (Below.refl w.heap.size w); have HY := hid hyp
  clear hl hyp
  have HG := HY
  have HR := hid (show decide (SpGood (a, 3, t)) = true from decide_eq_true HG.out)
  have HC := hid (show spCheckC (a, 3, t) = 0 from if_pos HG.out)
  have HHS := hid (show decide (spHas 3) = false from by decide)
  have HN := hid (show spNeedF (a, 3, t) = ((0, 0, 0, 0), false) from if_neg (fun h => absurd h.2 (show ¬ spHas 3 by decide)))
  have HV := hid (show spLeaveF (a, 3, t) = ((a, 4, t), 0) by rw [spLeaveF, if_neg (not_not_intro HG.out), if_neg (fun h => h rfl)])
  have HL0 := HL
  have bx := below_box w (.cells (scs a 3 t) 38)
  replace HB := hid (below_then HB.out bx)
  clear bx
  have PS := hid (Blk.new w 38 (scs a 3 t))
  go_enter Try.func4, Try.ntmps4
  go_wp2_with fail
  generalize w.alloc (.cells (scs a 3 t) 38) = W0 at *
  refine (spwakes_any W0).mono ?_
  rintro e w1 ⟨rfl, hb⟩
  replace PS := hid (PS.out.step hb); replace HB := hid (below_then HB.out hb)
  clear hb
  obtain ⟨y00, y01, y02, yf0⟩ := PS.out.cells3
  go_wp2_with fail
  clear y00 y01 y02 yf0
  refine (rspright_any a 3 t w1).mono ?_
  rintro e w2 ⟨rfl, hb⟩
  replace PS := hid (PS.out.step hb); replace HB := hid (below_then HB.out hb)
  clear hb
  rw [HR.out]
  obtain ⟨y00, y01, y02, yf0⟩ := PS.out.cells3
  go_wp2_with fail
  clear y00 y01 y02 yf0
  refine (spcheck_any a 3 t w2).mono ?_
  rintro e w3 ⟨rfl, hb⟩
  replace PS := hid (PS.out.step hb); replace HB := hid (below_then HB.out hb)
  clear hb
  rw [HC.out]
  obtain ⟨y00, y01, y02, yf0⟩ := PS.out.cells3
  go_wp2_with fail
  clear y00 y01 y02 yf0
  refine (spneed_any a 3 t w3).mono ?_
  rintro e w4 ⟨rfl, hb⟩
  replace PS := hid (PS.out.step hb); replace HB := hid (below_then HB.out hb)
  clear hb
  rw [HN.out]
  dsimp only
  have hps := hid PS.out.lt
  have bx := below_box w4 (.cells (acs 0 0 0 0) 49)
  replace PS := hid (PS.out.step bx); replace HB := hid (below_then HB.out bx)
  clear bx
  have PA := hid (Blk.new w4 49 (acs 0 0 0 0))
  have bx := below_box (w4.alloc (.cells (acs 0 0 0 0) 49)) (.cells (acs 0 0 0 0) 49)
  replace PS := hid (PS.out.step bx); replace PA := hid (PA.out.step bx); replace HB := hid (below_then HB.out bx)
  clear bx
  have PW := hid (Blk.new2 w4 49 (acs 0 0 0 0) (.cells (acs 0 0 0 0) 49))
  obtain ⟨y00, y01, y02, yf0⟩ := PS.out.cells3
  go_upto_region 7 with fail
  clear y00 y01 y02 yf0
  have hz4 := hid (show ((w4.alloc (.cells (acs 0 0 0 0) 49)).alloc (.cells (acs 0 0 0 0) 49)).heap.size = w4.heap.size + 2 by simp)
  generalize (w4.alloc (.cells (acs 0 0 0 0) 49)).alloc (.cells (acs 0 0 0 0) 49) = W4 at *
  obtain ⟨y00, y01, y02, yf0⟩ := PS.out.cells3
  obtain ⟨y10, y11, y12, y13, yf1⟩ := PA.out.cells4
  obtain ⟨y20, y21, y22, y23, yf2⟩ := PW.out.cells4
  go_wp2_with fail
  clear y00 y01 y02 yf0 y10 y11 y12 y13 yf1 y20 y21 y22 y23 yf2
  refine (rsphas_any a 3 t W4).mono ?_
  rintro e w5 ⟨rfl, hb⟩
  replace PS := hid (PS.out.step hb); replace PA := hid (PA.out.step hb); replace PW := hid (PW.out.step hb); replace HB := hid (below_then HB.out hb)
  clear hb
  rw [HHS.out]
  have hneq := neqs_acc 0 0 0 0
  obtain ⟨y00, y01, y02, yf0⟩ := PS.out.cells3
  obtain ⟨y10, y11, y12, y13, yf1⟩ := PA.out.cells4
  obtain ⟨y20, y21, y22, y23, yf2⟩ := PW.out.cells4
  go_wp2_with fail
  clear y00 y01 y02 yf0 y10 y11 y12 y13 yf1 y20 y21 y22 y23 yf2
  refine (rsphas_any a 3 t _).mono ?_
  rintro e w7 ⟨rfl, hb⟩
  replace PS := hid (PS.out.step hb); replace PA := hid (PA.out.step hb); replace PW := hid (PW.out.step hb); replace HB := hid (below_then HB.out hb)
  clear hb
  rw [HHS.out]
  obtain ⟨y00, y01, y02, yf0⟩ := PS.out.cells3
  obtain ⟨y10, y11, y12, y13, yf1⟩ := PA.out.cells4
  obtain ⟨y20, y21, y22, y23, yf2⟩ := PW.out.cells4
  go_upto_block 0 with fail
  clear hneq y00 y01 y02 yf0 y10 y11 y12 y13 yf1 y20 y21 y22 y23 yf2
  clear PA PW
  have XPS := PS; have XB := HB; have H0 := hid (Below.refl w7.heap.size w7)
  go_cut [] (fun wx => Below w7.heap.size w7 wx)
  case first =>
    go_wp2_with fail
    go_loopw [66] (fun i wr => ∃ j : Nat, j ≤ nl ∧ j ≤ 6 ∧ i = .int .i64 j ∧ Below w7.heap.size w7 wr) (fun i _ => nl - (intOf i).toNat)
    case atStart => exact ⟨0, Nat.zero_le _, by omega, rfl, H0.out⟩
    case round =>
      clear PS HB H0
      obtain ⟨j, hj, hj6, rfl, hbr⟩ := hrel
      have HBR := hid hbr; have PS := hid (XPS.out.step hbr)
      have HLW := hid (HL0.out.below (below_then XB.out hbr) (Nat.le_refl _))
      clear hbr
      by_cases hjl : j < nl
      · obtain ⟨b, off, rfl, _, _, hc⟩ := HLW.out.row (by omega)
        obtain ⟨f0, f1⟩ := Sm.got hc hjl
        obtain ⟨⟨gx, gy⟩, hx⟩ : ∃ x, x = ls[j]?.getD (0, false) := ⟨_, rfl⟩
        rw [← hx] at f0 f1
        clear hc hx HLW
        by_cases hj2 : j = 6
        · have hjb : ((j : Int) == 6) = true := by simp; omega
          subst hj2
          simp only [show ((6 : Nat) : Int) = 6 from rfl] at *
          have h6n : (6 : Int) < (nl : Int) := by omega
          go_wp2
          go_meet
          exact below_then HBR.out (below_box _ _)
        have hjb : ((j : Int) == 6) = false := by simp; omega
        have hji : (j : Int) < (nl : Int) := by omega
        have bx := below_box wr (.cells #[.int .u64 gx, .bool gy] 54)
        replace PS := hid (PS.out.step bx); replace HBR := hid (below_then HBR.out bx)
        clear bx
        have PG := hid (Blk.new wr 54 #[.int .u64 gx, .bool gy])
        skip
        go_upto_region 15 with fail
        clear f0 f1
        generalize wr.alloc (.cells #[.int .u64 gx, .bool gy] 54) = W8 at *
        obtain ⟨⟨⟨ta, tp, tt⟩, tc⟩, htk⟩ : ∃ x, x = spTakeF (a, 3, t) (gx, gy) := ⟨_, rfl⟩
        have HTK := hid htk
        clear htk
        obtain ⟨y00, y01, y02, yf0⟩ := PS.out.cells3
        obtain ⟨y10, y11, yf1⟩ := PG.out.cells2
        go_wp2_with fail
        clear y00 y01 y02 yf0 y10 y11 yf1
        refine (sptake_any a 3 t gx gy W8).mono ?_
        rintro e w9 ⟨rfl, hb⟩
        replace PS := hid (PS.out.step hb); replace PG := hid (PG.out.step hb); replace HBR := hid (below_then HBR.out hb)
        clear hb
        rw [← HTK.out]
        dsimp only
        have hw9 := hid HBR.out.size
        have bx := below_box w9 (.cells (scs ta tp tt) 38)
        replace PS := hid (PS.out.step bx); replace PG := hid (PG.out.step bx); replace HBR := hid (below_then HBR.out bx)
        clear bx
        have PN := hid (Blk.new w9 38 (scs ta tp tt))
        have bx := below_box (w9.alloc (.cells (scs ta tp tt) 38)) (.cells (scs 0 0 0) 38)
        replace PS := hid (PS.out.step bx); replace PG := hid (PG.out.step bx); replace PN := hid (PN.out.step bx); replace HBR := hid (below_then HBR.out bx)
        clear bx
        have PT := hid (Blk.new2 w9 38 (scs 0 0 0) (.cells (scs ta tp tt) 38))
        obtain ⟨y00, y01, y02, yf0⟩ := PN.out.cells3
        obtain ⟨y10, y11, y12, yf1⟩ := PT.out.cells3
        go_upto_region 18 with fail
        clear y00 y01 y02 yf0 y10 y11 y12 yf1
        have hz9 := hid (show ((w9.alloc (.cells (scs ta tp tt) 38)).alloc (.cells (scs 0 0 0) 38)).heap.size = w9.heap.size + 2 by simp)
        generalize (w9.alloc (.cells (scs ta tp tt) 38)).alloc (.cells (scs 0 0 0) 38) = W9 at *
        obtain ⟨y00, y01, y02, yf0⟩ := PS.out.cells3
        go_wp2_with fail
        clear y00 y01 y02 yf0
        refine (rsphas_any a 3 t W9).mono ?_
        rintro e w10 ⟨rfl, hb⟩
        replace PS := hid (PS.out.step hb); replace PG := hid (PG.out.step hb); replace PN := hid (PN.out.step hb); replace PT := hid (PT.out.step hb); replace HBR := hid (below_then HBR.out hb)
        clear hb
        rw [HHS.out]
        obtain ⟨⟨rfl, rfl, rfl⟩, rfl⟩ : (ta = 0 ∧ tp = 0 ∧ tt = 0) ∧ tc = 2 := by have := HTK.out; rw [show spTakeF (a, 3, t) (gx, gy) = ((0, 0, 0), 2) by rw [spTakeF, if_neg (not_not_intro HG.out), if_pos (of_decide_eq_false HHS.out)]] at this; simpa using this
        have hns := neqs_spn 0 0 0
        obtain ⟨y00, y01, y02, yf0⟩ := PN.out.cells3
        obtain ⟨y10, y11, y12, yf1⟩ := PT.out.cells3
        go_wp2_with fail
        clear y00 y01 y02 yf0 y10 y11 y12 yf1 hns
        go_roundw
        case rel => exact ⟨j + 1, by omega, by omega, by go_num, HBR.out⟩
        case measure => simp [intOf]; omega
      · obtain rfl : j = nl := by omega
        go_wp2
        go_meet
        exact HBR.out
  case rest =>
    rename World => W20
    have hb := hcut
    clear hcut
    replace PS := hid (PS.out.step hb); replace HB := hid (below_then HB.out hb)
    clear hb H0
    obtain ⟨y00, y01, y02, yf0⟩ := PS.out.cells3
    go_wp2_with fail
    clear y00 y01 y02 yf0
    refine (spleave_any a 3 t W20).mono ?_
    rintro e w21 ⟨rfl, hb⟩
    replace PS := hid (PS.out.step hb); replace HB := hid (below_then HB.out hb)
    clear hb
    rw [HV.out]
    dsimp only
    have hps21 := hid PS.out.lt
    have bx := below_box w21 (.cells (scs a 4 t) 38)
    replace PS := hid (PS.out.step bx); replace HB := hid (below_then HB.out bx)
    clear bx
    have P1 := hid (Blk.new w21 38 (scs a 4 t))
    have bx := below_box (w21.alloc (.cells (scs a 4 t) 38)) (.cells (scs 0 0 0) 38)
    replace PS := hid (PS.out.step bx); replace P1 := hid (P1.out.step bx); replace HB := hid (below_then HB.out bx)
    clear bx
    have P2 := hid (Blk.new2 w21 38 (scs 0 0 0) (.cells (scs a 4 t) 38))
    have hns := eqds_spn a 4 t; have hna := eqds_spn a 0 0
    skip
    obtain ⟨y00, y01, y02, yf0⟩ := PS.out.cells3
    obtain ⟨y10, y11, y12, yf1⟩ := P1.out.cells3
    obtain ⟨y20, y21, y22, yf2⟩ := P2.out.cells3
    go_upto_region 29 with fail
    clear y00 y01 y02 yf0 y10 y11 y12 yf1 y20 y21 y22 yf2
    have hz21 := hid (show ((w21.alloc (.cells (scs a 4 t) 38)).alloc (.cells (scs 0 0 0) 38)).heap.size = w21.heap.size + 2 by simp)
    generalize (w21.alloc (.cells (scs a 4 t) 38)).alloc (.cells (scs 0 0 0) 38) = W21 at *
    have hne := hid (show w.heap.size ≠ w21.heap.size + 1 ∧ w.heap.size ≤ w21.heap.size + 1 by have := hps21.out; omega)
    obtain ⟨y00, y01, y02, yf0⟩ := PS.out.cells3
    obtain ⟨y10, y11, y12, yf1⟩ := P1.out.cells3
    obtain ⟨y20, y21, y22, yf2⟩ := P2.out.cells3
    obtain ⟨v0, v1, v2, vf⟩ := (((P2.out.setCell 0 (.int .i64 a)).setCell 1 (.int .i64 3)).setCell 2 (.int .u64 t)).cells3
    go_upto_region 31 with fail
    clear y00 y01 y02 yf0 y10 y11 y12 yf1 y20 y21 y22 yf2 v0 v1 v2 vf
    replace P2 := hid (P2.out)
    have e2 := hid ((((P2.out.setCell 0 (.int .i64 a)).setCell 1 (.int .i64 3)).setCell 2 (.int .u64 t)).setCell 1 (.int .i64 4))
    have e1 := hid ((((P1.out.far (p := ⟨w21.heap.size + 1, 0, none⟩) (by simp) (.int .i64 a)).far (p := ⟨w21.heap.size + 1, 1, none⟩) (by simp) (.int .i64 3)).far (p := ⟨w21.heap.size + 1, 2, none⟩) (by simp) (.int .u64 t)).far (p := ⟨w21.heap.size + 1, 1, none⟩) (by simp) (.int .i64 4))
    have eS := hid ((((PS.out.far (p := ⟨w21.heap.size + 1, 0, none⟩) hne.out.1 (.int .i64 a)).far (p := ⟨w21.heap.size + 1, 1, none⟩) hne.out.1 (.int .i64 3)).far (p := ⟨w21.heap.size + 1, 2, none⟩) hne.out.1 (.int .u64 t)).far (p := ⟨w21.heap.size + 1, 1, none⟩) hne.out.1 (.int .i64 4))
    have eB := hid ((((HB.out.setCell (p := ⟨w21.heap.size + 1, 0, none⟩) hne.out.2 (.int .i64 a)).setCell (p := ⟨w21.heap.size + 1, 1, none⟩) hne.out.2 (.int .i64 3)).setCell (p := ⟨w21.heap.size + 1, 2, none⟩) hne.out.2 (.int .u64 t)).setCell (p := ⟨w21.heap.size + 1, 1, none⟩) hne.out.2 (.int .i64 4))
    clear PS P1 P2 HB
    have PS := eS; have P1 := e1; have P2 := e2; have HB := eB
    clear eS e1 e2 eB
    generalize ((((W21.setCell ⟨w21.heap.size + 1, 0, none⟩ (.int .i64 a)).setCell ⟨w21.heap.size + 1, 1, none⟩ (.int .i64 3)).setCell ⟨w21.heap.size + 1, 2, none⟩ (.int .u64 t)).setCell ⟨w21.heap.size + 1, 1, none⟩ (.int .i64 4)) = W22 at *
    clear XPS XB
    have bx := (Below.refl W22.heap.size W22).drew
    replace PS := hid (PS.out.step bx); replace P1 := hid (P1.out.step bx); replace P2 := hid (P2.out.step bx); replace HB := hid (below_then HB.out bx)
    clear bx
    have hszd := hid (show W22.drew.heap.size = W22.heap.size from rfl)
    refine wp_region_noPanic ?_
    refine wp_region_held_drew (S := (fun W' : World => W'.cell? ⟨w.heap.size, 0, none⟩ = some (.int .i64 a) ∧ W'.cell? ⟨w.heap.size, 1, none⟩ = some (.int .i64 3) ∧ W'.cell? ⟨w.heap.size, 2, none⟩ = some (.int .u64 t) ∧ W'.cell? ⟨w21.heap.size, 0, none⟩ = some (.int .i64 a) ∧ W'.cell? ⟨w21.heap.size, 1, none⟩ = some (.int .i64 4) ∧ W'.cell? ⟨w21.heap.size, 2, none⟩ = some (.int .u64 t) ∧ W'.cell? ⟨w21.heap.size + 1, 0, none⟩ = some (.int .i64 a) ∧ W'.cell? ⟨w21.heap.size + 1, 1, none⟩ = some (.int .i64 4) ∧ W'.cell? ⟨w21.heap.size + 1, 2, none⟩ = some (.int .u64 t))) (by kernel_rfl) ⟨PS.out.cells3.1, PS.out.cells3.2.1, PS.out.cells3.2.2.1, P1.out.cells3.1, P1.out.cells3.2.1, P1.out.cells3.2.2.1, P2.out.cells3.1, P2.out.cells3.2.1, P2.out.cells3.2.2.1⟩ (fun hS => ?_)
    generalize W22.drew = Wd at *
    refine wpAnyH_take (i := 0) (v := ?_) (by simp only [List.getElem?_toArray, List.getElem?_cons_succ, List.getElem?_cons_zero]; rfl) (by kernel_rfl) (by kernel_rfl) (by kernel_rfl) (fun _ _ _ h => h) (Or.inl ⟨by rfl, ?_⟩) hS ?_
    rotate_left
    · intro w' hSw; (try dsimp only at hSw); go_split_ands; go_simp; (try with_reducible rfl)
    (try simp only [Act.put, List.setIfInBounds_toArray, List.set_cons_zero, List.set_cons_succ])
    refine wpAnyH_take (i := 1) (v := ?_) (by simp only [List.getElem?_toArray, List.getElem?_cons_succ, List.getElem?_cons_zero]; rfl) (by kernel_rfl) (by kernel_rfl) (by kernel_rfl) (fun _ _ _ h => h) (Or.inl ⟨by rfl, ?_⟩) hS ?_
    rotate_left
    · intro w' hSw; (try dsimp only at hSw); go_split_ands; go_simp; (try with_reducible rfl)
    (try simp only [Act.put, List.setIfInBounds_toArray, List.set_cons_zero, List.set_cons_succ])
    refine wpAnyH_take (i := 2) (v := ?_) (by simp only [List.getElem?_toArray, List.getElem?_cons_succ, List.getElem?_cons_zero]; rfl) (by kernel_rfl) (by kernel_rfl) (by kernel_rfl) (fun _ _ _ h => h) (Or.inl ⟨by rfl, ?_⟩) hS ?_
    rotate_left
    · intro w' hSw; (try dsimp only at hSw); go_split_ands; go_simp; (try with_reducible rfl)
    (try simp only [Act.put, List.setIfInBounds_toArray, List.set_cons_zero, List.set_cons_succ])
    refine wpAnyH_take (i := 3) (v := ?_) (by simp only [List.getElem?_toArray, List.getElem?_cons_succ, List.getElem?_cons_zero]; rfl) (by kernel_rfl) (by kernel_rfl) (by kernel_rfl) (fun _ _ _ h => h) (Or.inl ⟨by rfl, ?_⟩) hS ?_
    rotate_left
    · intro w' hSw; (try dsimp only at hSw); go_split_ands; go_simp; (try with_reducible rfl)
    (try simp only [Act.put, List.setIfInBounds_toArray, List.set_cons_zero, List.set_cons_succ])
    refine wpAnyH_take (i := 4) (v := ?_) (by simp only [List.getElem?_toArray, List.getElem?_cons_succ, List.getElem?_cons_zero]; rfl) (by kernel_rfl) (by kernel_rfl) (by kernel_rfl) (fun _ _ _ h => h) (Or.inl ⟨by rfl, ?_⟩) hS ?_
    rotate_left
    · intro w' hSw; (try dsimp only at hSw); go_split_ands; go_simp; (try with_reducible rfl)
    (try simp only [Act.put, List.setIfInBounds_toArray, List.set_cons_zero, List.set_cons_succ])
    refine wpAnyH_take (i := 5) (v := ?_) (by simp only [List.getElem?_toArray, List.getElem?_cons_succ, List.getElem?_cons_zero]; rfl) (by kernel_rfl) (by kernel_rfl) (by kernel_rfl) (fun _ _ _ h => h) (Or.inl ⟨by rfl, ?_⟩) hS ?_
    rotate_left
    · intro w' hSw; (try dsimp only at hSw); go_split_ands; go_simp; (try with_reducible rfl)
    (try simp only [Act.put, List.setIfInBounds_toArray, List.set_cons_zero, List.set_cons_succ])
    refine wpAnyH_take (i := 6) (v := ?_) (by simp only [List.getElem?_toArray, List.getElem?_cons_succ, List.getElem?_cons_zero]; rfl) (by kernel_rfl) (by kernel_rfl) (by kernel_rfl) (fun _ _ _ h => h) (Or.inl ⟨by rfl, ?_⟩) hS ?_
    rotate_left
    · intro w' hSw; (try dsimp only at hSw); go_split_ands; go_simp; (try with_reducible rfl)
    (try simp only [Act.put, List.setIfInBounds_toArray, List.set_cons_zero, List.set_cons_succ])
    refine wpAnyH_take (i := 7) (v := ?_) (by simp only [List.getElem?_toArray, List.getElem?_cons_succ, List.getElem?_cons_zero]; rfl) (by kernel_rfl) (by kernel_rfl) (by kernel_rfl) (fun _ _ _ h => h) (Or.inl ⟨by rfl, ?_⟩) hS ?_
    rotate_left
    · intro w' hSw; (try dsimp only at hSw); go_split_ands; go_simp; (try with_reducible rfl)
    (try simp only [Act.put, List.setIfInBounds_toArray, List.set_cons_zero, List.set_cons_succ])
    refine wpAnyH_take (i := 8) (v := ?_) (by simp only [List.getElem?_toArray, List.getElem?_cons_succ, List.getElem?_cons_zero]; rfl) (by kernel_rfl) (by kernel_rfl) (by kernel_rfl) (fun _ _ _ h => h) (Or.inl ⟨by rfl, ?_⟩) hS ?_
    rotate_left
    · intro w' hSw; (try dsimp only at hSw); go_split_ands; go_simp; (try with_reducible rfl)
    (try simp only [Act.put, List.setIfInBounds_toArray, List.set_cons_zero, List.set_cons_succ])
    refine wpAnyH_take (i := 9) (v := ?_) (by simp only [List.getElem?_toArray, List.getElem?_cons_succ, List.getElem?_cons_zero]; rfl) (by kernel_rfl) (by kernel_rfl) (by kernel_rfl) (fun _ _ _ h => h) (Or.inl ⟨by rfl, ?_⟩) hS ?_
    rotate_left
    · intro w' hSw; (try dsimp only at hSw); go_split_ands; go_simp; (try with_reducible rfl)
    (try simp only [Act.put, List.setIfInBounds_toArray, List.set_cons_zero, List.set_cons_succ])
    refine wpAnyH_take (i := 10) (v := ?_) (by simp only [List.getElem?_toArray, List.getElem?_cons_succ, List.getElem?_cons_zero]; rfl) (by kernel_rfl) (by kernel_rfl) (by kernel_rfl) (fun _ _ _ h => h) (Or.inl ⟨by rfl, ?_⟩) hS ?_
    rotate_left
    · intro w' hSw; (try dsimp only at hSw); go_split_ands; go_simp; (try with_reducible rfl)
    (try simp only [Act.put, List.setIfInBounds_toArray, List.set_cons_zero, List.set_cons_succ])
    refine wpAnyH_take (i := 12) (v := ?_) (by simp only [List.getElem?_toArray, List.getElem?_cons_succ, List.getElem?_cons_zero]; rfl) (by kernel_rfl) (by kernel_rfl) (by kernel_rfl) (fun _ _ _ h => h) (Or.inl ⟨by rfl, ?_⟩) hS ?_
    rotate_left
    · intro w' hSw; (try dsimp only at hSw); go_split_ands; go_simp; (try with_reducible rfl)
    (try simp only [Act.put, List.setIfInBounds_toArray, List.set_cons_zero, List.set_cons_succ])
    refine wpAnyH_take (i := 13) (v := ?_) (by simp only [List.getElem?_toArray, List.getElem?_cons_succ, List.getElem?_cons_zero]; rfl) (by kernel_rfl) (by kernel_rfl) (by kernel_rfl) (fun _ _ _ h => h) (Or.inl ⟨by rfl, ?_⟩) hS ?_
    rotate_left
    · intro w' hSw; (try dsimp only at hSw); go_split_ands; go_simp; (try with_reducible rfl)
    (try simp only [Act.put, List.setIfInBounds_toArray, List.set_cons_zero, List.set_cons_succ])
    refine wpAnyH_take (i := 14) (v := ?_) (by simp only [List.getElem?_toArray, List.getElem?_cons_succ, List.getElem?_cons_zero]; rfl) (by kernel_rfl) (by kernel_rfl) (by kernel_rfl) (fun _ _ _ h => h) (Or.inl ⟨by rfl, ?_⟩) hS ?_
    rotate_left
    · intro w' hSw; (try dsimp only at hSw); go_split_ands; go_simp; (try with_reducible rfl)
    (try simp only [Act.put, List.setIfInBounds_toArray, List.set_cons_zero, List.set_cons_succ])
    refine wpAnyH_ready (rs := [11]) (by kernel_rfl) (by simp) ?_
    refine AllReadyH.cons (by simp only [List.getElem?_toArray, List.getElem?_cons_succ, List.getElem?_cons_zero]; rfl) (fun K hK => ?_) ?_
    · skip
      go_simp
      refine (ask_any a _).mono ?_
      rintro e w22 ⟨rfl, hb⟩
      have hsz0 := hid (show Wd.heap.size ≤ w22.heap.size from hb.size)
      replace PS := hid (PS.out.step hb); replace P1 := hid (P1.out.step hb); replace P2 := hid (P2.out.step hb); replace HB := hid (below_then HB.out hb)
      clear hb
      go_wp2_with fail
      have hS' : (fun W' : World => W'.cell? ⟨w.heap.size, 0, none⟩ = some (.int .i64 a) ∧ W'.cell? ⟨w.heap.size, 1, none⟩ = some (.int .i64 3) ∧ W'.cell? ⟨w.heap.size, 2, none⟩ = some (.int .u64 t) ∧ W'.cell? ⟨w21.heap.size, 0, none⟩ = some (.int .i64 a) ∧ W'.cell? ⟨w21.heap.size, 1, none⟩ = some (.int .i64 4) ∧ W'.cell? ⟨w21.heap.size, 2, none⟩ = some (.int .u64 t) ∧ W'.cell? ⟨w21.heap.size + 1, 0, none⟩ = some (.int .i64 a) ∧ W'.cell? ⟨w21.heap.size + 1, 1, none⟩ = some (.int .i64 4) ∧ W'.cell? ⟨w21.heap.size + 1, 2, none⟩ = some (.int .u64 t)) _ := ⟨PS.out.cells3.1, PS.out.cells3.2.1, PS.out.cells3.2.2.1, P1.out.cells3.1, P1.out.cells3.2.1, P1.out.cells3.2.2.1, P2.out.cells3.1, P2.out.cells3.2.1, P2.out.cells3.2.2.1⟩
      refine hK.out _ _ hS' (fun _ => ?_)
      clear hK K hS
      have hS := hS'
      clear hS'
      (try simp only [Act.put, List.setIfInBounds_toArray, List.set_cons_zero, List.set_cons_succ])
      refine wpAnyH_take (i := 15) (v := ?_) (by simp only [List.getElem?_toArray, List.getElem?_cons_succ, List.getElem?_cons_zero]; rfl) (by kernel_rfl) (by kernel_rfl) (by kernel_rfl) (fun _ _ _ h => h) (Or.inl ⟨by rfl, ?_⟩) hS ?_
      rotate_left
      · intro w' hSw; (try dsimp only at hSw); go_split_ands; go_simp; (try with_reducible rfl)
      (try simp only [Act.put, List.setIfInBounds_toArray, List.set_cons_zero, List.set_cons_succ])
      refine wpAnyH_take (i := 16) (v := ?_) (by simp only [List.getElem?_toArray, List.getElem?_cons_succ, List.getElem?_cons_zero]; rfl) (by kernel_rfl) (by kernel_rfl) (by kernel_rfl) (fun _ _ _ h => h) (Or.inl ⟨by rfl, ?_⟩) hS ?_
      rotate_left
      · intro w' hSw; (try dsimp only at hSw); go_split_ands; go_simp; (try with_reducible rfl)
      (try simp only [Act.put, List.setIfInBounds_toArray, List.set_cons_zero, List.set_cons_succ])
      refine wpAnyH_take (i := 17) (v := ?_) (by simp only [List.getElem?_toArray, List.getElem?_cons_succ, List.getElem?_cons_zero]; rfl) (by kernel_rfl) (by kernel_rfl) (by kernel_rfl) (fun _ _ _ h => h) (Or.inl ⟨by rfl, ?_⟩) hS ?_
      rotate_left
      · intro w' hSw; (try dsimp only at hSw); go_split_ands; go_simp; (try with_reducible rfl)
      (try simp only [Act.put, List.setIfInBounds_toArray, List.set_cons_zero, List.set_cons_succ])
      refine wpAnyH_done (by kernel_rfl) ?_ _
      refine NoPanic.normal ?_
      clear hS
      go_wp2
      go_ret
      exact ⟨rfl, HB.out⟩
    exact AllReadyH.nil
set_option maxRecDepth 100000 in
set_option maxHeartbeats 8000000 in
theorem sptakes5 (a  t : Int) (L : Option Addr) (nl cl : Nat) (ls : List (Int × Bool)) (w : World) (hl : Sm 2 encG (0, false) w 0 w.heap.size L nl ls) (hnl : nl ≤ 9223372036854775807) (hyp : SpGood (a, 5, t)) :
    Calls Try.prog 4 #[sv a 5 t, .slice L nl cl] w fun e w' => e = .returned (.bool true) ∧ Below w.heap.size w w' := by
  have HL := hid hl; have HB := hid (Below.refl w.heap.size w); have HY := hid hyp
  clear hl hyp
  have HG := HY
  have HR := hid (show decide (SpGood (a, 5, t)) = true from decide_eq_true HG.out)
  have HC := hid (show spCheckC (a, 5, t) = 0 from if_pos HG.out)
  have HHS := hid (show decide (spHas 5) = false from by decide)
  have HN := hid (show spNeedF (a, 5, t) = ((0, 0, 0, 0), false) from if_neg (fun h => absurd h.2 (show ¬ spHas 5 by decide)))
  have hp3 : (5 : Int) ≠ 3 := by decide
  have HV := hid (show spLeaveF (a, 5, t) = ((0, 0, 0), 2) by rw [spLeaveF, if_neg (not_not_intro HG.out), if_pos hp3])
  have hp3b : ((5 : Int) == 3) = false := by decide
  clear hp3
  have HL0 := HL
  have bx := below_box w (.cells (scs a 5 t) 38)
  replace HB := hid (below_then HB.out bx)
  clear bx
  have PS := hid (Blk.new w 38 (scs a 5 t))
  go_enter Try.func4, Try.ntmps4
  go_wp2_with fail
  generalize w.alloc (.cells (scs a 5 t) 38) = W0 at *
  refine (spwakes_any W0).mono ?_
  rintro e w1 ⟨rfl, hb⟩
  replace PS := hid (PS.out.step hb); replace HB := hid (below_then HB.out hb)
  clear hb
  obtain ⟨y00, y01, y02, yf0⟩ := PS.out.cells3
  go_wp2_with fail
  clear y00 y01 y02 yf0
  refine (rspright_any a 5 t w1).mono ?_
  rintro e w2 ⟨rfl, hb⟩
  replace PS := hid (PS.out.step hb); replace HB := hid (below_then HB.out hb)
  clear hb
  rw [HR.out]
  obtain ⟨y00, y01, y02, yf0⟩ := PS.out.cells3
  go_wp2_with fail
  clear y00 y01 y02 yf0
  refine (spcheck_any a 5 t w2).mono ?_
  rintro e w3 ⟨rfl, hb⟩
  replace PS := hid (PS.out.step hb); replace HB := hid (below_then HB.out hb)
  clear hb
  rw [HC.out]
  obtain ⟨y00, y01, y02, yf0⟩ := PS.out.cells3
  go_wp2_with fail
  clear y00 y01 y02 yf0
  refine (spneed_any a 5 t w3).mono ?_
  rintro e w4 ⟨rfl, hb⟩
  replace PS := hid (PS.out.step hb); replace HB := hid (below_then HB.out hb)
  clear hb
  rw [HN.out]
  dsimp only
  have hps := hid PS.out.lt
  have bx := below_box w4 (.cells (acs 0 0 0 0) 49)
  replace PS := hid (PS.out.step bx); replace HB := hid (below_then HB.out bx)
  clear bx
  have PA := hid (Blk.new w4 49 (acs 0 0 0 0))
  have bx := below_box (w4.alloc (.cells (acs 0 0 0 0) 49)) (.cells (acs 0 0 0 0) 49)
  replace PS := hid (PS.out.step bx); replace PA := hid (PA.out.step bx); replace HB := hid (below_then HB.out bx)
  clear bx
  have PW := hid (Blk.new2 w4 49 (acs 0 0 0 0) (.cells (acs 0 0 0 0) 49))
  obtain ⟨y00, y01, y02, yf0⟩ := PS.out.cells3
  go_upto_region 7 with fail
  clear y00 y01 y02 yf0
  have hz4 := hid (show ((w4.alloc (.cells (acs 0 0 0 0) 49)).alloc (.cells (acs 0 0 0 0) 49)).heap.size = w4.heap.size + 2 by simp)
  generalize (w4.alloc (.cells (acs 0 0 0 0) 49)).alloc (.cells (acs 0 0 0 0) 49) = W4 at *
  obtain ⟨y00, y01, y02, yf0⟩ := PS.out.cells3
  obtain ⟨y10, y11, y12, y13, yf1⟩ := PA.out.cells4
  obtain ⟨y20, y21, y22, y23, yf2⟩ := PW.out.cells4
  go_wp2_with fail
  clear y00 y01 y02 yf0 y10 y11 y12 y13 yf1 y20 y21 y22 y23 yf2
  refine (rsphas_any a 5 t W4).mono ?_
  rintro e w5 ⟨rfl, hb⟩
  replace PS := hid (PS.out.step hb); replace PA := hid (PA.out.step hb); replace PW := hid (PW.out.step hb); replace HB := hid (below_then HB.out hb)
  clear hb
  rw [HHS.out]
  have hneq := neqs_acc 0 0 0 0
  obtain ⟨y00, y01, y02, yf0⟩ := PS.out.cells3
  obtain ⟨y10, y11, y12, y13, yf1⟩ := PA.out.cells4
  obtain ⟨y20, y21, y22, y23, yf2⟩ := PW.out.cells4
  go_wp2_with fail
  clear y00 y01 y02 yf0 y10 y11 y12 y13 yf1 y20 y21 y22 y23 yf2
  refine (rsphas_any a 5 t _).mono ?_
  rintro e w7 ⟨rfl, hb⟩
  replace PS := hid (PS.out.step hb); replace PA := hid (PA.out.step hb); replace PW := hid (PW.out.step hb); replace HB := hid (below_then HB.out hb)
  clear hb
  rw [HHS.out]
  obtain ⟨y00, y01, y02, yf0⟩ := PS.out.cells3
  obtain ⟨y10, y11, y12, y13, yf1⟩ := PA.out.cells4
  obtain ⟨y20, y21, y22, y23, yf2⟩ := PW.out.cells4
  go_upto_block 0 with fail
  clear hneq y00 y01 y02 yf0 y10 y11 y12 y13 yf1 y20 y21 y22 y23 yf2
  clear PA PW
  have XPS := PS; have XB := HB; have H0 := hid (Below.refl w7.heap.size w7)
  go_cut [] (fun wx => Below w7.heap.size w7 wx)
  case first =>
    go_wp2_with fail
    go_loopw [66] (fun i wr => ∃ j : Nat, j ≤ nl ∧ j ≤ 6 ∧ i = .int .i64 j ∧ Below w7.heap.size w7 wr) (fun i _ => nl - (intOf i).toNat)
    case atStart => exact ⟨0, Nat.zero_le _, by omega, rfl, H0.out⟩
    case round =>
      clear PS HB H0
      obtain ⟨j, hj, hj6, rfl, hbr⟩ := hrel
      have HBR := hid hbr; have PS := hid (XPS.out.step hbr)
      have HLW := hid (HL0.out.below (below_then XB.out hbr) (Nat.le_refl _))
      clear hbr
      by_cases hjl : j < nl
      · obtain ⟨b, off, rfl, _, _, hc⟩ := HLW.out.row (by omega)
        obtain ⟨f0, f1⟩ := Sm.got hc hjl
        obtain ⟨⟨gx, gy⟩, hx⟩ : ∃ x, x = ls[j]?.getD (0, false) := ⟨_, rfl⟩
        rw [← hx] at f0 f1
        clear hc hx HLW
        by_cases hj2 : j = 6
        · have hjb : ((j : Int) == 6) = true := by simp; omega
          subst hj2
          simp only [show ((6 : Nat) : Int) = 6 from rfl] at *
          have h6n : (6 : Int) < (nl : Int) := by omega
          go_wp2
          go_meet
          exact below_then HBR.out (below_box _ _)
        have hjb : ((j : Int) == 6) = false := by simp; omega
        have hji : (j : Int) < (nl : Int) := by omega
        have bx := below_box wr (.cells #[.int .u64 gx, .bool gy] 54)
        replace PS := hid (PS.out.step bx); replace HBR := hid (below_then HBR.out bx)
        clear bx
        have PG := hid (Blk.new wr 54 #[.int .u64 gx, .bool gy])
        skip
        go_upto_region 15 with fail
        clear f0 f1
        generalize wr.alloc (.cells #[.int .u64 gx, .bool gy] 54) = W8 at *
        obtain ⟨⟨⟨ta, tp, tt⟩, tc⟩, htk⟩ : ∃ x, x = spTakeF (a, 5, t) (gx, gy) := ⟨_, rfl⟩
        have HTK := hid htk
        clear htk
        obtain ⟨y00, y01, y02, yf0⟩ := PS.out.cells3
        obtain ⟨y10, y11, yf1⟩ := PG.out.cells2
        go_wp2_with fail
        clear y00 y01 y02 yf0 y10 y11 yf1
        refine (sptake_any a 5 t gx gy W8).mono ?_
        rintro e w9 ⟨rfl, hb⟩
        replace PS := hid (PS.out.step hb); replace PG := hid (PG.out.step hb); replace HBR := hid (below_then HBR.out hb)
        clear hb
        rw [← HTK.out]
        dsimp only
        have hw9 := hid HBR.out.size
        have bx := below_box w9 (.cells (scs ta tp tt) 38)
        replace PS := hid (PS.out.step bx); replace PG := hid (PG.out.step bx); replace HBR := hid (below_then HBR.out bx)
        clear bx
        have PN := hid (Blk.new w9 38 (scs ta tp tt))
        have bx := below_box (w9.alloc (.cells (scs ta tp tt) 38)) (.cells (scs 0 0 0) 38)
        replace PS := hid (PS.out.step bx); replace PG := hid (PG.out.step bx); replace PN := hid (PN.out.step bx); replace HBR := hid (below_then HBR.out bx)
        clear bx
        have PT := hid (Blk.new2 w9 38 (scs 0 0 0) (.cells (scs ta tp tt) 38))
        obtain ⟨y00, y01, y02, yf0⟩ := PN.out.cells3
        obtain ⟨y10, y11, y12, yf1⟩ := PT.out.cells3
        go_upto_region 18 with fail
        clear y00 y01 y02 yf0 y10 y11 y12 yf1
        have hz9 := hid (show ((w9.alloc (.cells (scs ta tp tt) 38)).alloc (.cells (scs 0 0 0) 38)).heap.size = w9.heap.size + 2 by simp)
        generalize (w9.alloc (.cells (scs ta tp tt) 38)).alloc (.cells (scs 0 0 0) 38) = W9 at *
        obtain ⟨y00, y01, y02, yf0⟩ := PS.out.cells3
        go_wp2_with fail
        clear y00 y01 y02 yf0
        refine (rsphas_any a 5 t W9).mono ?_
        rintro e w10 ⟨rfl, hb⟩
        replace PS := hid (PS.out.step hb); replace PG := hid (PG.out.step hb); replace PN := hid (PN.out.step hb); replace PT := hid (PT.out.step hb); replace HBR := hid (below_then HBR.out hb)
        clear hb
        rw [HHS.out]
        obtain ⟨⟨rfl, rfl, rfl⟩, rfl⟩ : (ta = 0 ∧ tp = 0 ∧ tt = 0) ∧ tc = 2 := by have := HTK.out; rw [show spTakeF (a, 5, t) (gx, gy) = ((0, 0, 0), 2) by rw [spTakeF, if_neg (not_not_intro HG.out), if_pos (of_decide_eq_false HHS.out)]] at this; simpa using this
        have hns := neqs_spn 0 0 0
        obtain ⟨y00, y01, y02, yf0⟩ := PN.out.cells3
        obtain ⟨y10, y11, y12, yf1⟩ := PT.out.cells3
        go_wp2_with fail
        clear y00 y01 y02 yf0 y10 y11 y12 yf1 hns
        go_roundw
        case rel => exact ⟨j + 1, by omega, by omega, by go_num, HBR.out⟩
        case measure => simp [intOf]; omega
      · obtain rfl : j = nl := by omega
        go_wp2
        go_meet
        exact HBR.out
  case rest =>
    rename World => W20
    have hb := hcut
    clear hcut
    replace PS := hid (PS.out.step hb); replace HB := hid (below_then HB.out hb)
    clear hb H0
    obtain ⟨y00, y01, y02, yf0⟩ := PS.out.cells3
    go_wp2_with fail
    clear y00 y01 y02 yf0
    refine (spleave_any a 5 t W20).mono ?_
    rintro e w21 ⟨rfl, hb⟩
    replace PS := hid (PS.out.step hb); replace HB := hid (below_then HB.out hb)
    clear hb
    rw [HV.out]
    dsimp only
    have hps21 := hid PS.out.lt
    have bx := below_box w21 (.cells (scs 0 0 0) 38)
    replace PS := hid (PS.out.step bx); replace HB := hid (below_then HB.out bx)
    clear bx
    have P1 := hid (Blk.new w21 38 (scs 0 0 0))
    have bx := below_box (w21.alloc (.cells (scs 0 0 0) 38)) (.cells (scs 0 0 0) 38)
    replace PS := hid (PS.out.step bx); replace P1 := hid (P1.out.step bx); replace HB := hid (below_then HB.out bx)
    clear bx
    have P2 := hid (Blk.new2 w21 38 (scs 0 0 0) (.cells (scs 0 0 0) 38))
    have hns := eqds_spn 0 0 0; have hna := eqds_spn a 0 0
    obtain ⟨y00, y01, y02, yf0⟩ := PS.out.cells3
    obtain ⟨y10, y11, y12, yf1⟩ := P1.out.cells3
    obtain ⟨y20, y21, y22, yf2⟩ := P2.out.cells3
    go_upto_region 31 with fail
    clear y00 y01 y02 yf0 y10 y11 y12 yf1 y20 y21 y22 yf2
    have hz21 := hid (show ((w21.alloc (.cells (scs 0 0 0) 38)).alloc (.cells (scs 0 0 0) 38)).heap.size = w21.heap.size + 2 by simp)
    generalize (w21.alloc (.cells (scs 0 0 0) 38)).alloc (.cells (scs 0 0 0) 38) = W21 at *
    clear XPS XB
    have bx := (Below.refl W21.heap.size W21).drew
    replace PS := hid (PS.out.step bx); replace P1 := hid (P1.out.step bx); replace P2 := hid (P2.out.step bx); replace HB := hid (below_then HB.out bx)
    clear bx
    have hszd := hid (show W21.drew.heap.size = W21.heap.size from rfl)
    refine wp_region_noPanic ?_
    refine wp_region_held_drew (S := (fun W' : World => W'.cell? ⟨w.heap.size, 0, none⟩ = some (.int .i64 a) ∧ W'.cell? ⟨w.heap.size, 1, none⟩ = some (.int .i64 5) ∧ W'.cell? ⟨w.heap.size, 2, none⟩ = some (.int .u64 t) ∧ W'.cell? ⟨w21.heap.size, 0, none⟩ = some (.int .i64 0) ∧ W'.cell? ⟨w21.heap.size, 1, none⟩ = some (.int .i64 0) ∧ W'.cell? ⟨w21.heap.size, 2, none⟩ = some (.int .u64 0) ∧ W'.cell? ⟨w21.heap.size + 1, 0, none⟩ = some (.int .i64 0) ∧ W'.cell? ⟨w21.heap.size + 1, 1, none⟩ = some (.int .i64 0) ∧ W'.cell? ⟨w21.heap.size + 1, 2, none⟩ = some (.int .u64 0))) (by kernel_rfl) ⟨PS.out.cells3.1, PS.out.cells3.2.1, PS.out.cells3.2.2.1, P1.out.cells3.1, P1.out.cells3.2.1, P1.out.cells3.2.2.1, P2.out.cells3.1, P2.out.cells3.2.1, P2.out.cells3.2.2.1⟩ (fun hS => ?_)
    generalize W21.drew = Wd at *
    refine wpAnyH_take (i := 0) (v := ?_) (by simp only [List.getElem?_toArray, List.getElem?_cons_succ, List.getElem?_cons_zero]; rfl) (by kernel_rfl) (by kernel_rfl) (by kernel_rfl) (fun _ _ _ h => h) (Or.inl ⟨by rfl, ?_⟩) hS ?_
    rotate_left
    · intro w' hSw; (try dsimp only at hSw); go_split_ands; go_simp; (try with_reducible rfl)
    (try simp only [Act.put, List.setIfInBounds_toArray, List.set_cons_zero, List.set_cons_succ])
    refine wpAnyH_take (i := 1) (v := ?_) (by simp only [List.getElem?_toArray, List.getElem?_cons_succ, List.getElem?_cons_zero]; rfl) (by kernel_rfl) (by kernel_rfl) (by kernel_rfl) (fun _ _ _ h => h) (Or.inl ⟨by rfl, ?_⟩) hS ?_
    rotate_left
    · intro w' hSw; (try dsimp only at hSw); go_split_ands; go_simp; (try with_reducible rfl)
    (try simp only [Act.put, List.setIfInBounds_toArray, List.set_cons_zero, List.set_cons_succ])
    refine wpAnyH_take (i := 2) (v := ?_) (by simp only [List.getElem?_toArray, List.getElem?_cons_succ, List.getElem?_cons_zero]; rfl) (by kernel_rfl) (by kernel_rfl) (by kernel_rfl) (fun _ _ _ h => h) (Or.inl ⟨by rfl, ?_⟩) hS ?_
    rotate_left
    · intro w' hSw; (try dsimp only at hSw); go_split_ands; go_simp; (try with_reducible rfl)
    (try simp only [Act.put, List.setIfInBounds_toArray, List.set_cons_zero, List.set_cons_succ])
    refine wpAnyH_take (i := 3) (v := ?_) (by simp only [List.getElem?_toArray, List.getElem?_cons_succ, List.getElem?_cons_zero]; rfl) (by kernel_rfl) (by kernel_rfl) (by kernel_rfl) (fun _ _ _ h => h) (Or.inl ⟨by rfl, ?_⟩) hS ?_
    rotate_left
    · intro w' hSw; (try dsimp only at hSw); go_split_ands; go_simp; (try with_reducible rfl)
    (try simp only [Act.put, List.setIfInBounds_toArray, List.set_cons_zero, List.set_cons_succ])
    refine wpAnyH_take (i := 4) (v := ?_) (by simp only [List.getElem?_toArray, List.getElem?_cons_succ, List.getElem?_cons_zero]; rfl) (by kernel_rfl) (by kernel_rfl) (by kernel_rfl) (fun _ _ _ h => h) (Or.inl ⟨by rfl, ?_⟩) hS ?_
    rotate_left
    · intro w' hSw; (try dsimp only at hSw); go_split_ands; go_simp; (try with_reducible rfl)
    (try simp only [Act.put, List.setIfInBounds_toArray, List.set_cons_zero, List.set_cons_succ])
    refine wpAnyH_take (i := 5) (v := ?_) (by simp only [List.getElem?_toArray, List.getElem?_cons_succ, List.getElem?_cons_zero]; rfl) (by kernel_rfl) (by kernel_rfl) (by kernel_rfl) (fun _ _ _ h => h) (Or.inl ⟨by rfl, ?_⟩) hS ?_
    rotate_left
    · intro w' hSw; (try dsimp only at hSw); go_split_ands; go_simp; (try with_reducible rfl)
    (try simp only [Act.put, List.setIfInBounds_toArray, List.set_cons_zero, List.set_cons_succ])
    refine wpAnyH_take (i := 6) (v := ?_) (by simp only [List.getElem?_toArray, List.getElem?_cons_succ, List.getElem?_cons_zero]; rfl) (by kernel_rfl) (by kernel_rfl) (by kernel_rfl) (fun _ _ _ h => h) (Or.inl ⟨by rfl, ?_⟩) hS ?_
    rotate_left
    · intro w' hSw; (try dsimp only at hSw); go_split_ands; go_simp; (try with_reducible rfl)
    (try simp only [Act.put, List.setIfInBounds_toArray, List.set_cons_zero, List.set_cons_succ])
    refine wpAnyH_take (i := 7) (v := ?_) (by simp only [List.getElem?_toArray, List.getElem?_cons_succ, List.getElem?_cons_zero]; rfl) (by kernel_rfl) (by kernel_rfl) (by kernel_rfl) (fun _ _ _ h => h) (Or.inl ⟨by rfl, ?_⟩) hS ?_
    rotate_left
    · intro w' hSw; (try dsimp only at hSw); go_split_ands; go_simp; (try with_reducible rfl)
    (try simp only [Act.put, List.setIfInBounds_toArray, List.set_cons_zero, List.set_cons_succ])
    refine wpAnyH_take (i := 8) (v := ?_) (by simp only [List.getElem?_toArray, List.getElem?_cons_succ, List.getElem?_cons_zero]; rfl) (by kernel_rfl) (by kernel_rfl) (by kernel_rfl) (fun _ _ _ h => h) (Or.inl ⟨by rfl, ?_⟩) hS ?_
    rotate_left
    · intro w' hSw; (try dsimp only at hSw); go_split_ands; go_simp; (try with_reducible rfl)
    (try simp only [Act.put, List.setIfInBounds_toArray, List.set_cons_zero, List.set_cons_succ])
    refine wpAnyH_take (i := 9) (v := ?_) (by simp only [List.getElem?_toArray, List.getElem?_cons_succ, List.getElem?_cons_zero]; rfl) (by kernel_rfl) (by kernel_rfl) (by kernel_rfl) (fun _ _ _ h => h) (Or.inl ⟨by rfl, ?_⟩) hS ?_
    rotate_left
    · intro w' hSw; (try dsimp only at hSw); go_split_ands; go_simp; (try with_reducible rfl)
    (try simp only [Act.put, List.setIfInBounds_toArray, List.set_cons_zero, List.set_cons_succ])
    refine wpAnyH_take (i := 10) (v := ?_) (by simp only [List.getElem?_toArray, List.getElem?_cons_succ, List.getElem?_cons_zero]; rfl) (by kernel_rfl) (by kernel_rfl) (by kernel_rfl) (fun _ _ _ h => h) (Or.inl ⟨by rfl, ?_⟩) hS ?_
    rotate_left
    · intro w' hSw; (try dsimp only at hSw); go_split_ands; go_simp; (try with_reducible rfl)
    (try simp only [Act.put, List.setIfInBounds_toArray, List.set_cons_zero, List.set_cons_succ])
    refine wpAnyH_take (i := 12) (v := ?_) (by simp only [List.getElem?_toArray, List.getElem?_cons_succ, List.getElem?_cons_zero]; rfl) (by kernel_rfl) (by kernel_rfl) (by kernel_rfl) (fun _ _ _ h => h) (Or.inl ⟨by rfl, ?_⟩) hS ?_
    rotate_left
    · intro w' hSw; (try dsimp only at hSw); go_split_ands; go_simp; (try with_reducible rfl)
    (try simp only [Act.put, List.setIfInBounds_toArray, List.set_cons_zero, List.set_cons_succ])
    refine wpAnyH_take (i := 13) (v := ?_) (by simp only [List.getElem?_toArray, List.getElem?_cons_succ, List.getElem?_cons_zero]; rfl) (by kernel_rfl) (by kernel_rfl) (by kernel_rfl) (fun _ _ _ h => h) (Or.inl ⟨by rfl, ?_⟩) hS ?_
    rotate_left
    · intro w' hSw; (try dsimp only at hSw); go_split_ands; go_simp; (try with_reducible rfl)
    (try simp only [Act.put, List.setIfInBounds_toArray, List.set_cons_zero, List.set_cons_succ])
    refine wpAnyH_take (i := 14) (v := ?_) (by simp only [List.getElem?_toArray, List.getElem?_cons_succ, List.getElem?_cons_zero]; rfl) (by kernel_rfl) (by kernel_rfl) (by kernel_rfl) (fun _ _ _ h => h) (Or.inl ⟨by rfl, ?_⟩) hS ?_
    rotate_left
    · intro w' hSw; (try dsimp only at hSw); go_split_ands; go_simp; (try with_reducible rfl)
    (try simp only [Act.put, List.setIfInBounds_toArray, List.set_cons_zero, List.set_cons_succ])
    refine wpAnyH_ready (rs := [11]) (by kernel_rfl) (by simp) ?_
    refine AllReadyH.cons (by simp only [List.getElem?_toArray, List.getElem?_cons_succ, List.getElem?_cons_zero]; rfl) (fun K hK => ?_) ?_
    · skip
      go_simp
      refine (ask_any a _).mono ?_
      rintro e w22 ⟨rfl, hb⟩
      have hsz0 := hid (show Wd.heap.size ≤ w22.heap.size from hb.size)
      replace PS := hid (PS.out.step hb); replace P1 := hid (P1.out.step hb); replace P2 := hid (P2.out.step hb); replace HB := hid (below_then HB.out hb)
      clear hb
      go_wp2_with fail
      have hS' : (fun W' : World => W'.cell? ⟨w.heap.size, 0, none⟩ = some (.int .i64 a) ∧ W'.cell? ⟨w.heap.size, 1, none⟩ = some (.int .i64 5) ∧ W'.cell? ⟨w.heap.size, 2, none⟩ = some (.int .u64 t) ∧ W'.cell? ⟨w21.heap.size, 0, none⟩ = some (.int .i64 0) ∧ W'.cell? ⟨w21.heap.size, 1, none⟩ = some (.int .i64 0) ∧ W'.cell? ⟨w21.heap.size, 2, none⟩ = some (.int .u64 0) ∧ W'.cell? ⟨w21.heap.size + 1, 0, none⟩ = some (.int .i64 0) ∧ W'.cell? ⟨w21.heap.size + 1, 1, none⟩ = some (.int .i64 0) ∧ W'.cell? ⟨w21.heap.size + 1, 2, none⟩ = some (.int .u64 0)) _ := ⟨PS.out.cells3.1, PS.out.cells3.2.1, PS.out.cells3.2.2.1, P1.out.cells3.1, P1.out.cells3.2.1, P1.out.cells3.2.2.1, P2.out.cells3.1, P2.out.cells3.2.1, P2.out.cells3.2.2.1⟩
      refine hK.out _ _ hS' (fun _ => ?_)
      clear hK K hS
      have hS := hS'
      clear hS'
      (try simp only [Act.put, List.setIfInBounds_toArray, List.set_cons_zero, List.set_cons_succ])
      refine wpAnyH_take (i := 15) (v := ?_) (by simp only [List.getElem?_toArray, List.getElem?_cons_succ, List.getElem?_cons_zero]; rfl) (by kernel_rfl) (by kernel_rfl) (by kernel_rfl) (fun _ _ _ h => h) (Or.inl ⟨by rfl, ?_⟩) hS ?_
      rotate_left
      · intro w' hSw; (try dsimp only at hSw); go_split_ands; go_simp; (try with_reducible rfl)
      (try simp only [Act.put, List.setIfInBounds_toArray, List.set_cons_zero, List.set_cons_succ])
      refine wpAnyH_take (i := 16) (v := ?_) (by simp only [List.getElem?_toArray, List.getElem?_cons_succ, List.getElem?_cons_zero]; rfl) (by kernel_rfl) (by kernel_rfl) (by kernel_rfl) (fun _ _ _ h => h) (Or.inl ⟨by rfl, ?_⟩) hS ?_
      rotate_left
      · intro w' hSw; (try dsimp only at hSw); go_split_ands; go_simp; (try with_reducible rfl)
      (try simp only [Act.put, List.setIfInBounds_toArray, List.set_cons_zero, List.set_cons_succ])
      refine wpAnyH_take (i := 17) (v := ?_) (by simp only [List.getElem?_toArray, List.getElem?_cons_succ, List.getElem?_cons_zero]; rfl) (by kernel_rfl) (by kernel_rfl) (by kernel_rfl) (fun _ _ _ h => h) (Or.inl ⟨by rfl, ?_⟩) hS ?_
      rotate_left
      · intro w' hSw; (try dsimp only at hSw); go_split_ands; go_simp; (try with_reducible rfl)
      (try simp only [Act.put, List.setIfInBounds_toArray, List.set_cons_zero, List.set_cons_succ])
      refine wpAnyH_done (by kernel_rfl) ?_ _
      refine NoPanic.normal ?_
      clear hS
      go_wp2
      go_ret
      exact ⟨rfl, HB.out⟩
    exact AllReadyH.nil
theorem sptakes_any (a p t : Int) (L : Option Addr) (nl cl : Nat) (ls : List (Int × Bool)) (w : World) (hl : Sm 2 encG (0, false) w 0 w.heap.size L nl ls) (hnl : nl ≤ 9223372036854775807) :
    Calls Try.prog 4 #[sv a p t, .slice L nl cl] w fun e w' => e = .returned (.bool true) ∧ Below w.heap.size w w' := by
  by_cases hg : SpGood (a, p, t)
  · by_cases hh : spHas p
    · exact sptakes_has a p t L nl cl ls w hl hnl ⟨hg, hh⟩
    · by_cases h3 : p = 3
      · subst h3; exact sptakes3 a t L nl cl ls w hl hnl hg
      · have h5 : p = 5 := by
          by_cases h5 : p = 5
          · exact h5
          · exact absurd ⟨h3, h5⟩ hh
        subst h5; exact sptakes5 a t L nl cl ls w hl hnl hg
  · exact sptakes_bad a p t L nl cl ls w hl hnl hg
end Go.Proofs.Ytaeanmkbongfcaa
