/- afterglowlaw06.SeqPlays returns true at every case, and picks, and turns nothing old. No condition but the sizes of memory, and that numbers without a sign are not below 0. -/
import Derived.Test.YtnkaajkdjbdpaaaSqV
namespace Go.Proofs.Ytnkaajkdjbdpaaa
open Go.RowKit
set_option maxRecDepth 100000 in
set_option maxHeartbeats 16000000 in
theorem sqplays_any (A : Option Addr) (n c : Nat) (B : Option Addr) (k d : Nat) (f : Bool) (xs : List Int) (ys : List Bool) (s0 : Srd) (V : Option Addr) (vn vc : Nat) (L : Option Addr) (nl cl : Nat) (es : List WrE) (Q : Option Addr) (nq cq : Nat) (ps : List Bool) (w : World) (hx : Sl u64v 0 w 0 w.heap.size A n xs) (hy : Sl blv false w 0 w.heap.size B k ys) (hnc : n ≤ c) (hkd : k ≤ d) (hv : Sl u64v 0 w 0 w.heap.size V vn s0.vs) (hvc : vn ≤ vc) (hbg : 0 ≤ s0.bg)
    (hl : Sm 6 encW zWe w 0 w.heap.size L nl es) (hlc : nl ≤ cl) (hwe : ∀ y ∈ es, WrEl w y) (hq : Sl blv false w 0 w.heap.size Q nq ps) (hqc : nq ≤ cq) :
    Calls Try.prog 4 #[.agg (casec A n c B k d f s0 V vn vc L nl cl), .slice Q nq cq] w fun e w' => e = .returned (.bool true) ∧ Below w.heap.size w w' := by
  have HX := hid hx; have HY := hid hy; have HV := hid hv; have HL := hid hl; have HQ := hid hq; have HWE := hid hwe; have HB := hid (Below.refl w.heap.size w); have HBG := hid hbg
  clear hx hy hv hl hwe hq hbg
  have bx := below_box w (.cells (casec A n c B k d f s0 V vn vc L nl cl) 47)
  replace HB := hid (below_then HB.out bx)
  clear bx
  have PC := hid (Blk.new w 47 (casec A n c B k d f s0 V vn vc L nl cl))
  go_enter Try.func4, Try.ntmps4
  go_wp2_with fail
  have hz0 := hid (show (w.alloc (.cells (casec A n c B k d f s0 V vn vc L nl cl) 47)).heap.size = w.heap.size + 1 by simp)
  generalize w.alloc (.cells (casec A n c B k d f s0 V vn vc L nl cl) 47) = W0 at *
  refine (sqwakes_any W0).mono ?_
  rintro e w1 ⟨rfl, hb⟩
  replace PC := hid (PC.out.step hb); replace HB := hid (below_then HB.out hb)
  clear hb
  go_upto_region 3 with fail
  have HQ1 := hid (Below.refl w1.heap.size w1); have hs1 := hid (show w.heap.size + 1 ≤ w1.heap.size by have := PC.out.lt; omega)
  have XPC := PC
  clear PC
  go_cut [5, 6] (fun s5 s6 wx => ∃ g7 g8, s5 = .pointer (some ⟨g7, 0, none⟩) ∧ s6 = .pointer (some ⟨g8, 0, none⟩) ∧ QPm w1 wx g7 g8 (xs.take 48, ys.take 48, f) (cutR s0))
  case first =>
    as_aux_lemma =>
      have hKP := hid (show ∀ W' : World, Below w1.heap.size w1 W' → (fun W' : World => W'.cell? ⟨w.heap.size, 0, none⟩ = some (.slice A n c) ∧ W'.cell? ⟨w.heap.size, 1, none⟩ = some (.slice B k d) ∧ W'.cell? ⟨w.heap.size, 2, none⟩ = some (.bool f) ∧ W'.cell? ⟨w.heap.size, 3, none⟩ = some (.int .i64 s0.a) ∧ W'.cell? ⟨w.heap.size, 4, none⟩ = some (.int .i64 s0.f) ∧ W'.cell? ⟨w.heap.size, 5, none⟩ = some (.int .i64 s0.m) ∧ W'.cell? ⟨w.heap.size, 6, none⟩ = some (.int .i64 s0.ph) ∧ W'.cell? ⟨w.heap.size, 7, none⟩ = some (.int .u64 s0.bg) ∧ W'.cell? ⟨w.heap.size, 8, none⟩ = some (.slice V vn vc) ∧ W'.cell? ⟨w.heap.size, 9, none⟩ = some (.int .i64 s0.tr) ∧ W'.cell? ⟨w.heap.size, 10, none⟩ = some (.slice L nl cl)) W' from fun W' hb => ⟨(XPC.out.step hb).cells11.1, (XPC.out.step hb).cells11.2.1, (XPC.out.step hb).cells11.2.2.1, (XPC.out.step hb).cells11.2.2.2.1, (XPC.out.step hb).cells11.2.2.2.2.1, (XPC.out.step hb).cells11.2.2.2.2.2.1, (XPC.out.step hb).cells11.2.2.2.2.2.2.1, (XPC.out.step hb).cells11.2.2.2.2.2.2.2.1, (XPC.out.step hb).cells11.2.2.2.2.2.2.2.2.1, (XPC.out.step hb).cells11.2.2.2.2.2.2.2.2.2.1, (XPC.out.step hb).cells11.2.2.2.2.2.2.2.2.2.2.1⟩)
      refine' merge_by (fun K0 => ?_) ?_
      rotate_left
      refine' merge_by (fun K1 => ?_) ?_
      rotate_left
      refine' merge_by (fun K2 => ?_) ?_
      rotate_left
      refine' merge_by (fun K3 => ?_) ?_
      rotate_left
      refine' merge_by (fun K4 => ?_) ?_
      rotate_left
      refine' merge_by (fun K5 => ?_) ?_
      rotate_left
      refine' merge_by (fun K6 => ?_) ?_
      rotate_left
      ·skip
       have bx := (Below.refl w1.heap.size w1).drew
       replace HQ1 := hid (below_then HQ1.out bx)
       clear bx
       refine wp_region_noPanic ?_
       refine wp_region_held_drew (S := (fun W' : World => W'.cell? ⟨w.heap.size, 0, none⟩ = some (.slice A n c) ∧ W'.cell? ⟨w.heap.size, 1, none⟩ = some (.slice B k d) ∧ W'.cell? ⟨w.heap.size, 2, none⟩ = some (.bool f) ∧ W'.cell? ⟨w.heap.size, 3, none⟩ = some (.int .i64 s0.a) ∧ W'.cell? ⟨w.heap.size, 4, none⟩ = some (.int .i64 s0.f) ∧ W'.cell? ⟨w.heap.size, 5, none⟩ = some (.int .i64 s0.m) ∧ W'.cell? ⟨w.heap.size, 6, none⟩ = some (.int .i64 s0.ph) ∧ W'.cell? ⟨w.heap.size, 7, none⟩ = some (.int .u64 s0.bg) ∧ W'.cell? ⟨w.heap.size, 8, none⟩ = some (.slice V vn vc) ∧ W'.cell? ⟨w.heap.size, 9, none⟩ = some (.int .i64 s0.tr) ∧ W'.cell? ⟨w.heap.size, 10, none⟩ = some (.slice L nl cl))) (by kernel_rfl) (hKP.out _ HQ1.out) (fun hS => ?_)
       generalize w1.drew = Wd at *
       refine tk1 (i := 0) (v := ?_) (hy := Or.inl ⟨by rfl, ?_⟩) (hS := hS) (h := ?_)
       rotate_left
       · intro w' hSw; (try dsimp only at hSw); go_split_ands; go_simp; (try with_reducible rfl)
       (try simp only [Act.put, List.setIfInBounds_toArray, List.set_cons_zero, List.set_cons_succ])
       refine tk1 (i := 1) (v := ?_) (hy := Or.inl ⟨by rfl, ?_⟩) (hS := hS) (h := ?_)
       rotate_left
       · intro w' hSw; (try dsimp only at hSw); go_split_ands; go_simp; (try with_reducible rfl)
       (try simp only [Act.put, List.setIfInBounds_toArray, List.set_cons_zero, List.set_cons_succ])
       refine tk1 (i := 3) (v := ?_) (hy := Or.inl ⟨by rfl, ?_⟩) (hS := hS) (h := ?_)
       rotate_left
       · intro w' hSw; (try dsimp only at hSw); go_split_ands; go_simp; (try with_reducible rfl)
       (try simp only [Act.put, List.setIfInBounds_toArray, List.set_cons_zero, List.set_cons_succ])
       refine tk1 (i := 4) (v := ?_) (hy := Or.inl ⟨by rfl, ?_⟩) (hS := hS) (h := ?_)
       rotate_left
       · intro w' hSw; (try dsimp only at hSw); go_split_ands; go_simp; (try with_reducible rfl)
       (try simp only [Act.put, List.setIfInBounds_toArray, List.set_cons_zero, List.set_cons_succ])
       refine rd1 (rs := [2, 6, 7]) (h := ?_)
       refine cs1 (h := fun K hK => ?_) (hs := ?_)
       ·skip
        have hpre := hid (show w1.heap.size ≤ Wd.heap.size from HQ1.out.size)
        go_simp
        refine (lawown_any A n c B k d f xs ys _ ((HX.out.below (below_then HB.out HQ1.out) (Nat.le_refl _)).mono (Nat.le_refl _) (below_then HB.out HQ1.out).size) ((HY.out.below (below_then HB.out HQ1.out) (Nat.le_refl _)).mono (Nat.le_refl _) (below_then HB.out HQ1.out).size) hnc hkd).mono ?_
        rintro e ws2 ⟨A2, n2, c2, B2, k2, d2, rfl, om, hb⟩
        replace HQ1 := hid (below_then HQ1.out hb)
        clear hb
        have OM := hid (om.mono (show w1.heap.size ≤ _ by have := HQ1.out.size; have := hpre.out; omega))
        clear om
        go_wp2_with fail
        clear hpre
        refine hK.out _ _ (hKP.out _ HQ1.out) (fun hS' => ?_)
        clear hK K hS
        have hS := hS'
        clear hS'
        (try simp only [Act.put, List.setIfInBounds_toArray, List.set_cons_zero, List.set_cons_succ])
        refine rd1 (rs := [5, 6, 7]) (h := ?_)
        refine cs1 (h := fun K hK => ?_) (hs := ?_)
        ·skip
         have hpre := hid (show w1.heap.size ≤ ws2.heap.size from HQ1.out.size)
         go_simp
         refine (ownread_any s0 V vn vc _ ((HV.out.below (below_then HB.out HQ1.out) (Nat.le_refl _)).mono (Nat.le_refl _) (below_then HB.out HQ1.out).size) hvc).mono ?_
         rintro e ws5 ⟨V2, vn2, vc2, rfl, ov, hb⟩
         replace OM := hid (OM.out.step hb); replace HQ1 := hid (below_then HQ1.out hb)
         clear hb
         have OV := hid (ov.mono (show w1.heap.size ≤ _ by have := HQ1.out.size; have := hpre.out; omega))
         clear ov
         go_wp2_with fail
         clear hpre
         refine hK.out _ _ (hKP.out _ HQ1.out) (fun hS' => ?_)
         clear hK K hS
         have hS := hS'
         clear hS'
         (try simp only [Act.put, List.setIfInBounds_toArray, List.set_cons_zero, List.set_cons_succ])
         refine rd1 (rs := [6, 7]) (h := ?_)
         refine cs1 (h := fun K hK => ?_) (hs := ?_)
         ·skip
          have hpre := hid (show w1.heap.size ≤ ws5.heap.size from HQ1.out.size)
          go_simp
          refine named_alloc ?_
          intro Wa6 hbk hb hsz
          replace OM := hid (OM.out.step hb); replace OV := hid (OV.out.step hb); replace HQ1 := hid (below_then HQ1.out hb)
          obtain ⟨ga6, hga⟩ : ∃ g, g = ws5.heap.size := ⟨_, rfl⟩
          rw [← hga] at hbk ⊢
          have hlo6 := hid (show w1.heap.size ≤ ga6 by have := hpre.out; omega)
          have P7 := hid hbk
          clear hb hbk hsz hga hpre
          refine hK.out _ _ (hKP.out _ HQ1.out) (fun hS' => ?_)
          clear hK K hS
          have hS := hS'
          clear hS'
          (try simp only [Act.put, List.setIfInBounds_toArray, List.set_cons_zero, List.set_cons_succ])
          revert hS; revert hlo6; revert HQ1; revert P7; revert OV; revert OM; revert ga6; revert vc2; revert vn2; revert V2; revert d2; revert k2; revert B2; revert c2; revert n2; revert A2; revert Wa6
          exact K1.out
         refine cs1 (h := fun K hK => ?_) (hs := ?_)
         ·skip
          have hpre := hid (show w1.heap.size ≤ ws5.heap.size from HQ1.out.size)
          go_simp
          refine named_alloc ?_
          intro Wa7 hbk hb hsz
          replace OM := hid (OM.out.step hb); replace OV := hid (OV.out.step hb); replace HQ1 := hid (below_then HQ1.out hb)
          obtain ⟨ga7, hga⟩ : ∃ g, g = ws5.heap.size := ⟨_, rfl⟩
          rw [← hga] at hbk ⊢
          have hlo7 := hid (show w1.heap.size ≤ ga7 by have := hpre.out; omega)
          have P8 := hid hbk
          clear hb hbk hsz hga hpre
          refine hK.out _ _ (hKP.out _ HQ1.out) (fun hS' => ?_)
          clear hK K hS
          have hS := hS'
          clear hS'
          (try simp only [Act.put, List.setIfInBounds_toArray, List.set_cons_zero, List.set_cons_succ])
          revert hS; revert hlo7; revert HQ1; revert P8; revert OV; revert OM; revert ga7; revert vc2; revert vn2; revert V2; revert d2; revert k2; revert B2; revert c2; revert n2; revert A2; revert Wa7
          exact K2.out
         exact AllReadyH.nil
        refine cs1 (h := fun K hK => ?_) (hs := ?_)
        ·skip
         have hpre := hid (show w1.heap.size ≤ ws2.heap.size from HQ1.out.size)
         go_simp
         refine named_alloc ?_
         intro Wa6 hbk hb hsz
         replace OM := hid (OM.out.step hb); replace HQ1 := hid (below_then HQ1.out hb)
         obtain ⟨ga6, hga⟩ : ∃ g, g = ws2.heap.size := ⟨_, rfl⟩
         rw [← hga] at hbk ⊢
         have hlo6 := hid (show w1.heap.size ≤ ga6 by have := hpre.out; omega)
         have P7 := hid hbk
         clear hb hbk hsz hga hpre
         refine hK.out _ _ (hKP.out _ HQ1.out) (fun hS' => ?_)
         clear hK K hS
         have hS := hS'
         clear hS'
         (try simp only [Act.put, List.setIfInBounds_toArray, List.set_cons_zero, List.set_cons_succ])
         revert hS; revert hlo6; revert HQ1; revert P7; revert OM; revert ga6; revert d2; revert k2; revert B2; revert c2; revert n2; revert A2; revert Wa6
         exact K4.out
        refine cs1 (h := fun K hK => ?_) (hs := ?_)
        ·skip
         have hpre := hid (show w1.heap.size ≤ ws2.heap.size from HQ1.out.size)
         go_simp
         refine named_alloc ?_
         intro Wa7 hbk hb hsz
         replace OM := hid (OM.out.step hb); replace HQ1 := hid (below_then HQ1.out hb)
         obtain ⟨ga7, hga⟩ : ∃ g, g = ws2.heap.size := ⟨_, rfl⟩
         rw [← hga] at hbk ⊢
         have hlo7 := hid (show w1.heap.size ≤ ga7 by have := hpre.out; omega)
         have P8 := hid hbk
         clear hb hbk hsz hga hpre
         refine hK.out _ _ (hKP.out _ HQ1.out) (fun hS' => ?_)
         clear hK K hS
         have hS := hS'
         clear hS'
         (try simp only [Act.put, List.setIfInBounds_toArray, List.set_cons_zero, List.set_cons_succ])
         revert hS; revert hlo7; revert HQ1; revert P8; revert OM; revert ga7; revert d2; revert k2; revert B2; revert c2; revert n2; revert A2; revert Wa7
         exact K5.out
        exact AllReadyH.nil
       refine cs1 (h := fun K hK => ?_) (hs := ?_)
       ·skip
        have hpre := hid (show w1.heap.size ≤ Wd.heap.size from HQ1.out.size)
        go_simp
        refine named_alloc ?_
        intro Wa6 hbk hb hsz
        replace HQ1 := hid (below_then HQ1.out hb)
        obtain ⟨ga6, hga⟩ : ∃ g, g = Wd.heap.size := ⟨_, rfl⟩
        rw [← hga] at hbk ⊢
        have hlo6 := hid (show w1.heap.size ≤ ga6 by have := hpre.out; omega)
        have P7 := hid hbk
        clear hb hbk hsz hga hpre
        refine hK.out _ _ (hKP.out _ HQ1.out) (fun hS' => ?_)
        clear hK K hS
        have hS := hS'
        clear hS'
        (try simp only [Act.put, List.setIfInBounds_toArray, List.set_cons_zero, List.set_cons_succ])
        refine rd1 (rs := [2, 7]) (h := ?_)
        refine cs1 (h := fun K hK => ?_) (hs := ?_)
        ·skip
         have hpre := hid (show w1.heap.size ≤ Wa6.heap.size from HQ1.out.size)
         have hpl6 := hid P7.out.lt
         go_simp
         refine (lawown_any A n c B k d f xs ys _ ((HX.out.below (below_then HB.out HQ1.out) (Nat.le_refl _)).mono (Nat.le_refl _) (below_then HB.out HQ1.out).size) ((HY.out.below (below_then HB.out HQ1.out) (Nat.le_refl _)).mono (Nat.le_refl _) (below_then HB.out HQ1.out).size) hnc hkd).mono ?_
         rintro e ws2 ⟨A2, n2, c2, B2, k2, d2, rfl, om, hb⟩
         replace P7 := hid (P7.out.step hb); replace HQ1 := hid (below_then HQ1.out hb)
         clear hb
         have OM := hid (om.mono (show w1.heap.size ≤ _ by have := HQ1.out.size; have := hpre.out; have := hpl6.out; have := hlo6.out; have := P7.out.lt; omega))
         clear om
         go_wp2_with fail
         clear hpre hpl6
         refine hK.out _ _ (hKP.out _ HQ1.out) (fun hS' => ?_)
         clear hK K hS
         have hS := hS'
         clear hS'
         (try simp only [Act.put, List.setIfInBounds_toArray, List.set_cons_zero, List.set_cons_succ])
         revert hS; revert hlo6; revert HQ1; revert P7; revert OM; revert ga6; revert d2; revert k2; revert B2; revert c2; revert n2; revert A2; revert ws2
         exact K4.out
        refine cs1 (h := fun K hK => ?_) (hs := ?_)
        ·skip
         have hpre := hid (show w1.heap.size ≤ Wa6.heap.size from HQ1.out.size)
         go_simp
         refine named_alloc ?_
         intro Wa7 hbk hb hsz
         replace P7 := hid (P7.out.step hb); replace HQ1 := hid (below_then HQ1.out hb)
         obtain ⟨ga7, hga⟩ : ∃ g, g = Wa6.heap.size := ⟨_, rfl⟩
         rw [← hga] at hbk ⊢
         have hlo7 := hid (show w1.heap.size ≤ ga7 by have := hpre.out; omega)
         have P8 := hid hbk
         clear hb hbk hsz hga hpre
         refine hK.out _ _ (hKP.out _ HQ1.out) (fun hS' => ?_)
         clear hK K hS
         have hS := hS'
         clear hS'
         (try simp only [Act.put, List.setIfInBounds_toArray, List.set_cons_zero, List.set_cons_succ])
         revert hS; revert hlo7; revert hlo6; revert HQ1; revert P8; revert P7; revert ga7; revert ga6; revert Wa7
         exact K6.out
        exact AllReadyH.nil
       refine cs1 (h := fun K hK => ?_) (hs := ?_)
       ·skip
        have hpre := hid (show w1.heap.size ≤ Wd.heap.size from HQ1.out.size)
        go_simp
        refine named_alloc ?_
        intro Wa7 hbk hb hsz
        replace HQ1 := hid (below_then HQ1.out hb)
        obtain ⟨ga7, hga⟩ : ∃ g, g = Wd.heap.size := ⟨_, rfl⟩
        rw [← hga] at hbk ⊢
        have hlo7 := hid (show w1.heap.size ≤ ga7 by have := hpre.out; omega)
        have P8 := hid hbk
        clear hb hbk hsz hga hpre
        refine hK.out _ _ (hKP.out _ HQ1.out) (fun hS' => ?_)
        clear hK K hS
        have hS := hS'
        clear hS'
        (try simp only [Act.put, List.setIfInBounds_toArray, List.set_cons_zero, List.set_cons_succ])
        refine rd1 (rs := [2, 6]) (h := ?_)
        refine cs1 (h := fun K hK => ?_) (hs := ?_)
        ·skip
         have hpre := hid (show w1.heap.size ≤ Wa7.heap.size from HQ1.out.size)
         have hpl7 := hid P8.out.lt
         go_simp
         refine (lawown_any A n c B k d f xs ys _ ((HX.out.below (below_then HB.out HQ1.out) (Nat.le_refl _)).mono (Nat.le_refl _) (below_then HB.out HQ1.out).size) ((HY.out.below (below_then HB.out HQ1.out) (Nat.le_refl _)).mono (Nat.le_refl _) (below_then HB.out HQ1.out).size) hnc hkd).mono ?_
         rintro e ws2 ⟨A2, n2, c2, B2, k2, d2, rfl, om, hb⟩
         replace P8 := hid (P8.out.step hb); replace HQ1 := hid (below_then HQ1.out hb)
         clear hb
         have OM := hid (om.mono (show w1.heap.size ≤ _ by have := HQ1.out.size; have := hpre.out; have := hpl7.out; have := hlo7.out; have := P8.out.lt; omega))
         clear om
         go_wp2_with fail
         clear hpre hpl7
         refine hK.out _ _ (hKP.out _ HQ1.out) (fun hS' => ?_)
         clear hK K hS
         have hS := hS'
         clear hS'
         (try simp only [Act.put, List.setIfInBounds_toArray, List.set_cons_zero, List.set_cons_succ])
         revert hS; revert hlo7; revert HQ1; revert P8; revert OM; revert ga7; revert d2; revert k2; revert B2; revert c2; revert n2; revert A2; revert ws2
         exact K5.out
        refine cs1 (h := fun K hK => ?_) (hs := ?_)
        ·skip
         have hpre := hid (show w1.heap.size ≤ Wa7.heap.size from HQ1.out.size)
         go_simp
         refine named_alloc ?_
         intro Wa6 hbk hb hsz
         replace P8 := hid (P8.out.step hb); replace HQ1 := hid (below_then HQ1.out hb)
         obtain ⟨ga6, hga⟩ : ∃ g, g = Wa7.heap.size := ⟨_, rfl⟩
         rw [← hga] at hbk ⊢
         have hlo6 := hid (show w1.heap.size ≤ ga6 by have := hpre.out; omega)
         have P7 := hid hbk
         clear hb hbk hsz hga hpre
         refine hK.out _ _ (hKP.out _ HQ1.out) (fun hS' => ?_)
         clear hK K hS
         have hS := hS'
         clear hS'
         (try simp only [Act.put, List.setIfInBounds_toArray, List.set_cons_zero, List.set_cons_succ])
         revert hS; revert hlo7; revert hlo6; revert HQ1; revert P8; revert P7; revert ga7; revert ga6; revert Wa6
         exact K6.out
        exact AllReadyH.nil
       exact AllReadyH.nil
      ·skip
       intro Wm ga6 ga7 P7 P8 HQ1 hlo6 hlo7 hS
       refine rd1 (rs := [2]) (h := ?_)
       refine cs1 (h := fun K hK => ?_) (hs := ?_)
       ·skip
        have hpre := hid (show w1.heap.size ≤ Wm.heap.size from HQ1.out.size)
        have hpl6 := hid P7.out.lt
        have hpl7 := hid P8.out.lt
        go_simp
        refine (lawown_any A n c B k d f xs ys _ ((HX.out.below (below_then HB.out HQ1.out) (Nat.le_refl _)).mono (Nat.le_refl _) (below_then HB.out HQ1.out).size) ((HY.out.below (below_then HB.out HQ1.out) (Nat.le_refl _)).mono (Nat.le_refl _) (below_then HB.out HQ1.out).size) hnc hkd).mono ?_
        rintro e ws2 ⟨A2, n2, c2, B2, k2, d2, rfl, om, hb⟩
        replace P7 := hid (P7.out.step hb); replace P8 := hid (P8.out.step hb); replace HQ1 := hid (below_then HQ1.out hb)
        clear hb
        have OM := hid (om.mono (show w1.heap.size ≤ _ by have := HQ1.out.size; have := hpre.out; have := hpl6.out; have := hpl7.out; have := hlo6.out; have := P7.out.lt; have := hlo7.out; have := P8.out.lt; omega))
        clear om
        go_wp2_with fail
        clear hpre hpl6 hpl7
        refine hK.out _ _ (hKP.out _ HQ1.out) (fun hS' => ?_)
        clear hK K hS
        have hS := hS'
        clear hS'
        (try simp only [Act.put, List.setIfInBounds_toArray, List.set_cons_zero, List.set_cons_succ])
        revert hS; revert hlo7; revert hlo6; revert HQ1; revert P8; revert P7; revert OM; revert ga7; revert ga6; revert d2; revert k2; revert B2; revert c2; revert n2; revert A2; revert ws2
        exact K3.out
       exact AllReadyH.nil
      ·skip
       intro Wm A2 n2 c2 B2 k2 d2 ga7 OM P8 HQ1 hlo7 hS
       refine rd1 (rs := [5, 6]) (h := ?_)
       refine cs1 (h := fun K hK => ?_) (hs := ?_)
       ·skip
        have hpre := hid (show w1.heap.size ≤ Wm.heap.size from HQ1.out.size)
        have hpl7 := hid P8.out.lt
        go_simp
        refine (ownread_any s0 V vn vc _ ((HV.out.below (below_then HB.out HQ1.out) (Nat.le_refl _)).mono (Nat.le_refl _) (below_then HB.out HQ1.out).size) hvc).mono ?_
        rintro e ws5 ⟨V2, vn2, vc2, rfl, ov, hb⟩
        replace OM := hid (OM.out.step hb); replace P8 := hid (P8.out.step hb); replace HQ1 := hid (below_then HQ1.out hb)
        clear hb
        have OV := hid (ov.mono (show w1.heap.size ≤ _ by have := HQ1.out.size; have := hpre.out; have := hpl7.out; have := hlo7.out; have := P8.out.lt; omega))
        clear ov
        go_wp2_with fail
        clear hpre hpl7
        refine hK.out _ _ (hKP.out _ HQ1.out) (fun hS' => ?_)
        clear hK K hS
        have hS := hS'
        clear hS'
        (try simp only [Act.put, List.setIfInBounds_toArray, List.set_cons_zero, List.set_cons_succ])
        revert hS; revert hlo7; revert HQ1; revert P8; revert OV; revert OM; revert ga7; revert vc2; revert vn2; revert V2; revert d2; revert k2; revert B2; revert c2; revert n2; revert A2; revert ws5
        exact K2.out
       refine cs1 (h := fun K hK => ?_) (hs := ?_)
       ·skip
        have hpre := hid (show w1.heap.size ≤ Wm.heap.size from HQ1.out.size)
        go_simp
        refine named_alloc ?_
        intro Wa6 hbk hb hsz
        replace OM := hid (OM.out.step hb); replace P8 := hid (P8.out.step hb); replace HQ1 := hid (below_then HQ1.out hb)
        obtain ⟨ga6, hga⟩ : ∃ g, g = Wm.heap.size := ⟨_, rfl⟩
        rw [← hga] at hbk ⊢
        have hlo6 := hid (show w1.heap.size ≤ ga6 by have := hpre.out; omega)
        have P7 := hid hbk
        clear hb hbk hsz hga hpre
        refine hK.out _ _ (hKP.out _ HQ1.out) (fun hS' => ?_)
        clear hK K hS
        have hS := hS'
        clear hS'
        (try simp only [Act.put, List.setIfInBounds_toArray, List.set_cons_zero, List.set_cons_succ])
        revert hS; revert hlo7; revert hlo6; revert HQ1; revert P8; revert P7; revert OM; revert ga7; revert ga6; revert d2; revert k2; revert B2; revert c2; revert n2; revert A2; revert Wa6
        exact K3.out
       exact AllReadyH.nil
      ·skip
       intro Wm A2 n2 c2 B2 k2 d2 ga6 OM P7 HQ1 hlo6 hS
       refine rd1 (rs := [5, 7]) (h := ?_)
       refine cs1 (h := fun K hK => ?_) (hs := ?_)
       ·skip
        have hpre := hid (show w1.heap.size ≤ Wm.heap.size from HQ1.out.size)
        have hpl6 := hid P7.out.lt
        go_simp
        refine (ownread_any s0 V vn vc _ ((HV.out.below (below_then HB.out HQ1.out) (Nat.le_refl _)).mono (Nat.le_refl _) (below_then HB.out HQ1.out).size) hvc).mono ?_
        rintro e ws5 ⟨V2, vn2, vc2, rfl, ov, hb⟩
        replace OM := hid (OM.out.step hb); replace P7 := hid (P7.out.step hb); replace HQ1 := hid (below_then HQ1.out hb)
        clear hb
        have OV := hid (ov.mono (show w1.heap.size ≤ _ by have := HQ1.out.size; have := hpre.out; have := hpl6.out; have := hlo6.out; have := P7.out.lt; omega))
        clear ov
        go_wp2_with fail
        clear hpre hpl6
        refine hK.out _ _ (hKP.out _ HQ1.out) (fun hS' => ?_)
        clear hK K hS
        have hS := hS'
        clear hS'
        (try simp only [Act.put, List.setIfInBounds_toArray, List.set_cons_zero, List.set_cons_succ])
        revert hS; revert hlo6; revert HQ1; revert P7; revert OV; revert OM; revert ga6; revert vc2; revert vn2; revert V2; revert d2; revert k2; revert B2; revert c2; revert n2; revert A2; revert ws5
        exact K1.out
       refine cs1 (h := fun K hK => ?_) (hs := ?_)
       ·skip
        have hpre := hid (show w1.heap.size ≤ Wm.heap.size from HQ1.out.size)
        go_simp
        refine named_alloc ?_
        intro Wa7 hbk hb hsz
        replace OM := hid (OM.out.step hb); replace P7 := hid (P7.out.step hb); replace HQ1 := hid (below_then HQ1.out hb)
        obtain ⟨ga7, hga⟩ : ∃ g, g = Wm.heap.size := ⟨_, rfl⟩
        rw [← hga] at hbk ⊢
        have hlo7 := hid (show w1.heap.size ≤ ga7 by have := hpre.out; omega)
        have P8 := hid hbk
        clear hb hbk hsz hga hpre
        refine hK.out _ _ (hKP.out _ HQ1.out) (fun hS' => ?_)
        clear hK K hS
        have hS := hS'
        clear hS'
        (try simp only [Act.put, List.setIfInBounds_toArray, List.set_cons_zero, List.set_cons_succ])
        revert hS; revert hlo7; revert hlo6; revert HQ1; revert P8; revert P7; revert OM; revert ga7; revert ga6; revert d2; revert k2; revert B2; revert c2; revert n2; revert A2; revert Wa7
        exact K3.out
       exact AllReadyH.nil
      ·skip
       intro Wm A2 n2 c2 B2 k2 d2 ga6 ga7 OM P7 P8 HQ1 hlo6 hlo7 hS
       refine rd1 (rs := [5]) (h := ?_)
       refine cs1 (h := fun K hK => ?_) (hs := ?_)
       ·skip
        have hpre := hid (show w1.heap.size ≤ Wm.heap.size from HQ1.out.size)
        have hpl6 := hid P7.out.lt
        have hpl7 := hid P8.out.lt
        go_simp
        refine (ownread_any s0 V vn vc _ ((HV.out.below (below_then HB.out HQ1.out) (Nat.le_refl _)).mono (Nat.le_refl _) (below_then HB.out HQ1.out).size) hvc).mono ?_
        rintro e ws5 ⟨V2, vn2, vc2, rfl, ov, hb⟩
        replace OM := hid (OM.out.step hb); replace P7 := hid (P7.out.step hb); replace P8 := hid (P8.out.step hb); replace HQ1 := hid (below_then HQ1.out hb)
        clear hb
        have OV := hid (ov.mono (show w1.heap.size ≤ _ by have := HQ1.out.size; have := hpre.out; have := hpl6.out; have := hpl7.out; have := hlo6.out; have := P7.out.lt; have := hlo7.out; have := P8.out.lt; omega))
        clear ov
        go_wp2_with fail
        clear hpre hpl6 hpl7
        refine hK.out _ _ (hKP.out _ HQ1.out) (fun hS' => ?_)
        clear hK K hS
        have hS := hS'
        clear hS'
        (try simp only [Act.put, List.setIfInBounds_toArray, List.set_cons_zero, List.set_cons_succ])
        revert hS; revert hlo7; revert hlo6; revert HQ1; revert P8; revert P7; revert OV; revert OM; revert ga7; revert ga6; revert vc2; revert vn2; revert V2; revert d2; revert k2; revert B2; revert c2; revert n2; revert A2; revert ws5
        exact K0.out
       exact AllReadyH.nil
      ·skip
       intro Wm A2 n2 c2 B2 k2 d2 V2 vn2 vc2 ga7 OM OV P8 HQ1 hlo7 hS
       refine rd1 (rs := [6]) (h := ?_)
       refine cs1 (h := fun K hK => ?_) (hs := ?_)
       ·skip
        have hpre := hid (show w1.heap.size ≤ Wm.heap.size from HQ1.out.size)
        go_simp
        refine named_alloc ?_
        intro Wa6 hbk hb hsz
        replace OM := hid (OM.out.step hb); replace OV := hid (OV.out.step hb); replace P8 := hid (P8.out.step hb); replace HQ1 := hid (below_then HQ1.out hb)
        obtain ⟨ga6, hga⟩ : ∃ g, g = Wm.heap.size := ⟨_, rfl⟩
        rw [← hga] at hbk ⊢
        have hlo6 := hid (show w1.heap.size ≤ ga6 by have := hpre.out; omega)
        have P7 := hid hbk
        clear hb hbk hsz hga hpre
        refine hK.out _ _ (hKP.out _ HQ1.out) (fun hS' => ?_)
        clear hK K hS
        have hS := hS'
        clear hS'
        (try simp only [Act.put, List.setIfInBounds_toArray, List.set_cons_zero, List.set_cons_succ])
        revert hS; revert hlo7; revert hlo6; revert HQ1; revert P8; revert P7; revert OV; revert OM; revert ga7; revert ga6; revert vc2; revert vn2; revert V2; revert d2; revert k2; revert B2; revert c2; revert n2; revert A2; revert Wa6
        exact K0.out
       exact AllReadyH.nil
      ·skip
       intro Wm A2 n2 c2 B2 k2 d2 V2 vn2 vc2 ga6 OM OV P7 HQ1 hlo6 hS
       refine rd1 (rs := [7]) (h := ?_)
       refine cs1 (h := fun K hK => ?_) (hs := ?_)
       ·skip
        have hpre := hid (show w1.heap.size ≤ Wm.heap.size from HQ1.out.size)
        go_simp
        refine named_alloc ?_
        intro Wa7 hbk hb hsz
        replace OM := hid (OM.out.step hb); replace OV := hid (OV.out.step hb); replace P7 := hid (P7.out.step hb); replace HQ1 := hid (below_then HQ1.out hb)
        obtain ⟨ga7, hga⟩ : ∃ g, g = Wm.heap.size := ⟨_, rfl⟩
        rw [← hga] at hbk ⊢
        have hlo7 := hid (show w1.heap.size ≤ ga7 by have := hpre.out; omega)
        have P8 := hid hbk
        clear hb hbk hsz hga hpre
        refine hK.out _ _ (hKP.out _ HQ1.out) (fun hS' => ?_)
        clear hK K hS
        have hS := hS'
        clear hS'
        (try simp only [Act.put, List.setIfInBounds_toArray, List.set_cons_zero, List.set_cons_succ])
        revert hS; revert hlo7; revert hlo6; revert HQ1; revert P8; revert P7; revert OV; revert OM; revert ga7; revert ga6; revert vc2; revert vn2; revert V2; revert d2; revert k2; revert B2; revert c2; revert n2; revert A2; revert Wa7
        exact K0.out
       exact AllReadyH.nil
      ·skip
       intro Wm A2 n2 c2 B2 k2 d2 V2 vn2 vc2 ga6 ga7 OM OV P7 P8 HQ1 hlo6 hlo7 hS
       refine rd1 (rs := [8]) (h := ?_)
       refine cs1 (h := fun K hK => ?_) (hs := ?_)
       ·skip
        have hpre := hid (show w1.heap.size ≤ Wm.heap.size from HQ1.out.size)
        obtain ⟨y00, y01, y02, yf0⟩ := P7.out.cells3
        go_simp
        clear y00 y01 y02 yf0
        refine named_store3 P7.out ?_
        intro Ws8 hbk hgr hsz
        clear hsz
        replace P8 := hid (P8.out.grown hgr (fun e => P7.out.ne P8.out (by decide) (by simpa using e.symm)))
        replace OM := hid (mown_kept OM.out P7.out tm1 tm2 hgr)
        replace OV := hid (OV.out.keptG hgr (fun v hv e => OV.out.ne_blk P7.out tm1 v hv (by simpa using e)))
        replace HQ1 := hid (HQ1.out.grown hgr HQ1.out.size (fun r e => by cases e; have := HQ1.out.size; have := hlo6.out; have := P7.out.lt; have := hlo7.out; have := P8.out.lt; omega))
        replace P7 := hid hbk
        clear hbk hgr hpre
        refine hK.out _ _ (hKP.out _ HQ1.out) (fun hS' => ?_)
        clear hK K hS
        have hS := hS'
        clear hS'
        (try simp only [Act.put, List.setIfInBounds_toArray, List.set_cons_zero, List.set_cons_succ])
        refine rd1 (rs := [9]) (h := ?_)
        refine cs1 (h := fun K hK => ?_) (hs := ?_)
        ·skip
         have hpre := hid (show w1.heap.size ≤ Ws8.heap.size from HQ1.out.size)
         obtain ⟨y00, y01, y02, y03, y04, y05, y06, yf0⟩ := P8.out.cells7
         go_simp
         clear y00 y01 y02 y03 y04 y05 y06 yf0
         refine named_store_7_7_0 P8.out ?_
         intro Ws9 hbk hgr hsz
         clear hsz
         replace P7 := hid (P7.out.grown hgr (fun e => P7.out.ne P8.out (by decide) (by simpa using e)))
         replace OM := hid (mown_kept OM.out P8.out ts1 ts2 hgr)
         replace OV := hid (OV.out.keptG hgr (fun v hv e => OV.out.ne_blk P8.out ts1 v hv (by simpa using e)))
         replace HQ1 := hid (HQ1.out.grown hgr HQ1.out.size (fun r e => by cases e; have := HQ1.out.size; have := hlo6.out; have := P7.out.lt; have := hlo7.out; have := P8.out.lt; omega))
         replace P8 := hid hbk
         clear hbk hgr hpre
         refine hK.out _ _ (hKP.out _ HQ1.out) (fun hS' => ?_)
         clear hK K hS
         have hS := hS'
         clear hS'
         (try simp only [Act.put, List.setIfInBounds_toArray, List.set_cons_zero, List.set_cons_succ])
         refine wpAnyH_done (by kernel_rfl) ?_ _
         refine NoPanic.normal ?_
         clear hS
         go_wp2_with fail
         go_meet
         exact ⟨_, _, rfl, rfl, ⟨⟨_, _, _, _, _, _, _, _, _, P7.out, OM.out, P8.out, OV.out, by rw [← OV.out.len]; exact List.length_take_le _ _, by rw [← OM.out.oa.len]; exact List.length_take_le _ _, by rw [← OM.out.ob.len]; exact List.length_take_le _ _⟩, HQ1.out, by have := HQ1.out.size; have := hlo6.out; have := P7.out.lt; have := hlo7.out; have := P8.out.lt; omega, by have := HQ1.out.size; have := hlo6.out; have := P7.out.lt; have := hlo7.out; have := P8.out.lt; omega⟩⟩
        exact AllReadyH.nil
       exact AllReadyH.nil
  case rest =>
    obtain ⟨g7, g8, rfl, rfl, hmid⟩ := hcut
    rename World => W2
    obtain ⟨mm, hmm⟩ : ∃ mm : MSt, mm = (xs.take 48, ys.take 48, f) := ⟨_, rfl⟩
    obtain ⟨sc, hsc⟩ : ∃ sc, sc = cutR s0 := ⟨_, rfl⟩
    rw [← hmm, ← hsc] at hmid
    have HMM := hid hmm; have HSC := hid hsc
    have hbg : 0 ≤ sc.bg := by rw [hsc]; exact HBG.out
    have hl7 := hid hmid.l7; have hl8 := hid hmid.l8
    obtain ⟨⟨A1, n1, c1, B1, k1, d1, V1, vn1, vc1, h1, h2, h3, h4, hvn1, hn48, hk48⟩, h5, _, _⟩ := hmid
    have P7 := hid h1; have OM := hid h2; have P8 := hid h3; have OV := hid h4
    have PC := hid (XPC.out.step h5)
    have h12 := below_then HB.out h5
    replace HB := hid h12
    have hn48' := hid hn48; have hk48' := hid hk48
    clear h1 h2 h3 h4 h5 h12 hmm hsc HQ1 XPC hn48 hk48
    obtain ⟨y00, y01, y02, y03, y04, y05, y06, yf0⟩ := P8.out.cells7
    go_wp2_with fail
    clear y00 y01 y02 y03 y04 y05 y06 yf0
    refine (rrightread_any sc.a sc.f sc.m sc.ph sc.bg V1 vn1 vc1 sc.tr _ hbg (by omega)).mono ?_
    obtain ⟨okr, hokr⟩ : ∃ b, b = decide (RdOk sc.a sc.f sc.m sc.ph sc.bg vn1 sc.tr) := ⟨_, rfl⟩
    rw [← hokr]
    have HOKR := hid (show okr = true ↔ RdOkS sc by rw [hokr, decide_eq_true_eq]; unfold RdOkS; rw [OV.out.len])
    clear hokr hbg
    rintro e W3 ⟨rfl, hb⟩
    replace P7 := hid (P7.out.step hb); replace OM := hid (OM.out.step hb); replace P8 := hid (P8.out.step hb); replace OV := hid (OV.out.step hb); replace PC := hid (PC.out.step hb); replace HB := hid (below_then HB.out hb)
    clear hb
    obtain ⟨p4, hp4⟩ : ∃ m, m = min nl 4 := ⟨_, rfl⟩
    obtain ⟨e4, he4⟩ : ∃ l, l = es.take 4 := ⟨_, rfl⟩
    have hmm : (if (4 : Int) < (nl : Int) then (4 : Int) else (nl : Int)) = (p4 : Int) := by split <;> omega
    have hmm2 : min (nl : Int) 4 = (p4 : Int) := by omega
    have hmc1 : (p4 : Int) ≤ (cl : Int) := by omega
    have hmc0 : (0 : Int) ≤ (p4 : Int) := by omega
    have XL := hid (show Sm 6 encW zWe w 0 w.heap.size L p4 e4 by
      rw [hp4, he4]
      by_cases h18 : nl ≤ 4
      · rw [show min nl 4 = nl by omega, List.take_of_length_le (by rw [HL.out.len]; exact h18)]; exact HL.out
      · rw [show min nl 4 = 4 by omega]; exact HL.out.take (by omega))
    have HW4 := hid (show ∀ y ∈ e4, WrEl w y from fun y hy => HWE.out y (by rw [he4] at hy; exact List.mem_of_mem_take hy))
    have hp44 : p4 ≤ 4 := by omega
    have hpn : p4 ≤ nl := by omega
    clear hp4 he4 HL HWE
    obtain ⟨y00, y01, y02, y03, y04, y05, y06, y07, y08, y09, y010, yf0⟩ := PC.out.cells11
    go_upto_block 0 with fail
    clear y00 y01 y02 y03 y04 y05 y06 y07 y08 y09 y010 yf0 hmm hmm2 hmc1 hmc0
    have HST := hid (show QPl w w1 W3 g7 g8 mm sc (casec A n c B k d f s0 V vn vc L nl cl) none 0 e4 0 okr from ⟨⟨_, _, _, _, _, _, _, _, _, [], P7.out, OM.out, P8.out, OV.out, hvn1, hn48'.out, hk48'.out, Om.nil _ _ _, (fun x hx => by simp at hx), (fun x hx => by simp at hx), rfl⟩, PC.out, by rw [HOKR.out]; simp, HB.out⟩)
    clear P7 OM P8 OV PC HOKR hn48' hk48'
    go_cut [7, 8] (fun l r wx => ∃ (L7 : Option Addr) (cl7 : Nat) (ok : Bool), l = .slice L7 p4 cl7 ∧ r = .bool ok ∧ QPl w w1 wx g7 g8 mm sc (casec A n c B k d f s0 V vn vc L nl cl) L7 cl7 e4 p4 ok)
    case first =>
      go_wp2_with fail
      go_loopw [7, 8, 36] (fun l r i wr => ∃ (j : Nat) (L7 : Option Addr) (cl7 : Nat) (ok : Bool), j ≤ p4 ∧ i = .int .i64 j ∧ l = .slice L7 j cl7 ∧ r = .bool ok ∧ QPl w w1 wr g7 g8 mm sc (casec A n c B k d f s0 V vn vc L nl cl) L7 cl7 e4 j ok) (fun _ _ i _ => p4 - (intOf i).toNat)
      case atStart => exact ⟨0, _, _, _, Nat.zero_le _, rfl, rfl, rfl, HST.out⟩
      case round =>
        obtain ⟨j, L7, cl7, ok, hj, rfl, rfl, rfl, hI⟩ := hrel
        clear HST
        have HI := hid hI
        clear hI
        by_cases hjn : j < p4
        rotate_left
        · obtain rfl : j = p4 := by omega
          have hnn : ¬ ((j : Int) < (j : Int)) := by omega
          go_wp2
          go_meet
          exact ⟨L7, cl7, ok, rfl, rfl, HI.out⟩
        have hji : (j : Int) < (p4 : Int) := by omega
        have hw1 : IntKind.i64.wrap ((j : Int) + 1) = (j : Int) + 1 := by rw [IntKind.wrap_i64]; omega
        obtain ⟨⟨A1, n1, c1, B1, k1, d1, V1, vn1, vc1, el, h1, h2, h3, h4, hvn1, hn48, hk48, h6, h7, h8, h9⟩, h10, h11, h12⟩ := HI.out
        have P7 := hid h1; have OM := hid h2; have P8 := hid h3; have OV := hid h4; have OL := hid h6; have OA := hid h7; have HE18 := hid h8; have HEM := hid h9; have PC := hid h10; have HOK := hid h11; have HB := hid h12; have hb3 := hid (show vn1 ≤ 18 ∧ n1 ≤ 48 ∧ k1 ≤ 48 from ⟨hvn1, hn48, hk48⟩)
        clear h1 h2 h3 h4 h6 h7 h8 h9 h10 h11 h12 HI hvn1 hn48 hk48
        obtain ⟨b, off, rfl, _, hbh, hc⟩ := XL.out.row (by omega)
        obtain ⟨⟨s, Vx, vnx, vcx⟩, hx⟩ : ∃ x, x = e4[j]?.getD zWe := ⟨_, rfl⟩
        have hlen := hid XL.out.len
        have hwx := HW4.out (e4[j]?.getD zWe) (by rw [List.getElem?_eq_getElem (by rw [hlen.out]; exact hjn)]; exact List.getElem_mem _)
        rw [← hx] at hwx
        have hc' := hc j hjn
        rw [← hx] at hc'
        have HX' := hid hx; have HWX := hid hwx.1
        obtain ⟨_, hvcx, hbgx⟩ := hwx
        dsimp only at hvcx hbgx
        have f0 := (HB.out.cell (p := ⟨b, off + j * 6 + 0, none⟩) hbh).trans (hc' 0 (by omega))
        rw [Nat.add_zero] at f0
        have f1 := (HB.out.cell (p := ⟨b, off + j * 6 + 1, none⟩) hbh).trans (hc' 1 (by omega))
        have f2 := (HB.out.cell (p := ⟨b, off + j * 6 + 2, none⟩) hbh).trans (hc' 2 (by omega))
        have f3 := (HB.out.cell (p := ⟨b, off + j * 6 + 3, none⟩) hbh).trans (hc' 3 (by omega))
        have f4 := (HB.out.cell (p := ⟨b, off + j * 6 + 4, none⟩) hbh).trans (hc' 4 (by omega))
        have f5 := (HB.out.cell (p := ⟨b, off + j * 6 + 5, none⟩) hbh).trans (hc' 5 (by omega))
        simp only [encW] at f0 f1 f2 f3 f4 f5
        clear hc hc' hx
        have hs5 := hid HB.out.size
        have HRL := hid (show ∀ r, (Value.slice L7 j cl7).ownBlock = some r → r < wr.heap.size from fun r hr => by obtain ⟨a, ha, hk⟩ := own_addr hr; obtain ⟨_, cs, hbb⟩ := OL.out.blk a ha; have := hbb.lt; omega)
        have hlo1 := hid (show w1.heap.size ≤ wr.heap.size by have := P7.out.lt; have := hl7.out; omega)
        have bx := below_box wr (.cells (wrc s.a s.f Vx vnx vcx s.ph s.bg s.wr) 34)
        replace P7 := hid (P7.out.step bx); replace OM := hid (OM.out.step bx); replace P8 := hid (P8.out.step bx); replace OV := hid (OV.out.step bx); replace PC := hid (PC.out.step bx); replace OL := hid (OL.out.step bx); replace OA := hid (OA.out.step bx); replace HB := hid (below_then HB.out bx)
        clear bx
        have PW := hid (Blk.new wr 34 (wrc s.a s.f Vx vnx vcx s.ph s.bg s.wr))
        obtain ⟨y00, y01, y02, y03, y04, y05, yf0⟩ := PW.out.cells6
        go_wp2_with fail
        clear f0 f1 f2 f3 f4 f5 y00 y01 y02 y03 y04 y05 yf0
        have hz6 := hid (show (wr.alloc (.cells (wrc s.a s.f Vx vnx vcx s.ph s.bg s.wr) 34)).heap.size = wr.heap.size + 1 by simp)
        generalize wr.alloc (.cells (wrc s.a s.f Vx vnx vcx s.ph s.bg s.wr) 34) = W6 at *
        refine (ownwrite_any s Vx vnx vcx _ ((HWX.out.below HB.out (Nat.le_refl _)).mono (Nat.le_refl _) HB.out.size) hvcx).mono ?_
        rintro e W8 ⟨V9, n9, c9, he, ov, hb⟩
        obtain ⟨t, ht⟩ : ∃ t, t = cutW s := ⟨_, rfl⟩
        rw [← ht] at he
        subst he
        have HT := hid ht
        have OV9 := hid ((show Ow u64v W8 W6.heap.size 27 V9 n9 c9 t.vs by rw [ht]; exact ov).mono (show w1.heap.size ≤ W6.heap.size by have := hlo1.out; have := hz6.out; omega))
        have hn9 := hid (show n9 ≤ 18 by rw [← ov.len]; exact List.length_take_le _ _)
        clear ov ht
        replace P7 := hid (P7.out.step hb); replace OM := hid (OM.out.step hb); replace P8 := hid (P8.out.step hb); replace OV := hid (OV.out.step hb); replace PC := hid (PC.out.step hb); replace OL := hid (OL.out.step hb); replace OA := hid (OA.out.step hb); replace PW := hid (PW.out.step hb); replace HB := hid (below_then HB.out hb)
        clear hb
        have bx := below_box W8 (.cells (wrc t.a t.f V9 n9 c9 t.ph t.bg t.wr) 34)
        replace P7 := hid (P7.out.step bx); replace OM := hid (OM.out.step bx); replace P8 := hid (P8.out.step bx); replace OV := hid (OV.out.step bx); replace PC := hid (PC.out.step bx); replace OL := hid (OL.out.step bx); replace OA := hid (OA.out.step bx); replace PW := hid (PW.out.step bx); replace OV9 := hid (OV9.out.step bx); replace HB := hid (below_then HB.out bx)
        clear bx
        have P2 := hid (Blk.new W8 34 (wrc t.a t.f V9 n9 c9 t.ph t.bg t.wr))
        have hlo8 := hid (show w1.heap.size ≤ (W8.alloc (.cells (wrc t.a t.f V9 n9 c9 t.ph t.bg t.wr) 34)).heap.size by have := PW.out.lt; have := hlo1.out; omega)
        obtain ⟨i0, hi0, hz00, hz01, hz02⟩ := info_parts info_wr
        have HSTEP := hid (show ∀ q o, o = (ok && q) → (q = true ↔ WrOkS (cutW (e4[j]?.getD zWe).1)) → (o = true ↔ (RdOkS sc ∧ ∀ x ∈ e4.take (j + 1), WrOkS (cutW x.1))) from fun q o e hq => e ▸ okb_step HOK.out (by rw [hlen.out]; exact hjn) hq)
        clear HOK
        obtain ⟨y00, y01, y02, y03, y04, y05, yf0⟩ := PW.out.cells6
        rcases ok with _ | _
        · skip
          have HOK2 := hid (show false = true ↔ (RdOkS sc ∧ ∀ x ∈ e4.take (j + 1), WrOkS (cutW x.1)) from HSTEP.out (decide (WrOkS (cutW (e4[j]?.getD zWe).1))) false rfl decide_eq_true_iff)
          go_wp2_with (at_builtin; refine wpList_appm 6 encW zWe _ rfl _ _ 45 rfl w1.heap.size 34 i0 _ 64 Try.underlying45 hi0 hz00 hz01 hz02 rfl (by omega) L7 j cl7 el rfl OL.out 0 _ _ 1 _ [(t, V9, n9, c9)] rfl (P2.out.sm1 _ (by intro j hj; match j, hj with | 0, _ => rfl | 1, _ => rfl | 2, _ => rfl | 3, _ => rfl | 4, _ => rfl | 5, _ => rfl)) encW_one (by simp only [maxLen]; omega) (by omega) hlo8.out ?_; intro L3 cl3 Wc3 hown hgr hat; replace P7 := hid (P7.out.keptM OL.out (by decide) hgr); replace P8 := hid (P8.out.keptM OL.out (by decide) hgr); replace PC := hid (PC.out.keptM OL.out (by decide) hgr); replace OV := hid (OV.out.keptM OL.out (by decide) hgr); replace OV9 := hid (OV9.out.keptM OL.out (by decide) hgr); replace OA := hid (OA.out.keptM OL.out (by decide) hgr); replace OM := hid (mown_keptM OM.out OL.out (by decide) (by decide) hgr); replace PW := hid (PW.out.grown hgr (fun e => by have := HRL.out _ e.symm; omega)); replace HB := hid (HB.out.grown hgr HB.out.size (fun k hk => by have := hs1.out; have := OL.out.row_ge k hk; omega)); replace OL := hid hown; clear hown hgr hat P2 y00 y01 y02 y03 y04 y05 yf0; obtain ⟨y00, y01, y02, y03, y04, y05, yf0⟩ := PW.out.cells6)
          clear y00 y01 y02 y03 y04 y05 yf0
          go_roundw
          case rel => exact ⟨j + 1, L3, cl3, false, by omega, by go_num, rfl, rfl, ⟨⟨_, _, _, _, _, _, _, _, _, _, P7.out, OM.out, P8.out, OV.out, hb3.out.1, hb3.out.2.1, hb3.out.2.2, OL.out, by rw [List.map_append]; exact OA.out.snoc OV9.out, (fun x hx => (List.mem_append.1 hx).elim (HE18.out x) (fun e => by rw [List.mem_singleton.1 e]; exact hn9.out)), by rw [take_succW (by rw [hlen.out]; exact hjn), List.map_append, List.map_append, HEM.out, ← HX'.out, List.map_cons, List.map_nil, List.map_cons, List.map_nil, HT.out]⟩, PC.out, HOK2.out, HB.out⟩⟩
          case measure => simp [intOf]; omega
        go_wp2_with (at_builtin; refine wpList_appm 6 encW zWe _ rfl _ _ 45 rfl w1.heap.size 34 i0 _ 64 Try.underlying45 hi0 hz00 hz01 hz02 rfl (by omega) L7 j cl7 el rfl OL.out 0 _ _ 1 _ [(t, V9, n9, c9)] rfl (P2.out.sm1 _ (by intro j hj; match j, hj with | 0, _ => rfl | 1, _ => rfl | 2, _ => rfl | 3, _ => rfl | 4, _ => rfl | 5, _ => rfl)) encW_one (by simp only [maxLen]; omega) (by omega) hlo8.out ?_; intro L3 cl3 Wc3 hown hgr hat; replace P7 := hid (P7.out.keptM OL.out (by decide) hgr); replace P8 := hid (P8.out.keptM OL.out (by decide) hgr); replace PC := hid (PC.out.keptM OL.out (by decide) hgr); replace OV := hid (OV.out.keptM OL.out (by decide) hgr); replace OV9 := hid (OV9.out.keptM OL.out (by decide) hgr); replace OA := hid (OA.out.keptM OL.out (by decide) hgr); replace OM := hid (mown_keptM OM.out OL.out (by decide) (by decide) hgr); replace PW := hid (PW.out.grown hgr (fun e => by have := HRL.out _ e.symm; omega)); replace HB := hid (HB.out.grown hgr HB.out.size (fun k hk => by have := hs1.out; have := OL.out.row_ge k hk; omega)); replace OL := hid hown; clear hown hgr hat P2 y00 y01 y02 y03 y04 y05 yf0; obtain ⟨y00, y01, y02, y03, y04, y05, yf0⟩ := PW.out.cells6)
        clear y00 y01 y02 y03 y04 y05 yf0
        refine (rrightwrite_all s.a s.f Vx vnx vcx s.ph s.bg s.wr _ hbgx).mono ?_
        obtain ⟨q, hq⟩ : ∃ b, b = decide (WrOk s.a s.f vnx s.ph s.bg s.wr) := ⟨_, rfl⟩
        rw [← hq]
        have HOK2 := hid (show q = true ↔ (RdOkS sc ∧ ∀ x ∈ e4.take (j + 1), WrOkS (cutW x.1)) from HSTEP.out q q (by simp) (by rw [hq, decide_eq_true_eq, ← HX'.out, cutW_ok HWX.out.len]))
        clear hq
        rintro e W9 ⟨rfl, hb⟩
        replace P7 := hid (P7.out.step hb); replace OM := hid (OM.out.step hb); replace P8 := hid (P8.out.step hb); replace OV := hid (OV.out.step hb); replace PC := hid (PC.out.step hb); replace OL := hid (OL.out.step hb); replace OA := hid (OA.out.step hb); replace PW := hid (PW.out.step hb); replace OV9 := hid (OV9.out.step hb); replace HB := hid (below_then HB.out hb)
        clear hb
        go_wp2_with fail
        obtain ⟨y00, y01, y02, y03, y04, y05, yf0⟩ := PW.out.cells6
        clear y00 y01 y02 y03 y04 y05 yf0
        go_roundw
        case rel => exact ⟨j + 1, L3, cl3, q, by omega, by go_num, rfl, rfl, ⟨⟨_, _, _, _, _, _, _, _, _, _, P7.out, OM.out, P8.out, OV.out, hb3.out.1, hb3.out.2.1, hb3.out.2.2, OL.out, by rw [List.map_append]; exact OA.out.snoc OV9.out, (fun x hx => (List.mem_append.1 hx).elim (HE18.out x) (fun e => by rw [List.mem_singleton.1 e]; exact hn9.out)), by rw [take_succW (by rw [hlen.out]; exact hjn), List.map_append, List.map_append, HEM.out, ← HX'.out, List.map_cons, List.map_nil, List.map_cons, List.map_nil, HT.out]⟩, PC.out, HOK2.out, HB.out⟩⟩
        case measure => simp [intOf]; omega
    case rest =>
      obtain ⟨L7, cl7, ok, rfl, rfl, hI⟩ := hcut
      clear HST
      rename World => W4
      obtain ⟨⟨A1, n1, c1, B1, k1, d1, V1, vn1, vc1, el, h1, h2, h3, h4, hvn1, hn48, hk48, h6, h7, h8, h9⟩, h10, h11, h12⟩ := hI
      have hl4 := hid XL.out.len
      rw [List.take_of_length_le (by rw [hl4.out]; exact Nat.le_refl _)] at h9 h11
      have P7 := hid h1; have OM := hid h2; have P8 := hid h3; have OV := hid h4; have OL := hid h6; have OA := hid h7; have HE18 := hid h8; have HEM := hid h9; have PC := hid h10; have HB := hid h12
      have hAW : AllWr (el.map Prod.fst) ↔ ∀ x ∈ e4, WrOkS (cutW x.1) := by
        rw [h9]
        unfold AllWr
        constructor
        · intro h x hx; exact h _ (List.mem_map.2 ⟨x, hx, rfl⟩)
        · intro h y hy; obtain ⟨x, hx, rfl⟩ := List.mem_map.1 hy; exact h x hx
      have HOK := hid (show ok = true ↔ (RdOkS sc ∧ AllWr (el.map Prod.fst)) by rw [hAW]; exact h11)
      have hVR := fun (W : World) (C : Nat) (h : OwAll W w1.heap.size (el.map fun x => (x.1.vs, x.2))) => (show VRows W C el from fun x hx => ⟨.inr ⟨_, _, h _ (List.mem_map.2 ⟨x, hx, rfl⟩)⟩, by have := h8 x hx; omega⟩)
      have HVR := hid hVR
      clear h1 h2 h3 h4 h6 h7 h8 h9 h10 h11 h12 hAW hVR
      obtain ⟨p6, hp6⟩ : ∃ m, m = min nq 60 := ⟨_, rfl⟩
      obtain ⟨qs, hqs⟩ : ∃ l, l = ps.take 60 := ⟨_, rfl⟩
      have hmm : (if (60 : Int) < (nq : Int) then (60 : Int) else (nq : Int)) = (p6 : Int) := by split <;> omega
      have hmm2 : min (nq : Int) 60 = (p6 : Int) := by omega
      have hmc1 : (p6 : Int) ≤ (cq : Int) := by omega
      have hmc0 : (0 : Int) ≤ (p6 : Int) := by omega
      have XQ := hid (show Sl blv false w 0 w.heap.size Q p6 qs by
        rw [hp6, hqs]
        by_cases h18 : nq ≤ 60
        · rw [show min nq 60 = nq by omega, List.take_of_length_le (by rw [HQ.out.len]; exact h18)]; exact HQ.out
        · rw [show min nq 60 = 60 by omega]; exact HQ.out.take (by omega))
      have hp60 : p6 ≤ 60 := by omega
      clear hp6 hqs HQ
      go_wp2_with fail
      clear hmm hmm2 hmc1 hmc0
      refine (clone_bool Q p6 cq 0 qs _ ((XQ.out.below HB.out (Nat.le_refl _)).mono (Nat.le_refl _) HB.out.size) (by omega)).mono ?_
      rintro e W5 ⟨Q5, cq5, rfl, oq, hb⟩
      have OQ := hid oq
      clear oq
      replace P7 := hid (P7.out.step hb); replace OM := hid (OM.out.step hb); replace P8 := hid (P8.out.step hb); replace OV := hid (OV.out.step hb); replace PC := hid (PC.out.step hb); replace OL := hid (OL.out.step hb); replace OA := hid (OA.out.step hb); replace HB := hid (below_then HB.out hb)
      clear hb
      obtain ⟨y00, y01, y02, yf0⟩ := P7.out.cells3
      obtain ⟨y10, y11, y12, y13, y14, y15, y16, yf1⟩ := P8.out.cells7
      go_wp2_with fail
      clear y00 y01 y02 yf0 y10 y11 y12 y13 y14 y15 y16 yf1
      obtain ⟨⟨co, m2, s2⟩, hr⟩ : ∃ x, x = sqplayC mm sc (el.map Prod.fst) qs := ⟨_, rfl⟩
      have HR := hid hr
      refine (seqplay_any A1 n1 c1 B1 k1 d1 mm sc V1 vn1 vc1 L7 p4 cl7 el Q5 p6 cq5 qs _ OM.out.mem (OV.out.sl.mono (Nat.zero_le _) (Nat.le_refl _)) (by omega) (OL.out.sm.mono (Nat.zero_le _) (Nat.le_refl _)) (HVR.out _ _ OA.out) (by omega) (OQ.out.sl.mono (Nat.zero_le _) (Nat.le_refl _)) (by omega)).mono ?_
      rw [← hr]
      rintro e W6 ⟨A3, n3, c3, B3, k3, d3, V3, vn3, vc3, rfl, om3, ov3, hb⟩
      dsimp only at om3 ov3
      have OM3 := hid om3; have OV3 := hid ov3
      clear om3 ov3 hr
      replace P7 := hid (P7.out.step hb); replace OM := hid (OM.out.step hb); replace P8 := hid (P8.out.step hb); replace OV := hid (OV.out.step hb); replace PC := hid (PC.out.step hb); replace OL := hid (OL.out.step hb); replace OA := hid (OA.out.step hb); replace OQ := hid (OQ.out.step hb); replace HB := hid (below_then HB.out hb)
      clear hb
      have bx := below_box W6 (.cells (mcs A3 n3 c3 B3 k3 d3 m2.2.2) 44)
      replace P7 := hid (P7.out.step bx); replace OM := hid (OM.out.step bx); replace P8 := hid (P8.out.step bx); replace OV := hid (OV.out.step bx); replace PC := hid (PC.out.step bx); replace OL := hid (OL.out.step bx); replace OA := hid (OA.out.step bx); replace OQ := hid (OQ.out.step bx); replace OM3 := hid (OM3.out.step bx); replace OV3 := hid (OV3.out.step bx); replace HB := hid (below_then HB.out bx)
      clear bx
      have PN := hid (Blk.new W6 44 (mcs A3 n3 c3 B3 k3 d3 m2.2.2))
      have bx := below_box (W6.alloc (.cells (mcs A3 n3 c3 B3 k3 d3 m2.2.2) 44)) (.cells (rdc s2.a s2.f s2.m s2.ph s2.bg V3 vn3 vc3 s2.tr) 29)
      replace P7 := hid (P7.out.step bx); replace OM := hid (OM.out.step bx); replace P8 := hid (P8.out.step bx); replace OV := hid (OV.out.step bx); replace PC := hid (PC.out.step bx); replace OL := hid (OL.out.step bx); replace OA := hid (OA.out.step bx); replace OQ := hid (OQ.out.step bx); replace OM3 := hid (OM3.out.step bx); replace OV3 := hid (OV3.out.step bx); replace PN := hid (PN.out.step bx); replace HB := hid (below_then HB.out bx)
      clear bx
      have PT := hid (Blk.new2 W6 29 (rdc s2.a s2.f s2.m s2.ph s2.bg V3 vn3 vc3 s2.tr) (.cells (mcs A3 n3 c3 B3 k3 d3 m2.2.2) 44))
      go_upto_region 14 with fail
      have hz7 := hid (show ((W6.alloc (.cells (mcs A3 n3 c3 B3 k3 d3 m2.2.2) 44)).alloc (.cells (rdc s2.a s2.f s2.m s2.ph s2.bg V3 vn3 vc3 s2.tr) 29)).heap.size = W6.heap.size + 2 by simp)
      generalize (W6.alloc (.cells (mcs A3 n3 c3 B3 k3 d3 m2.2.2) 44)).alloc (.cells (rdc s2.a s2.f s2.m s2.ph s2.bg V3 vn3 vc3 s2.tr) 29) = W7 at *
      obtain ⟨y00, y01, y02, yf0⟩ := P7.out.cells3
      go_wp2_with fail
      clear y00 y01 y02 yf0
      obtain ⟨mg, hmg⟩ : ∃ b, b = decide (MGood mm.1 mm.2.1) := ⟨_, rfl⟩
      have HMG := hid hmg
      refine (rright_any A1 n1 c1 B1 k1 d1 mm.2.2 mm.1 mm.2.1 _ OM.out.mem).mono ?_
      rw [← hmg]
      clear hmg
      rintro e W8 ⟨rfl, hb⟩
      replace P7 := hid (P7.out.step hb); replace OM := hid (OM.out.step hb); replace P8 := hid (P8.out.step hb); replace OV := hid (OV.out.step hb); replace PC := hid (PC.out.step hb); replace OL := hid (OL.out.step hb); replace OA := hid (OA.out.step hb); replace OQ := hid (OQ.out.step hb); replace OM3 := hid (OM3.out.step hb); replace OV3 := hid (OV3.out.step hb); replace PN := hid (PN.out.step hb); replace PT := hid (PT.out.step hb); replace HB := hid (below_then HB.out hb)
      clear hb
      have HE := hid (show sqplayC mm sc (el.map Prod.fst) qs = if ¬ MGood mm.1 mm.2.1 then (120, ([], [], false), zRd) else if ¬ RdOkS sc ∨ ¬ AllWr (el.map Prod.fst) then (160, ([], [], false), zRd) else (0, (sqplay (mm, sc, el.map Prod.fst) qs).1, (sqplay (mm, sc, el.map Prod.fst) qs).2.1) from rfl)
      have hln := hid OM3.out.oa.len; have hlv := hid OV3.out.len
      rcases mg with _ | _
      · skip
        obtain ⟨rfl, rfl, rfl⟩ : co = 120 ∧ m2 = ([], [], false) ∧ s2 = zRd := by
          have e := HR.out.trans HE.out
          rw [if_pos (of_decide_eq_false HMG.out.symm)] at e
          simp only [Prod.mk.injEq] at e
          exact e
        obtain rfl : n3 = 0 := hln.out.symm
        obtain rfl : vn3 = 0 := hlv.out.symm
        obtain ⟨y00, y01, y02, yf0⟩ := PN.out.cells3
        obtain ⟨y10, y11, y12, y13, y14, y15, y16, yf1⟩ := PT.out.cells7
        go_wp2
        go_ret
        exact ⟨rfl, HB.out⟩
      have hgood := hid (of_decide_eq_true HMG.out.symm)
      clear HMG
      rcases ok with _ | _
      · skip
        obtain ⟨rfl, rfl, rfl⟩ : co = 160 ∧ m2 = ([], [], false) ∧ s2 = zRd := by
          have e := HR.out.trans HE.out
          rw [if_neg (not_not_intro hgood.out), if_pos (Decidable.not_and_iff_or_not.1 (fun h => Bool.noConfusion (HOK.out.2 h)))] at e
          simp only [Prod.mk.injEq] at e
          exact e
        obtain rfl : n3 = 0 := hln.out.symm
        obtain rfl : vn3 = 0 := hlv.out.symm
        obtain ⟨y00, y01, y02, yf0⟩ := PN.out.cells3
        obtain ⟨y10, y11, y12, y13, y14, y15, y16, yf1⟩ := PT.out.cells7
        go_wp2
        go_ret
        exact ⟨rfl, HB.out⟩
      have hok := hid (HOK.out.1 rfl)
      obtain ⟨rfl, hr2⟩ : co = 0 ∧ (m2, s2) = ((sqplay (mm, sc, el.map Prod.fst) qs).1, (sqplay (mm, sc, el.map Prod.fst) qs).2.1) := by
        have e := HR.out.trans HE.out
        rw [if_neg (not_not_intro hgood.out), if_neg (fun h => h.elim (fun h => h hok.out.1) (fun h => h hok.out.2))] at e
        exact ⟨congrArg Prod.fst e, congrArg Prod.snd e⟩
      obtain ⟨⟨m9, r9, l9⟩, hX⟩ : ∃ x, x = sqplay (mm, sc, el.map Prod.fst) qs := ⟨_, rfl⟩
      rw [← hX] at hr2
      dsimp only at hr2
      obtain ⟨rfl, rfl⟩ : m2 = m9 ∧ s2 = r9 := ⟨congrArg Prod.fst hr2, congrArg Prod.snd hr2⟩
      have HALL := hid (show SqAll (mm, sc, el.map Prod.fst) from ⟨hgood.out, hok.out.1, hok.out.2⟩)
      have HXX := hid hX
      have hs16 := hid (show s2.vs.length ≤ 16 by have h := sqplay_ok qs HALL.out; rw [← hX] at h; exact h.2.1.len)
      have hkn := hid (show n1 = k1 by have h := hgood.out.1.2.2; rw [← OM.out.oa.len, ← OM.out.ob.len]; exact h.symm)
      clear hX hr2 HR HE hln hlv
      go_upto_region 18 with fail
      have H8 := hid (Below.refl W8.heap.size W8); have hs8 := hid HB.out.size
      have h78 := hid (show g7 < W8.heap.size ∧ g8 < W8.heap.size from ⟨P7.out.lt, P8.out.lt⟩)
      have hw18 := hid (show w1.heap.size ≤ W8.heap.size by have := P7.out.lt; have := hl7.out; omega)
      have XP7 := P7; have XP8 := P8; have XOM := OM; have XOV := OV; have XOL := OL; have XOA := OA; have XPC := PC; have XOM3 := OM3; have XOV3 := OV3; have XPN := PN; have XPT := PT; have XOQ := OQ; have XHB := HB
      go_cut [14, 15] (fun sa sb wx => ∃ ga gb, sa = .pointer (some ⟨ga, 0, none⟩) ∧ sb = .pointer (some ⟨gb, 0, none⟩) ∧ QPw W8 wx ga gb m2 s2)
      case first =>
        as_aux_lemma =>
          clear P7 P8 PC OM3 OV3 PN PT HB
          have hKP := hid (show ∀ W' : World, Below W8.heap.size W8 W' → (fun W' : World => W'.cell? ⟨g7, 0, none⟩ = some (.slice A1 n1 c1) ∧ W'.cell? ⟨g7, 1, none⟩ = some (.slice B1 k1 d1) ∧ W'.cell? ⟨g7, 2, none⟩ = some (.bool mm.2.2) ∧ W'.cell? ⟨g8, 0, none⟩ = some (.int .i64 sc.a) ∧ W'.cell? ⟨g8, 1, none⟩ = some (.int .i64 sc.f) ∧ W'.cell? ⟨g8, 2, none⟩ = some (.int .i64 sc.m) ∧ W'.cell? ⟨g8, 3, none⟩ = some (.int .i64 sc.ph) ∧ W'.cell? ⟨g8, 4, none⟩ = some (.int .u64 sc.bg) ∧ W'.cell? ⟨g8, 5, none⟩ = some (.slice V1 vn1 vc1) ∧ W'.cell? ⟨g8, 6, none⟩ = some (.int .i64 sc.tr)) W' from fun W' hb => ⟨(XP7.out.step hb).cells3.1, (XP7.out.step hb).cells3.2.1, (XP7.out.step hb).cells3.2.2.1, (XP8.out.step hb).cells7.1, (XP8.out.step hb).cells7.2.1, (XP8.out.step hb).cells7.2.2.1, (XP8.out.step hb).cells7.2.2.2.1, (XP8.out.step hb).cells7.2.2.2.2.1, (XP8.out.step hb).cells7.2.2.2.2.2.1, (XP8.out.step hb).cells7.2.2.2.2.2.2.1⟩)
          refine' merge_by (fun K0 => ?_) ?_
          rotate_left
          refine' merge_by (fun K1 => ?_) ?_
          rotate_left
          refine' merge_by (fun K2 => ?_) ?_
          rotate_left
          refine' merge_by (fun K3 => ?_) ?_
          rotate_left
          refine' merge_by (fun K4 => ?_) ?_
          rotate_left
          refine' merge_by (fun K5 => ?_) ?_
          rotate_left
          refine' merge_by (fun K6 => ?_) ?_
          rotate_left
          refine' merge_by (fun K7 => ?_) ?_
          rotate_left
          refine' merge_by (fun K8 => ?_) ?_
          rotate_left
          refine' merge_by (fun K9 => ?_) ?_
          rotate_left
          ·skip
           have bx := (Below.refl W8.heap.size W8).drew
           replace OM := hid (OM.out.step bx); replace OV := hid (OV.out.step bx); replace OL := hid (OL.out.step bx); replace OA := hid (OA.out.step bx); replace OQ := hid (OQ.out.step bx); replace H8 := hid (below_then H8.out bx)
           clear bx
           refine wp_region_noPanic ?_
           refine wp_region_held_drew (S := (fun W' : World => W'.cell? ⟨g7, 0, none⟩ = some (.slice A1 n1 c1) ∧ W'.cell? ⟨g7, 1, none⟩ = some (.slice B1 k1 d1) ∧ W'.cell? ⟨g7, 2, none⟩ = some (.bool mm.2.2) ∧ W'.cell? ⟨g8, 0, none⟩ = some (.int .i64 sc.a) ∧ W'.cell? ⟨g8, 1, none⟩ = some (.int .i64 sc.f) ∧ W'.cell? ⟨g8, 2, none⟩ = some (.int .i64 sc.m) ∧ W'.cell? ⟨g8, 3, none⟩ = some (.int .i64 sc.ph) ∧ W'.cell? ⟨g8, 4, none⟩ = some (.int .u64 sc.bg) ∧ W'.cell? ⟨g8, 5, none⟩ = some (.slice V1 vn1 vc1) ∧ W'.cell? ⟨g8, 6, none⟩ = some (.int .i64 sc.tr))) (by kernel_rfl) (hKP.out _ H8.out) (fun hS => ?_)
           generalize W8.drew = Wd at *
           refine tk1 (i := 0) (v := ?_) (hy := Or.inl ⟨by rfl, ?_⟩) (hS := hS) (h := ?_)
           rotate_left
           · intro w' hSw; (try dsimp only at hSw); go_split_ands; go_simp; (try with_reducible rfl)
           (try simp only [Act.put, List.setIfInBounds_toArray, List.set_cons_zero, List.set_cons_succ])
           refine tk1 (i := 2) (v := ?_) (hy := Or.inl ⟨by rfl, ?_⟩) (hS := hS) (h := ?_)
           rotate_left
           · intro w' hSw; (try dsimp only at hSw); go_split_ands; go_simp; (try with_reducible rfl)
           (try simp only [Act.put, List.setIfInBounds_toArray, List.set_cons_zero, List.set_cons_succ])
           refine tk1 (i := 4) (v := ?_) (hy := Or.inl ⟨by rfl, ?_⟩) (hS := hS) (h := ?_)
           rotate_left
           · intro w' hSw; (try dsimp only at hSw); go_split_ands; go_simp; (try with_reducible rfl)
           (try simp only [Act.put, List.setIfInBounds_toArray, List.set_cons_zero, List.set_cons_succ])
           refine tk1 (i := 5) (v := ?_) (hy := Or.inl ⟨by rfl, ?_⟩) (hS := hS) (h := ?_)
           rotate_left
           · intro w' hSw; (try dsimp only at hSw); go_split_ands; go_simp; (try with_reducible rfl)
           (try simp only [Act.put, List.setIfInBounds_toArray, List.set_cons_zero, List.set_cons_succ])
           refine rd1 (rs := [1, 10, 11]) (h := ?_)
           refine cs1 (h := fun K hK => ?_) (hs := ?_)
           ·skip
            have hpre := hid (show W8.heap.size ≤ Wd.heap.size from H8.out.size)
            go_simp
            refine (lawown_any A1 n1 c1 B1 k1 d1 mm.2.2 mm.1 mm.2.1 _ OM.out.mem.hx OM.out.mem.hy OM.out.mem.hnc OM.out.mem.hmd).mono ?_
            rintro e ws1 ⟨A6, n6, c6, B6, k6, d6, rfl, om, hb⟩
            replace OM := hid (OM.out.step hb); replace OV := hid (OV.out.step hb); replace OL := hid (OL.out.step hb); replace OA := hid (OA.out.step hb); replace OQ := hid (OQ.out.step hb); replace H8 := hid (below_then H8.out hb)
            clear hb
            rw [List.take_of_length_le (by rw [OM.out.oa.len]; exact hn48), List.take_of_length_le (by rw [OM.out.ob.len]; exact hk48)] at om
            obtain rfl : n1 = n6 := by rw [← om.oa.len, OM.out.oa.len]
            obtain rfl : n1 = k6 := by rw [← om.ob.len, OM.out.ob.len, hkn.out]
            have OM6 := hid (om.mono (show W8.heap.size ≤ _ by have := H8.out.size; have := hpre.out; omega))
            clear om
            go_wp2_with fail
            clear hpre
            refine hK.out _ _ (hKP.out _ H8.out) (fun hS' => ?_)
            clear hK K hS
            have hS := hS'
            clear hS'
            (try simp only [Act.put, List.setIfInBounds_toArray, List.set_cons_zero, List.set_cons_succ])
            refine rd1 (rs := [3, 10, 11]) (h := ?_)
            refine cs1 (h := fun K hK => ?_) (hs := ?_)
            ·skip
             have hpre := hid (show W8.heap.size ≤ ws1.heap.size from H8.out.size)
             go_simp
             refine (ownread_any sc V1 vn1 vc1 _ (OV.out.sl.mono (Nat.zero_le _) (Nat.le_refl _)) OV.out.cap.1).mono ?_
             rintro e ws3 ⟨V6, vn6, vc6, rfl, ov, hb⟩
             replace OM := hid (OM.out.step hb); replace OV := hid (OV.out.step hb); replace OL := hid (OL.out.step hb); replace OA := hid (OA.out.step hb); replace OQ := hid (OQ.out.step hb); replace OM6 := hid (OM6.out.step hb); replace H8 := hid (below_then H8.out hb)
             clear hb
             rw [List.take_of_length_le (by rw [OV.out.len]; exact hvn1)] at ov
             rw [show cutR sc = sc from by unfold cutR; rw [List.take_of_length_le (by rw [OV.out.len]; exact hvn1)]]
             obtain rfl : vn1 = vn6 := by rw [← ov.len, OV.out.len]
             have OV6 := hid (ov.mono (show W8.heap.size ≤ _ by have := H8.out.size; have := hpre.out; omega))
             clear ov
             go_wp2_with fail
             clear hpre
             refine hK.out _ _ (hKP.out _ H8.out) (fun hS' => ?_)
             clear hK K hS
             have hS := hS'
             clear hS'
             (try simp only [Act.put, List.setIfInBounds_toArray, List.set_cons_zero, List.set_cons_succ])
             refine rd1 (rs := [6, 10, 11]) (h := ?_)
             refine cs1 (h := fun K hK => ?_) (hs := ?_)
             ·skip
              have hpre := hid (show W8.heap.size ≤ ws3.heap.size from H8.out.size)
              go_simp
              refine (rplay_any A6 n1 c6 B6 d6 mm.2.2 mm.1 mm.2.1 sc V6 vn1 vc6 L7 p4 cl7 el Q5 p6 cq5 qs 0 _ OM6.out.mem ⟨Nat.zero_le _, .inr ⟨_, OV6.out.mono (Nat.zero_le _)⟩⟩ (OL.out.sm.mono (Nat.zero_le _) (Nat.le_refl _)) (HVR.out _ _ OA.out) (by omega) (OQ.out.sl.mono (Nat.zero_le _) (Nat.le_refl _)) (by omega) HALL.out).mono ?_
              rintro e ws6 ⟨A9, c9, B9, d9, V9, vn9, vc9, rfl, mr, vr, hb, htr⟩
              replace OM := hid (OM.out.step hb); replace OV := hid (OV.out.step hb); replace OL := hid (OL.out.step hb); replace OA := hid (OA.out.step hb); replace OQ := hid (OQ.out.step hb); replace OM6 := hid (OM6.out.step hb); replace OV6 := hid (OV6.out.step hb); replace H8 := hid (below_then H8.out hb)
              clear hb
              rw [← HXX.out] at mr vr ⊢
              dsimp only at mr vr ⊢
              have MR := hid mr; have VR := hid vr
              clear mr vr htr
              go_wp2_with fail
              clear hpre
              refine hK.out _ _ (hKP.out _ H8.out) (fun hS' => ?_)
              clear hK K hS
              have hS := hS'
              clear hS'
              (try simp only [Act.put, List.setIfInBounds_toArray, List.set_cons_zero, List.set_cons_succ])
              refine tk1 (i := 7) (v := ?_) (hy := Or.inl ⟨by rfl, ?_⟩) (hS := hS) (h := ?_)
              rotate_left
              · intro w' hSw; (try dsimp only at hSw); go_split_ands; go_simp; (try with_reducible rfl)
              (try simp only [Act.put, List.setIfInBounds_toArray, List.set_cons_zero, List.set_cons_succ])
              refine tk1 (i := 8) (v := ?_) (hy := Or.inl ⟨by rfl, ?_⟩) (hS := hS) (h := ?_)
              rotate_left
              · intro w' hSw; (try dsimp only at hSw); go_split_ands; go_simp; (try with_reducible rfl)
              (try simp only [Act.put, List.setIfInBounds_toArray, List.set_cons_zero, List.set_cons_succ])
              refine tk1 (i := 9) (v := ?_) (hy := Or.inl ⟨by rfl, ?_⟩) (hS := hS) (h := ?_)
              rotate_left
              · intro w' hSw; (try dsimp only at hSw); go_split_ands; go_simp; (try with_reducible rfl)
              (try simp only [Act.put, List.setIfInBounds_toArray, List.set_cons_zero, List.set_cons_succ])
              refine rd1 (rs := [10, 11]) (h := ?_)
              refine cs1 (h := fun K hK => ?_) (hs := ?_)
              ·skip
               have hpre := hid (show W8.heap.size ≤ ws6.heap.size from H8.out.size)
               go_simp
               refine named_alloc ?_
               intro Wa10 hbk hb hsz
               have FA := hid (show FarM n1 A9 B9 ws6.heap.size from MR.out.far (Nat.le_refl _))
               replace OM := hid (OM.out.step hb); replace OV := hid (OV.out.step hb); replace OL := hid (OL.out.step hb); replace OA := hid (OA.out.step hb); replace OQ := hid (OQ.out.step hb); replace OM6 := hid (OM6.out.step hb); replace OV6 := hid (OV6.out.step hb); replace MR := hid (MR.out.step hb); replace VR := hid (VR.out.step hb); replace H8 := hid (below_then H8.out hb)
               obtain ⟨ga10, hga⟩ : ∃ g, g = ws6.heap.size := ⟨_, rfl⟩
               rw [← hga] at hbk ⊢
               rw [← hga] at FA
               have hlo10 := hid (show W8.heap.size ≤ ga10 by have := hpre.out; omega)
               have PW := hid hbk
               clear hb hbk hsz hga hpre
               refine hK.out _ _ (hKP.out _ H8.out) (fun hS' => ?_)
               clear hK K hS
               have hS := hS'
               clear hS'
               (try simp only [Act.put, List.setIfInBounds_toArray, List.set_cons_zero, List.set_cons_succ])
               revert hS; revert hlo10; revert FA; revert H8; revert VR; revert PW; revert OV6; revert OV; revert OQ; revert OM6; revert OM; revert OL; revert OA; revert MR; revert ga10; revert vc9; revert vn9; revert V9; revert d9; revert B9; revert c9; revert A9; revert vc6; revert V6; revert d6; revert B6; revert c6; revert A6; revert Wa10
               exact K1.out
              refine cs1 (h := fun K hK => ?_) (hs := ?_)
              ·skip
               have hpre := hid (show W8.heap.size ≤ ws6.heap.size from H8.out.size)
               go_simp
               refine named_alloc ?_
               intro Wa11 hbk hb hsz
               have FB := hid (show FarM n1 A9 B9 ws6.heap.size from MR.out.far (Nat.le_refl _))
               replace OM := hid (OM.out.step hb); replace OV := hid (OV.out.step hb); replace OL := hid (OL.out.step hb); replace OA := hid (OA.out.step hb); replace OQ := hid (OQ.out.step hb); replace OM6 := hid (OM6.out.step hb); replace OV6 := hid (OV6.out.step hb); replace MR := hid (MR.out.step hb); replace VR := hid (VR.out.step hb); replace H8 := hid (below_then H8.out hb)
               obtain ⟨ga11, hga⟩ : ∃ g, g = ws6.heap.size := ⟨_, rfl⟩
               rw [← hga] at hbk ⊢
               rw [← hga] at FB
               have hlo11 := hid (show W8.heap.size ≤ ga11 by have := hpre.out; omega)
               have PR := hid hbk
               clear hb hbk hsz hga hpre
               refine hK.out _ _ (hKP.out _ H8.out) (fun hS' => ?_)
               clear hK K hS
               have hS := hS'
               clear hS'
               (try simp only [Act.put, List.setIfInBounds_toArray, List.set_cons_zero, List.set_cons_succ])
               revert hS; revert hlo11; revert FB; revert H8; revert VR; revert PR; revert OV6; revert OV; revert OQ; revert OM6; revert OM; revert OL; revert OA; revert MR; revert ga11; revert vc9; revert vn9; revert V9; revert d9; revert B9; revert c9; revert A9; revert vc6; revert V6; revert d6; revert B6; revert c6; revert A6; revert Wa11
               exact K2.out
              exact AllReadyH.nil
             refine cs1 (h := fun K hK => ?_) (hs := ?_)
             ·skip
              have hpre := hid (show W8.heap.size ≤ ws3.heap.size from H8.out.size)
              go_simp
              refine named_alloc ?_
              intro Wa10 hbk hb hsz
              skip
              replace OM := hid (OM.out.step hb); replace OV := hid (OV.out.step hb); replace OL := hid (OL.out.step hb); replace OA := hid (OA.out.step hb); replace OQ := hid (OQ.out.step hb); replace OM6 := hid (OM6.out.step hb); replace OV6 := hid (OV6.out.step hb); replace H8 := hid (below_then H8.out hb)
              obtain ⟨ga10, hga⟩ : ∃ g, g = ws3.heap.size := ⟨_, rfl⟩
              rw [← hga] at hbk ⊢
              have hlo10 := hid (show W8.heap.size ≤ ga10 by have := hpre.out; omega)
              have PW := hid hbk
              clear hb hbk hsz hga hpre
              refine hK.out _ _ (hKP.out _ H8.out) (fun hS' => ?_)
              clear hK K hS
              have hS := hS'
              clear hS'
              (try simp only [Act.put, List.setIfInBounds_toArray, List.set_cons_zero, List.set_cons_succ])
              revert hS; revert hlo10; revert H8; revert PW; revert OV6; revert OV; revert OQ; revert OM6; revert OM; revert OL; revert OA; revert ga10; revert vc6; revert V6; revert d6; revert B6; revert c6; revert A6; revert Wa10
              exact K4.out
             refine cs1 (h := fun K hK => ?_) (hs := ?_)
             ·skip
              have hpre := hid (show W8.heap.size ≤ ws3.heap.size from H8.out.size)
              go_simp
              refine named_alloc ?_
              intro Wa11 hbk hb hsz
              skip
              replace OM := hid (OM.out.step hb); replace OV := hid (OV.out.step hb); replace OL := hid (OL.out.step hb); replace OA := hid (OA.out.step hb); replace OQ := hid (OQ.out.step hb); replace OM6 := hid (OM6.out.step hb); replace OV6 := hid (OV6.out.step hb); replace H8 := hid (below_then H8.out hb)
              obtain ⟨ga11, hga⟩ : ∃ g, g = ws3.heap.size := ⟨_, rfl⟩
              rw [← hga] at hbk ⊢
              have hlo11 := hid (show W8.heap.size ≤ ga11 by have := hpre.out; omega)
              have PR := hid hbk
              clear hb hbk hsz hga hpre
              refine hK.out _ _ (hKP.out _ H8.out) (fun hS' => ?_)
              clear hK K hS
              have hS := hS'
              clear hS'
              (try simp only [Act.put, List.setIfInBounds_toArray, List.set_cons_zero, List.set_cons_succ])
              revert hS; revert hlo11; revert H8; revert PR; revert OV6; revert OV; revert OQ; revert OM6; revert OM; revert OL; revert OA; revert ga11; revert vc6; revert V6; revert d6; revert B6; revert c6; revert A6; revert Wa11
              exact K5.out
             exact AllReadyH.nil
            refine cs1 (h := fun K hK => ?_) (hs := ?_)
            ·skip
             have hpre := hid (show W8.heap.size ≤ ws1.heap.size from H8.out.size)
             go_simp
             refine named_alloc ?_
             intro Wa10 hbk hb hsz
             skip
             replace OM := hid (OM.out.step hb); replace OV := hid (OV.out.step hb); replace OL := hid (OL.out.step hb); replace OA := hid (OA.out.step hb); replace OQ := hid (OQ.out.step hb); replace OM6 := hid (OM6.out.step hb); replace H8 := hid (below_then H8.out hb)
             obtain ⟨ga10, hga⟩ : ∃ g, g = ws1.heap.size := ⟨_, rfl⟩
             rw [← hga] at hbk ⊢
             have hlo10 := hid (show W8.heap.size ≤ ga10 by have := hpre.out; omega)
             have PW := hid hbk
             clear hb hbk hsz hga hpre
             refine hK.out _ _ (hKP.out _ H8.out) (fun hS' => ?_)
             clear hK K hS
             have hS := hS'
             clear hS'
             (try simp only [Act.put, List.setIfInBounds_toArray, List.set_cons_zero, List.set_cons_succ])
             revert hS; revert hlo10; revert H8; revert PW; revert OV; revert OQ; revert OM6; revert OM; revert OL; revert OA; revert ga10; revert d6; revert B6; revert c6; revert A6; revert Wa10
             exact K7.out
            refine cs1 (h := fun K hK => ?_) (hs := ?_)
            ·skip
             have hpre := hid (show W8.heap.size ≤ ws1.heap.size from H8.out.size)
             go_simp
             refine named_alloc ?_
             intro Wa11 hbk hb hsz
             skip
             replace OM := hid (OM.out.step hb); replace OV := hid (OV.out.step hb); replace OL := hid (OL.out.step hb); replace OA := hid (OA.out.step hb); replace OQ := hid (OQ.out.step hb); replace OM6 := hid (OM6.out.step hb); replace H8 := hid (below_then H8.out hb)
             obtain ⟨ga11, hga⟩ : ∃ g, g = ws1.heap.size := ⟨_, rfl⟩
             rw [← hga] at hbk ⊢
             have hlo11 := hid (show W8.heap.size ≤ ga11 by have := hpre.out; omega)
             have PR := hid hbk
             clear hb hbk hsz hga hpre
             refine hK.out _ _ (hKP.out _ H8.out) (fun hS' => ?_)
             clear hK K hS
             have hS := hS'
             clear hS'
             (try simp only [Act.put, List.setIfInBounds_toArray, List.set_cons_zero, List.set_cons_succ])
             revert hS; revert hlo11; revert H8; revert PR; revert OV; revert OQ; revert OM6; revert OM; revert OL; revert OA; revert ga11; revert d6; revert B6; revert c6; revert A6; revert Wa11
             exact K8.out
            exact AllReadyH.nil
           refine cs1 (h := fun K hK => ?_) (hs := ?_)
           ·skip
            have hpre := hid (show W8.heap.size ≤ Wd.heap.size from H8.out.size)
            go_simp
            refine named_alloc ?_
            intro Wa10 hbk hb hsz
            skip
            replace OM := hid (OM.out.step hb); replace OV := hid (OV.out.step hb); replace OL := hid (OL.out.step hb); replace OA := hid (OA.out.step hb); replace OQ := hid (OQ.out.step hb); replace H8 := hid (below_then H8.out hb)
            obtain ⟨ga10, hga⟩ : ∃ g, g = Wd.heap.size := ⟨_, rfl⟩
            rw [← hga] at hbk ⊢
            have hlo10 := hid (show W8.heap.size ≤ ga10 by have := hpre.out; omega)
            have PW := hid hbk
            clear hb hbk hsz hga hpre
            refine hK.out _ _ (hKP.out _ H8.out) (fun hS' => ?_)
            clear hK K hS
            have hS := hS'
            clear hS'
            (try simp only [Act.put, List.setIfInBounds_toArray, List.set_cons_zero, List.set_cons_succ])
            refine rd1 (rs := [1, 11]) (h := ?_)
            refine cs1 (h := fun K hK => ?_) (hs := ?_)
            ·skip
             have hpre := hid (show W8.heap.size ≤ Wa10.heap.size from H8.out.size)
             have hpl10 := hid PW.out.lt
             go_simp
             refine (lawown_any A1 n1 c1 B1 k1 d1 mm.2.2 mm.1 mm.2.1 _ OM.out.mem.hx OM.out.mem.hy OM.out.mem.hnc OM.out.mem.hmd).mono ?_
             rintro e ws1 ⟨A6, n6, c6, B6, k6, d6, rfl, om, hb⟩
             replace OM := hid (OM.out.step hb); replace OV := hid (OV.out.step hb); replace OL := hid (OL.out.step hb); replace OA := hid (OA.out.step hb); replace OQ := hid (OQ.out.step hb); replace PW := hid (PW.out.step hb); replace H8 := hid (below_then H8.out hb)
             clear hb
             rw [List.take_of_length_le (by rw [OM.out.oa.len]; exact hn48), List.take_of_length_le (by rw [OM.out.ob.len]; exact hk48)] at om
             obtain rfl : n1 = n6 := by rw [← om.oa.len, OM.out.oa.len]
             obtain rfl : n1 = k6 := by rw [← om.ob.len, OM.out.ob.len, hkn.out]
             have OM6 := hid (om.mono (show W8.heap.size ≤ _ by have := H8.out.size; have := hpre.out; have := hpl10.out; have := hlo10.out; have := PW.out.lt; omega))
             clear om
             go_wp2_with fail
             clear hpre hpl10
             refine hK.out _ _ (hKP.out _ H8.out) (fun hS' => ?_)
             clear hK K hS
             have hS := hS'
             clear hS'
             (try simp only [Act.put, List.setIfInBounds_toArray, List.set_cons_zero, List.set_cons_succ])
             revert hS; revert hlo10; revert H8; revert PW; revert OV; revert OQ; revert OM6; revert OM; revert OL; revert OA; revert ga10; revert d6; revert B6; revert c6; revert A6; revert ws1
             exact K7.out
            refine cs1 (h := fun K hK => ?_) (hs := ?_)
            ·skip
             have hpre := hid (show W8.heap.size ≤ Wa10.heap.size from H8.out.size)
             go_simp
             refine named_alloc ?_
             intro Wa11 hbk hb hsz
             skip
             replace OM := hid (OM.out.step hb); replace OV := hid (OV.out.step hb); replace OL := hid (OL.out.step hb); replace OA := hid (OA.out.step hb); replace OQ := hid (OQ.out.step hb); replace PW := hid (PW.out.step hb); replace H8 := hid (below_then H8.out hb)
             obtain ⟨ga11, hga⟩ : ∃ g, g = Wa10.heap.size := ⟨_, rfl⟩
             rw [← hga] at hbk ⊢
             have hlo11 := hid (show W8.heap.size ≤ ga11 by have := hpre.out; omega)
             have PR := hid hbk
             clear hb hbk hsz hga hpre
             refine hK.out _ _ (hKP.out _ H8.out) (fun hS' => ?_)
             clear hK K hS
             have hS := hS'
             clear hS'
             (try simp only [Act.put, List.setIfInBounds_toArray, List.set_cons_zero, List.set_cons_succ])
             revert hS; revert hlo11; revert hlo10; revert H8; revert PW; revert PR; revert OV; revert OQ; revert OM; revert OL; revert OA; revert ga11; revert ga10; revert Wa11
             exact K9.out
            exact AllReadyH.nil
           refine cs1 (h := fun K hK => ?_) (hs := ?_)
           ·skip
            have hpre := hid (show W8.heap.size ≤ Wd.heap.size from H8.out.size)
            go_simp
            refine named_alloc ?_
            intro Wa11 hbk hb hsz
            skip
            replace OM := hid (OM.out.step hb); replace OV := hid (OV.out.step hb); replace OL := hid (OL.out.step hb); replace OA := hid (OA.out.step hb); replace OQ := hid (OQ.out.step hb); replace H8 := hid (below_then H8.out hb)
            obtain ⟨ga11, hga⟩ : ∃ g, g = Wd.heap.size := ⟨_, rfl⟩
            rw [← hga] at hbk ⊢
            have hlo11 := hid (show W8.heap.size ≤ ga11 by have := hpre.out; omega)
            have PR := hid hbk
            clear hb hbk hsz hga hpre
            refine hK.out _ _ (hKP.out _ H8.out) (fun hS' => ?_)
            clear hK K hS
            have hS := hS'
            clear hS'
            (try simp only [Act.put, List.setIfInBounds_toArray, List.set_cons_zero, List.set_cons_succ])
            refine rd1 (rs := [1, 10]) (h := ?_)
            refine cs1 (h := fun K hK => ?_) (hs := ?_)
            ·skip
             have hpre := hid (show W8.heap.size ≤ Wa11.heap.size from H8.out.size)
             have hpl11 := hid PR.out.lt
             go_simp
             refine (lawown_any A1 n1 c1 B1 k1 d1 mm.2.2 mm.1 mm.2.1 _ OM.out.mem.hx OM.out.mem.hy OM.out.mem.hnc OM.out.mem.hmd).mono ?_
             rintro e ws1 ⟨A6, n6, c6, B6, k6, d6, rfl, om, hb⟩
             replace OM := hid (OM.out.step hb); replace OV := hid (OV.out.step hb); replace OL := hid (OL.out.step hb); replace OA := hid (OA.out.step hb); replace OQ := hid (OQ.out.step hb); replace PR := hid (PR.out.step hb); replace H8 := hid (below_then H8.out hb)
             clear hb
             rw [List.take_of_length_le (by rw [OM.out.oa.len]; exact hn48), List.take_of_length_le (by rw [OM.out.ob.len]; exact hk48)] at om
             obtain rfl : n1 = n6 := by rw [← om.oa.len, OM.out.oa.len]
             obtain rfl : n1 = k6 := by rw [← om.ob.len, OM.out.ob.len, hkn.out]
             have OM6 := hid (om.mono (show W8.heap.size ≤ _ by have := H8.out.size; have := hpre.out; have := hpl11.out; have := hlo11.out; have := PR.out.lt; omega))
             clear om
             go_wp2_with fail
             clear hpre hpl11
             refine hK.out _ _ (hKP.out _ H8.out) (fun hS' => ?_)
             clear hK K hS
             have hS := hS'
             clear hS'
             (try simp only [Act.put, List.setIfInBounds_toArray, List.set_cons_zero, List.set_cons_succ])
             revert hS; revert hlo11; revert H8; revert PR; revert OV; revert OQ; revert OM6; revert OM; revert OL; revert OA; revert ga11; revert d6; revert B6; revert c6; revert A6; revert ws1
             exact K8.out
            refine cs1 (h := fun K hK => ?_) (hs := ?_)
            ·skip
             have hpre := hid (show W8.heap.size ≤ Wa11.heap.size from H8.out.size)
             go_simp
             refine named_alloc ?_
             intro Wa10 hbk hb hsz
             skip
             replace OM := hid (OM.out.step hb); replace OV := hid (OV.out.step hb); replace OL := hid (OL.out.step hb); replace OA := hid (OA.out.step hb); replace OQ := hid (OQ.out.step hb); replace PR := hid (PR.out.step hb); replace H8 := hid (below_then H8.out hb)
             obtain ⟨ga10, hga⟩ : ∃ g, g = Wa11.heap.size := ⟨_, rfl⟩
             rw [← hga] at hbk ⊢
             have hlo10 := hid (show W8.heap.size ≤ ga10 by have := hpre.out; omega)
             have PW := hid hbk
             clear hb hbk hsz hga hpre
             refine hK.out _ _ (hKP.out _ H8.out) (fun hS' => ?_)
             clear hK K hS
             have hS := hS'
             clear hS'
             (try simp only [Act.put, List.setIfInBounds_toArray, List.set_cons_zero, List.set_cons_succ])
             revert hS; revert hlo11; revert hlo10; revert H8; revert PW; revert PR; revert OV; revert OQ; revert OM; revert OL; revert OA; revert ga11; revert ga10; revert Wa10
             exact K9.out
            exact AllReadyH.nil
           exact AllReadyH.nil
          ·skip
           intro Wm ga10 ga11 OA OL OM OQ OV PR PW H8 hlo10 hlo11 hS
           refine rd1 (rs := [1]) (h := ?_)
           refine cs1 (h := fun K hK => ?_) (hs := ?_)
           ·skip
            have hpre := hid (show W8.heap.size ≤ Wm.heap.size from H8.out.size)
            have hpl10 := hid PW.out.lt
            have hpl11 := hid PR.out.lt
            go_simp
            refine (lawown_any A1 n1 c1 B1 k1 d1 mm.2.2 mm.1 mm.2.1 _ OM.out.mem.hx OM.out.mem.hy OM.out.mem.hnc OM.out.mem.hmd).mono ?_
            rintro e ws1 ⟨A6, n6, c6, B6, k6, d6, rfl, om, hb⟩
            replace OA := hid (OA.out.step hb); replace OL := hid (OL.out.step hb); replace OM := hid (OM.out.step hb); replace OQ := hid (OQ.out.step hb); replace OV := hid (OV.out.step hb); replace PR := hid (PR.out.step hb); replace PW := hid (PW.out.step hb); replace H8 := hid (below_then H8.out hb)
            clear hb
            rw [List.take_of_length_le (by rw [OM.out.oa.len]; exact hn48), List.take_of_length_le (by rw [OM.out.ob.len]; exact hk48)] at om
            obtain rfl : n1 = n6 := by rw [← om.oa.len, OM.out.oa.len]
            obtain rfl : n1 = k6 := by rw [← om.ob.len, OM.out.ob.len, hkn.out]
            have OM6 := hid (om.mono (show W8.heap.size ≤ _ by have := H8.out.size; have := hpre.out; have := hpl10.out; have := hpl11.out; have := hlo10.out; have := PW.out.lt; have := hlo11.out; have := PR.out.lt; omega))
            clear om
            go_wp2_with fail
            clear hpre hpl10 hpl11
            refine hK.out _ _ (hKP.out _ H8.out) (fun hS' => ?_)
            clear hK K hS
            have hS := hS'
            clear hS'
            (try simp only [Act.put, List.setIfInBounds_toArray, List.set_cons_zero, List.set_cons_succ])
            revert hS; revert hlo11; revert hlo10; revert H8; revert PW; revert PR; revert OV; revert OQ; revert OM6; revert OM; revert OL; revert OA; revert ga11; revert ga10; revert d6; revert B6; revert c6; revert A6; revert ws1
            exact K6.out
           exact AllReadyH.nil
          ·skip
           intro Wm A6 c6 B6 d6 ga11 OA OL OM OM6 OQ OV PR H8 hlo11 hS
           refine rd1 (rs := [3, 10]) (h := ?_)
           refine cs1 (h := fun K hK => ?_) (hs := ?_)
           ·skip
            have hpre := hid (show W8.heap.size ≤ Wm.heap.size from H8.out.size)
            have hpl11 := hid PR.out.lt
            go_simp
            refine (ownread_any sc V1 vn1 vc1 _ (OV.out.sl.mono (Nat.zero_le _) (Nat.le_refl _)) OV.out.cap.1).mono ?_
            rintro e ws3 ⟨V6, vn6, vc6, rfl, ov, hb⟩
            replace OA := hid (OA.out.step hb); replace OL := hid (OL.out.step hb); replace OM := hid (OM.out.step hb); replace OM6 := hid (OM6.out.step hb); replace OQ := hid (OQ.out.step hb); replace OV := hid (OV.out.step hb); replace PR := hid (PR.out.step hb); replace H8 := hid (below_then H8.out hb)
            clear hb
            rw [List.take_of_length_le (by rw [OV.out.len]; exact hvn1)] at ov
            rw [show cutR sc = sc from by unfold cutR; rw [List.take_of_length_le (by rw [OV.out.len]; exact hvn1)]]
            obtain rfl : vn1 = vn6 := by rw [← ov.len, OV.out.len]
            have OV6 := hid (ov.mono (show W8.heap.size ≤ _ by have := H8.out.size; have := hpre.out; have := hpl11.out; have := hlo11.out; have := PR.out.lt; omega))
            clear ov
            go_wp2_with fail
            clear hpre hpl11
            refine hK.out _ _ (hKP.out _ H8.out) (fun hS' => ?_)
            clear hK K hS
            have hS := hS'
            clear hS'
            (try simp only [Act.put, List.setIfInBounds_toArray, List.set_cons_zero, List.set_cons_succ])
            revert hS; revert hlo11; revert H8; revert PR; revert OV6; revert OV; revert OQ; revert OM6; revert OM; revert OL; revert OA; revert ga11; revert vc6; revert V6; revert d6; revert B6; revert c6; revert A6; revert ws3
            exact K5.out
           refine cs1 (h := fun K hK => ?_) (hs := ?_)
           ·skip
            have hpre := hid (show W8.heap.size ≤ Wm.heap.size from H8.out.size)
            go_simp
            refine named_alloc ?_
            intro Wa10 hbk hb hsz
            skip
            replace OA := hid (OA.out.step hb); replace OL := hid (OL.out.step hb); replace OM := hid (OM.out.step hb); replace OM6 := hid (OM6.out.step hb); replace OQ := hid (OQ.out.step hb); replace OV := hid (OV.out.step hb); replace PR := hid (PR.out.step hb); replace H8 := hid (below_then H8.out hb)
            obtain ⟨ga10, hga⟩ : ∃ g, g = Wm.heap.size := ⟨_, rfl⟩
            rw [← hga] at hbk ⊢
            have hlo10 := hid (show W8.heap.size ≤ ga10 by have := hpre.out; omega)
            have PW := hid hbk
            clear hb hbk hsz hga hpre
            refine hK.out _ _ (hKP.out _ H8.out) (fun hS' => ?_)
            clear hK K hS
            have hS := hS'
            clear hS'
            (try simp only [Act.put, List.setIfInBounds_toArray, List.set_cons_zero, List.set_cons_succ])
            revert hS; revert hlo11; revert hlo10; revert H8; revert PW; revert PR; revert OV; revert OQ; revert OM6; revert OM; revert OL; revert OA; revert ga11; revert ga10; revert d6; revert B6; revert c6; revert A6; revert Wa10
            exact K6.out
           exact AllReadyH.nil
          ·skip
           intro Wm A6 c6 B6 d6 ga10 OA OL OM OM6 OQ OV PW H8 hlo10 hS
           refine rd1 (rs := [3, 11]) (h := ?_)
           refine cs1 (h := fun K hK => ?_) (hs := ?_)
           ·skip
            have hpre := hid (show W8.heap.size ≤ Wm.heap.size from H8.out.size)
            have hpl10 := hid PW.out.lt
            go_simp
            refine (ownread_any sc V1 vn1 vc1 _ (OV.out.sl.mono (Nat.zero_le _) (Nat.le_refl _)) OV.out.cap.1).mono ?_
            rintro e ws3 ⟨V6, vn6, vc6, rfl, ov, hb⟩
            replace OA := hid (OA.out.step hb); replace OL := hid (OL.out.step hb); replace OM := hid (OM.out.step hb); replace OM6 := hid (OM6.out.step hb); replace OQ := hid (OQ.out.step hb); replace OV := hid (OV.out.step hb); replace PW := hid (PW.out.step hb); replace H8 := hid (below_then H8.out hb)
            clear hb
            rw [List.take_of_length_le (by rw [OV.out.len]; exact hvn1)] at ov
            rw [show cutR sc = sc from by unfold cutR; rw [List.take_of_length_le (by rw [OV.out.len]; exact hvn1)]]
            obtain rfl : vn1 = vn6 := by rw [← ov.len, OV.out.len]
            have OV6 := hid (ov.mono (show W8.heap.size ≤ _ by have := H8.out.size; have := hpre.out; have := hpl10.out; have := hlo10.out; have := PW.out.lt; omega))
            clear ov
            go_wp2_with fail
            clear hpre hpl10
            refine hK.out _ _ (hKP.out _ H8.out) (fun hS' => ?_)
            clear hK K hS
            have hS := hS'
            clear hS'
            (try simp only [Act.put, List.setIfInBounds_toArray, List.set_cons_zero, List.set_cons_succ])
            revert hS; revert hlo10; revert H8; revert PW; revert OV6; revert OV; revert OQ; revert OM6; revert OM; revert OL; revert OA; revert ga10; revert vc6; revert V6; revert d6; revert B6; revert c6; revert A6; revert ws3
            exact K4.out
           refine cs1 (h := fun K hK => ?_) (hs := ?_)
           ·skip
            have hpre := hid (show W8.heap.size ≤ Wm.heap.size from H8.out.size)
            go_simp
            refine named_alloc ?_
            intro Wa11 hbk hb hsz
            skip
            replace OA := hid (OA.out.step hb); replace OL := hid (OL.out.step hb); replace OM := hid (OM.out.step hb); replace OM6 := hid (OM6.out.step hb); replace OQ := hid (OQ.out.step hb); replace OV := hid (OV.out.step hb); replace PW := hid (PW.out.step hb); replace H8 := hid (below_then H8.out hb)
            obtain ⟨ga11, hga⟩ : ∃ g, g = Wm.heap.size := ⟨_, rfl⟩
            rw [← hga] at hbk ⊢
            have hlo11 := hid (show W8.heap.size ≤ ga11 by have := hpre.out; omega)
            have PR := hid hbk
            clear hb hbk hsz hga hpre
            refine hK.out _ _ (hKP.out _ H8.out) (fun hS' => ?_)
            clear hK K hS
            have hS := hS'
            clear hS'
            (try simp only [Act.put, List.setIfInBounds_toArray, List.set_cons_zero, List.set_cons_succ])
            revert hS; revert hlo11; revert hlo10; revert H8; revert PW; revert PR; revert OV; revert OQ; revert OM6; revert OM; revert OL; revert OA; revert ga11; revert ga10; revert d6; revert B6; revert c6; revert A6; revert Wa11
            exact K6.out
           exact AllReadyH.nil
          ·skip
           intro Wm A6 c6 B6 d6 ga10 ga11 OA OL OM OM6 OQ OV PR PW H8 hlo10 hlo11 hS
           refine rd1 (rs := [3]) (h := ?_)
           refine cs1 (h := fun K hK => ?_) (hs := ?_)
           ·skip
            have hpre := hid (show W8.heap.size ≤ Wm.heap.size from H8.out.size)
            have hpl10 := hid PW.out.lt
            have hpl11 := hid PR.out.lt
            go_simp
            refine (ownread_any sc V1 vn1 vc1 _ (OV.out.sl.mono (Nat.zero_le _) (Nat.le_refl _)) OV.out.cap.1).mono ?_
            rintro e ws3 ⟨V6, vn6, vc6, rfl, ov, hb⟩
            replace OA := hid (OA.out.step hb); replace OL := hid (OL.out.step hb); replace OM := hid (OM.out.step hb); replace OM6 := hid (OM6.out.step hb); replace OQ := hid (OQ.out.step hb); replace OV := hid (OV.out.step hb); replace PR := hid (PR.out.step hb); replace PW := hid (PW.out.step hb); replace H8 := hid (below_then H8.out hb)
            clear hb
            rw [List.take_of_length_le (by rw [OV.out.len]; exact hvn1)] at ov
            rw [show cutR sc = sc from by unfold cutR; rw [List.take_of_length_le (by rw [OV.out.len]; exact hvn1)]]
            obtain rfl : vn1 = vn6 := by rw [← ov.len, OV.out.len]
            have OV6 := hid (ov.mono (show W8.heap.size ≤ _ by have := H8.out.size; have := hpre.out; have := hpl10.out; have := hpl11.out; have := hlo10.out; have := PW.out.lt; have := hlo11.out; have := PR.out.lt; omega))
            clear ov
            go_wp2_with fail
            clear hpre hpl10 hpl11
            refine hK.out _ _ (hKP.out _ H8.out) (fun hS' => ?_)
            clear hK K hS
            have hS := hS'
            clear hS'
            (try simp only [Act.put, List.setIfInBounds_toArray, List.set_cons_zero, List.set_cons_succ])
            revert hS; revert hlo11; revert hlo10; revert H8; revert PW; revert PR; revert OV6; revert OV; revert OQ; revert OM6; revert OM; revert OL; revert OA; revert ga11; revert ga10; revert vc6; revert V6; revert d6; revert B6; revert c6; revert A6; revert ws3
            exact K3.out
           exact AllReadyH.nil
          ·skip
           intro Wm A6 c6 B6 d6 V6 vc6 ga11 OA OL OM OM6 OQ OV OV6 PR H8 hlo11 hS
           refine rd1 (rs := [6, 10]) (h := ?_)
           refine cs1 (h := fun K hK => ?_) (hs := ?_)
           ·skip
            have hpre := hid (show W8.heap.size ≤ Wm.heap.size from H8.out.size)
            have hpl11 := hid PR.out.lt
            go_simp
            refine (rplay_any A6 n1 c6 B6 d6 mm.2.2 mm.1 mm.2.1 sc V6 vn1 vc6 L7 p4 cl7 el Q5 p6 cq5 qs 0 _ OM6.out.mem ⟨Nat.zero_le _, .inr ⟨_, OV6.out.mono (Nat.zero_le _)⟩⟩ (OL.out.sm.mono (Nat.zero_le _) (Nat.le_refl _)) (HVR.out _ _ OA.out) (by omega) (OQ.out.sl.mono (Nat.zero_le _) (Nat.le_refl _)) (by omega) HALL.out).mono ?_
            rintro e ws6 ⟨A9, c9, B9, d9, V9, vn9, vc9, rfl, mr, vr, hb, htr⟩
            replace OA := hid (OA.out.step hb); replace OL := hid (OL.out.step hb); replace OM := hid (OM.out.step hb); replace OM6 := hid (OM6.out.step hb); replace OQ := hid (OQ.out.step hb); replace OV := hid (OV.out.step hb); replace OV6 := hid (OV6.out.step hb); replace PR := hid (PR.out.step hb); replace H8 := hid (below_then H8.out hb)
            clear hb
            rw [← HXX.out] at mr vr ⊢
            dsimp only at mr vr ⊢
            have MR := hid mr; have VR := hid vr
            have FB := hid (show FarM n1 A9 B9 _ from htr _ (by have := H8.out.size; have := hpre.out; have := hpl11.out; have := hlo11.out; have := PR.out.lt; omega) (fun _ => ⟨fun a ha => OM6.out.oa.ne_blk PR.out ts1 a ha, fun a ha => OM6.out.ob.ne_blk PR.out ts2 a ha⟩))
            clear mr vr htr
            go_wp2_with fail
            clear hpre hpl11
            refine hK.out _ _ (hKP.out _ H8.out) (fun hS' => ?_)
            clear hK K hS
            have hS := hS'
            clear hS'
            (try simp only [Act.put, List.setIfInBounds_toArray, List.set_cons_zero, List.set_cons_succ])
            refine tk1 (i := 7) (v := ?_) (hy := Or.inl ⟨by rfl, ?_⟩) (hS := hS) (h := ?_)
            rotate_left
            · intro w' hSw; (try dsimp only at hSw); go_split_ands; go_simp; (try with_reducible rfl)
            (try simp only [Act.put, List.setIfInBounds_toArray, List.set_cons_zero, List.set_cons_succ])
            refine tk1 (i := 8) (v := ?_) (hy := Or.inl ⟨by rfl, ?_⟩) (hS := hS) (h := ?_)
            rotate_left
            · intro w' hSw; (try dsimp only at hSw); go_split_ands; go_simp; (try with_reducible rfl)
            (try simp only [Act.put, List.setIfInBounds_toArray, List.set_cons_zero, List.set_cons_succ])
            refine tk1 (i := 9) (v := ?_) (hy := Or.inl ⟨by rfl, ?_⟩) (hS := hS) (h := ?_)
            rotate_left
            · intro w' hSw; (try dsimp only at hSw); go_split_ands; go_simp; (try with_reducible rfl)
            (try simp only [Act.put, List.setIfInBounds_toArray, List.set_cons_zero, List.set_cons_succ])
            revert hS; revert hlo11; revert FB; revert H8; revert VR; revert PR; revert OV6; revert OV; revert OQ; revert OM6; revert OM; revert OL; revert OA; revert MR; revert ga11; revert vc9; revert vn9; revert V9; revert d9; revert B9; revert c9; revert A9; revert vc6; revert V6; revert d6; revert B6; revert c6; revert A6; revert ws6
            exact K2.out
           refine cs1 (h := fun K hK => ?_) (hs := ?_)
           ·skip
            have hpre := hid (show W8.heap.size ≤ Wm.heap.size from H8.out.size)
            go_simp
            refine named_alloc ?_
            intro Wa10 hbk hb hsz
            skip
            replace OA := hid (OA.out.step hb); replace OL := hid (OL.out.step hb); replace OM := hid (OM.out.step hb); replace OM6 := hid (OM6.out.step hb); replace OQ := hid (OQ.out.step hb); replace OV := hid (OV.out.step hb); replace OV6 := hid (OV6.out.step hb); replace PR := hid (PR.out.step hb); replace H8 := hid (below_then H8.out hb)
            obtain ⟨ga10, hga⟩ : ∃ g, g = Wm.heap.size := ⟨_, rfl⟩
            rw [← hga] at hbk ⊢
            have hlo10 := hid (show W8.heap.size ≤ ga10 by have := hpre.out; omega)
            have PW := hid hbk
            clear hb hbk hsz hga hpre
            refine hK.out _ _ (hKP.out _ H8.out) (fun hS' => ?_)
            clear hK K hS
            have hS := hS'
            clear hS'
            (try simp only [Act.put, List.setIfInBounds_toArray, List.set_cons_zero, List.set_cons_succ])
            revert hS; revert hlo11; revert hlo10; revert H8; revert PW; revert PR; revert OV6; revert OV; revert OQ; revert OM6; revert OM; revert OL; revert OA; revert ga11; revert ga10; revert vc6; revert V6; revert d6; revert B6; revert c6; revert A6; revert Wa10
            exact K3.out
           exact AllReadyH.nil
          ·skip
           intro Wm A6 c6 B6 d6 V6 vc6 ga10 OA OL OM OM6 OQ OV OV6 PW H8 hlo10 hS
           refine rd1 (rs := [6, 11]) (h := ?_)
           refine cs1 (h := fun K hK => ?_) (hs := ?_)
           ·skip
            have hpre := hid (show W8.heap.size ≤ Wm.heap.size from H8.out.size)
            have hpl10 := hid PW.out.lt
            go_simp
            refine (rplay_any A6 n1 c6 B6 d6 mm.2.2 mm.1 mm.2.1 sc V6 vn1 vc6 L7 p4 cl7 el Q5 p6 cq5 qs 0 _ OM6.out.mem ⟨Nat.zero_le _, .inr ⟨_, OV6.out.mono (Nat.zero_le _)⟩⟩ (OL.out.sm.mono (Nat.zero_le _) (Nat.le_refl _)) (HVR.out _ _ OA.out) (by omega) (OQ.out.sl.mono (Nat.zero_le _) (Nat.le_refl _)) (by omega) HALL.out).mono ?_
            rintro e ws6 ⟨A9, c9, B9, d9, V9, vn9, vc9, rfl, mr, vr, hb, htr⟩
            replace OA := hid (OA.out.step hb); replace OL := hid (OL.out.step hb); replace OM := hid (OM.out.step hb); replace OM6 := hid (OM6.out.step hb); replace OQ := hid (OQ.out.step hb); replace OV := hid (OV.out.step hb); replace OV6 := hid (OV6.out.step hb); replace PW := hid (PW.out.step hb); replace H8 := hid (below_then H8.out hb)
            clear hb
            rw [← HXX.out] at mr vr ⊢
            dsimp only at mr vr ⊢
            have MR := hid mr; have VR := hid vr
            have FA := hid (show FarM n1 A9 B9 _ from htr _ (by have := H8.out.size; have := hpre.out; have := hpl10.out; have := hlo10.out; have := PW.out.lt; omega) (fun _ => ⟨fun a ha => OM6.out.oa.ne_blk PW.out tm1 a ha, fun a ha => OM6.out.ob.ne_blk PW.out tm2 a ha⟩))
            clear mr vr htr
            go_wp2_with fail
            clear hpre hpl10
            refine hK.out _ _ (hKP.out _ H8.out) (fun hS' => ?_)
            clear hK K hS
            have hS := hS'
            clear hS'
            (try simp only [Act.put, List.setIfInBounds_toArray, List.set_cons_zero, List.set_cons_succ])
            refine tk1 (i := 7) (v := ?_) (hy := Or.inl ⟨by rfl, ?_⟩) (hS := hS) (h := ?_)
            rotate_left
            · intro w' hSw; (try dsimp only at hSw); go_split_ands; go_simp; (try with_reducible rfl)
            (try simp only [Act.put, List.setIfInBounds_toArray, List.set_cons_zero, List.set_cons_succ])
            refine tk1 (i := 8) (v := ?_) (hy := Or.inl ⟨by rfl, ?_⟩) (hS := hS) (h := ?_)
            rotate_left
            · intro w' hSw; (try dsimp only at hSw); go_split_ands; go_simp; (try with_reducible rfl)
            (try simp only [Act.put, List.setIfInBounds_toArray, List.set_cons_zero, List.set_cons_succ])
            refine tk1 (i := 9) (v := ?_) (hy := Or.inl ⟨by rfl, ?_⟩) (hS := hS) (h := ?_)
            rotate_left
            · intro w' hSw; (try dsimp only at hSw); go_split_ands; go_simp; (try with_reducible rfl)
            (try simp only [Act.put, List.setIfInBounds_toArray, List.set_cons_zero, List.set_cons_succ])
            revert hS; revert hlo10; revert FA; revert H8; revert VR; revert PW; revert OV6; revert OV; revert OQ; revert OM6; revert OM; revert OL; revert OA; revert MR; revert ga10; revert vc9; revert vn9; revert V9; revert d9; revert B9; revert c9; revert A9; revert vc6; revert V6; revert d6; revert B6; revert c6; revert A6; revert ws6
            exact K1.out
           refine cs1 (h := fun K hK => ?_) (hs := ?_)
           ·skip
            have hpre := hid (show W8.heap.size ≤ Wm.heap.size from H8.out.size)
            go_simp
            refine named_alloc ?_
            intro Wa11 hbk hb hsz
            skip
            replace OA := hid (OA.out.step hb); replace OL := hid (OL.out.step hb); replace OM := hid (OM.out.step hb); replace OM6 := hid (OM6.out.step hb); replace OQ := hid (OQ.out.step hb); replace OV := hid (OV.out.step hb); replace OV6 := hid (OV6.out.step hb); replace PW := hid (PW.out.step hb); replace H8 := hid (below_then H8.out hb)
            obtain ⟨ga11, hga⟩ : ∃ g, g = Wm.heap.size := ⟨_, rfl⟩
            rw [← hga] at hbk ⊢
            have hlo11 := hid (show W8.heap.size ≤ ga11 by have := hpre.out; omega)
            have PR := hid hbk
            clear hb hbk hsz hga hpre
            refine hK.out _ _ (hKP.out _ H8.out) (fun hS' => ?_)
            clear hK K hS
            have hS := hS'
            clear hS'
            (try simp only [Act.put, List.setIfInBounds_toArray, List.set_cons_zero, List.set_cons_succ])
            revert hS; revert hlo11; revert hlo10; revert H8; revert PW; revert PR; revert OV6; revert OV; revert OQ; revert OM6; revert OM; revert OL; revert OA; revert ga11; revert ga10; revert vc6; revert V6; revert d6; revert B6; revert c6; revert A6; revert Wa11
            exact K3.out
           exact AllReadyH.nil
          ·skip
           intro Wm A6 c6 B6 d6 V6 vc6 ga10 ga11 OA OL OM OM6 OQ OV OV6 PR PW H8 hlo10 hlo11 hS
           refine rd1 (rs := [6]) (h := ?_)
           refine cs1 (h := fun K hK => ?_) (hs := ?_)
           ·skip
            have hpre := hid (show W8.heap.size ≤ Wm.heap.size from H8.out.size)
            have hpl10 := hid PW.out.lt
            have hpl11 := hid PR.out.lt
            go_simp
            refine (rplay_any A6 n1 c6 B6 d6 mm.2.2 mm.1 mm.2.1 sc V6 vn1 vc6 L7 p4 cl7 el Q5 p6 cq5 qs 0 _ OM6.out.mem ⟨Nat.zero_le _, .inr ⟨_, OV6.out.mono (Nat.zero_le _)⟩⟩ (OL.out.sm.mono (Nat.zero_le _) (Nat.le_refl _)) (HVR.out _ _ OA.out) (by omega) (OQ.out.sl.mono (Nat.zero_le _) (Nat.le_refl _)) (by omega) HALL.out).mono ?_
            rintro e ws6 ⟨A9, c9, B9, d9, V9, vn9, vc9, rfl, mr, vr, hb, htr⟩
            replace OA := hid (OA.out.step hb); replace OL := hid (OL.out.step hb); replace OM := hid (OM.out.step hb); replace OM6 := hid (OM6.out.step hb); replace OQ := hid (OQ.out.step hb); replace OV := hid (OV.out.step hb); replace OV6 := hid (OV6.out.step hb); replace PR := hid (PR.out.step hb); replace PW := hid (PW.out.step hb); replace H8 := hid (below_then H8.out hb)
            clear hb
            rw [← HXX.out] at mr vr ⊢
            dsimp only at mr vr ⊢
            have MR := hid mr; have VR := hid vr
            have FA := hid (show FarM n1 A9 B9 _ from htr _ (by have := H8.out.size; have := hpre.out; have := hpl10.out; have := hpl11.out; have := hlo10.out; have := PW.out.lt; have := hlo11.out; have := PR.out.lt; omega) (fun _ => ⟨fun a ha => OM6.out.oa.ne_blk PW.out tm1 a ha, fun a ha => OM6.out.ob.ne_blk PW.out tm2 a ha⟩))
            have FB := hid (show FarM n1 A9 B9 _ from htr _ (by have := H8.out.size; have := hpre.out; have := hpl10.out; have := hpl11.out; have := hlo10.out; have := PW.out.lt; have := hlo11.out; have := PR.out.lt; omega) (fun _ => ⟨fun a ha => OM6.out.oa.ne_blk PR.out ts1 a ha, fun a ha => OM6.out.ob.ne_blk PR.out ts2 a ha⟩))
            clear mr vr htr
            go_wp2_with fail
            clear hpre hpl10 hpl11
            refine hK.out _ _ (hKP.out _ H8.out) (fun hS' => ?_)
            clear hK K hS
            have hS := hS'
            clear hS'
            (try simp only [Act.put, List.setIfInBounds_toArray, List.set_cons_zero, List.set_cons_succ])
            refine tk1 (i := 7) (v := ?_) (hy := Or.inl ⟨by rfl, ?_⟩) (hS := hS) (h := ?_)
            rotate_left
            · intro w' hSw; (try dsimp only at hSw); go_split_ands; go_simp; (try with_reducible rfl)
            (try simp only [Act.put, List.setIfInBounds_toArray, List.set_cons_zero, List.set_cons_succ])
            refine tk1 (i := 8) (v := ?_) (hy := Or.inl ⟨by rfl, ?_⟩) (hS := hS) (h := ?_)
            rotate_left
            · intro w' hSw; (try dsimp only at hSw); go_split_ands; go_simp; (try with_reducible rfl)
            (try simp only [Act.put, List.setIfInBounds_toArray, List.set_cons_zero, List.set_cons_succ])
            refine tk1 (i := 9) (v := ?_) (hy := Or.inl ⟨by rfl, ?_⟩) (hS := hS) (h := ?_)
            rotate_left
            · intro w' hSw; (try dsimp only at hSw); go_split_ands; go_simp; (try with_reducible rfl)
            (try simp only [Act.put, List.setIfInBounds_toArray, List.set_cons_zero, List.set_cons_succ])
            revert hS; revert hlo11; revert hlo10; revert FB; revert FA; revert H8; revert VR; revert PW; revert PR; revert OV6; revert OV; revert OQ; revert OM6; revert OM; revert OL; revert OA; revert MR; revert ga11; revert ga10; revert vc9; revert vn9; revert V9; revert d9; revert B9; revert c9; revert A9; revert vc6; revert V6; revert d6; revert B6; revert c6; revert A6; revert ws6
            exact K0.out
           exact AllReadyH.nil
          ·skip
           intro Wm A6 c6 B6 d6 V6 vc6 A9 c9 B9 d9 V9 vn9 vc9 ga11 MR OA OL OM OM6 OQ OV OV6 PR VR H8 FB hlo11 hS
           refine rd1 (rs := [10]) (h := ?_)
           refine cs1 (h := fun K hK => ?_) (hs := ?_)
           ·skip
            have hpre := hid (show W8.heap.size ≤ Wm.heap.size from H8.out.size)
            go_simp
            refine named_alloc ?_
            intro Wa10 hbk hb hsz
            have FA := hid (show FarM n1 A9 B9 Wm.heap.size from MR.out.far (Nat.le_refl _))
            replace MR := hid (MR.out.step hb); replace OA := hid (OA.out.step hb); replace OL := hid (OL.out.step hb); replace OM := hid (OM.out.step hb); replace OM6 := hid (OM6.out.step hb); replace OQ := hid (OQ.out.step hb); replace OV := hid (OV.out.step hb); replace OV6 := hid (OV6.out.step hb); replace PR := hid (PR.out.step hb); replace VR := hid (VR.out.step hb); replace H8 := hid (below_then H8.out hb)
            obtain ⟨ga10, hga⟩ : ∃ g, g = Wm.heap.size := ⟨_, rfl⟩
            rw [← hga] at hbk ⊢
            rw [← hga] at FA
            have hlo10 := hid (show W8.heap.size ≤ ga10 by have := hpre.out; omega)
            have PW := hid hbk
            clear hb hbk hsz hga hpre
            refine hK.out _ _ (hKP.out _ H8.out) (fun hS' => ?_)
            clear hK K hS
            have hS := hS'
            clear hS'
            (try simp only [Act.put, List.setIfInBounds_toArray, List.set_cons_zero, List.set_cons_succ])
            revert hS; revert hlo11; revert hlo10; revert FB; revert FA; revert H8; revert VR; revert PW; revert PR; revert OV6; revert OV; revert OQ; revert OM6; revert OM; revert OL; revert OA; revert MR; revert ga11; revert ga10; revert vc9; revert vn9; revert V9; revert d9; revert B9; revert c9; revert A9; revert vc6; revert V6; revert d6; revert B6; revert c6; revert A6; revert Wa10
            exact K0.out
           exact AllReadyH.nil
          ·skip
           intro Wm A6 c6 B6 d6 V6 vc6 A9 c9 B9 d9 V9 vn9 vc9 ga10 MR OA OL OM OM6 OQ OV OV6 PW VR H8 FA hlo10 hS
           refine rd1 (rs := [11]) (h := ?_)
           refine cs1 (h := fun K hK => ?_) (hs := ?_)
           ·skip
            have hpre := hid (show W8.heap.size ≤ Wm.heap.size from H8.out.size)
            go_simp
            refine named_alloc ?_
            intro Wa11 hbk hb hsz
            have FB := hid (show FarM n1 A9 B9 Wm.heap.size from MR.out.far (Nat.le_refl _))
            replace MR := hid (MR.out.step hb); replace OA := hid (OA.out.step hb); replace OL := hid (OL.out.step hb); replace OM := hid (OM.out.step hb); replace OM6 := hid (OM6.out.step hb); replace OQ := hid (OQ.out.step hb); replace OV := hid (OV.out.step hb); replace OV6 := hid (OV6.out.step hb); replace PW := hid (PW.out.step hb); replace VR := hid (VR.out.step hb); replace H8 := hid (below_then H8.out hb)
            obtain ⟨ga11, hga⟩ : ∃ g, g = Wm.heap.size := ⟨_, rfl⟩
            rw [← hga] at hbk ⊢
            rw [← hga] at FB
            have hlo11 := hid (show W8.heap.size ≤ ga11 by have := hpre.out; omega)
            have PR := hid hbk
            clear hb hbk hsz hga hpre
            refine hK.out _ _ (hKP.out _ H8.out) (fun hS' => ?_)
            clear hK K hS
            have hS := hS'
            clear hS'
            (try simp only [Act.put, List.setIfInBounds_toArray, List.set_cons_zero, List.set_cons_succ])
            revert hS; revert hlo11; revert hlo10; revert FB; revert FA; revert H8; revert VR; revert PW; revert PR; revert OV6; revert OV; revert OQ; revert OM6; revert OM; revert OL; revert OA; revert MR; revert ga11; revert ga10; revert vc9; revert vn9; revert V9; revert d9; revert B9; revert c9; revert A9; revert vc6; revert V6; revert d6; revert B6; revert c6; revert A6; revert Wa11
            exact K0.out
           exact AllReadyH.nil
          ·skip
           intro Wm A6 c6 B6 d6 V6 vc6 A9 c9 B9 d9 V9 vn9 vc9 ga10 ga11 MR OA OL OM OM6 OQ OV OV6 PR PW VR H8 FA FB hlo10 hlo11 hS
           refine rd1 (rs := [12]) (h := ?_)
           refine cs1 (h := fun K hK => ?_) (hs := ?_)
           ·skip
            have hpre := hid (show W8.heap.size ≤ Wm.heap.size from H8.out.size)
            obtain ⟨y00, y01, y02, yf0⟩ := PW.out.cells3
            go_simp
            clear y00 y01 y02 yf0
            refine named_store3 PW.out ?_
            intro Ws12 hbk hgr hsz
            clear hsz
            replace PR := hid (PR.out.grown hgr (fun e => PW.out.ne PR.out (by decide) (by simpa using e.symm)))
            replace MR := hid (mem_kept MR.out FA.out hgr)
            replace VR := hid (VR.out.kept PW.out tm1 (Nat.zero_le _) hgr)
            replace H8 := hid (H8.out.grown hgr H8.out.size (fun r e => by cases e; have := H8.out.size; have := hlo10.out; have := PW.out.lt; have := hlo11.out; have := PR.out.lt; omega))
            replace PW := hid hbk
            clear hbk hgr hpre
            refine hK.out _ _ (hKP.out _ H8.out) (fun hS' => ?_)
            clear hK K hS
            have hS := hS'
            clear hS'
            (try simp only [Act.put, List.setIfInBounds_toArray, List.set_cons_zero, List.set_cons_succ])
            refine rd1 (rs := [13]) (h := ?_)
            refine cs1 (h := fun K hK => ?_) (hs := ?_)
            ·skip
             have hpre := hid (show W8.heap.size ≤ Ws12.heap.size from H8.out.size)
             obtain ⟨y00, y01, y02, y03, y04, y05, y06, yf0⟩ := PR.out.cells7
             go_simp
             clear y00 y01 y02 y03 y04 y05 y06 yf0
             refine named_store_7_7_0 PR.out ?_
             intro Ws13 hbk hgr hsz
             clear hsz
             replace PW := hid (PW.out.grown hgr (fun e => PW.out.ne PR.out (by decide) (by simpa using e)))
             replace MR := hid (mem_kept MR.out FB.out hgr)
             replace VR := hid (VR.out.kept PR.out ts1 (Nat.zero_le _) hgr)
             replace H8 := hid (H8.out.grown hgr H8.out.size (fun r e => by cases e; have := H8.out.size; have := hlo10.out; have := PW.out.lt; have := hlo11.out; have := PR.out.lt; omega))
             replace PR := hid hbk
             clear hbk hgr hpre
             refine hK.out _ _ (hKP.out _ H8.out) (fun hS' => ?_)
             clear hK K hS
             have hS := hS'
             clear hS'
             (try simp only [Act.put, List.setIfInBounds_toArray, List.set_cons_zero, List.set_cons_succ])
             refine wpAnyH_done (by kernel_rfl) ?_ _
             refine NoPanic.normal ?_
             clear hS
             go_wp2_with fail
             go_meet
             exact ⟨_, _, rfl, rfl, ⟨⟨_, _, _, _, _, _, _, _, PW.out, MR.out, PR.out, VR.out.sl⟩, H8.out⟩⟩
            exact AllReadyH.nil
           exact AllReadyH.nil
      case rest =>
        obtain ⟨ga, gb, rfl, rfl, hI⟩ := hcut
        rename World => W9
        obtain ⟨⟨A4, n4, c4, B4, d4, V4, vn4, vc4, h1, h2, h3, h4⟩, hb⟩ := hI
        have PA := hid h1; have MR := hid h2; have PB := hid h3; have VR := hid h4
        replace P7 := hid (XP7.out.step hb); replace OM := hid (XOM.out.step hb); replace P8 := hid (XP8.out.step hb); replace OV := hid (XOV.out.step hb); replace OL := hid (XOL.out.step hb); replace OA := hid (XOA.out.step hb); replace PC := hid (XPC.out.step hb); replace OM3 := hid (XOM3.out.step hb); replace OV3 := hid (XOV3.out.step hb); replace PN := hid (XPN.out.step hb); replace PT := hid (XPT.out.step hb)
        replace HB := hid (below_then XHB.out hb)
        clear h1 h2 h3 h4 hb H8 XP7 XOM XP8 XOV XOL XOA XPC XOM3 XOV3 XPN XPT XOQ XHB
        have hvn3 := hid (show vn3 ≤ 16 by rw [← OV3.out.len]; exact hs16.out)
        go_upto_region 19 with fail
        have hblk := hid (show W6.heap.size = W6.heap.size from rfl)
        have H9 := hid (Below.refl W9.heap.size W9)
        go_cut [128] (fun sx wx => sx = .bool false ∧ Below W9.heap.size W9 wx)
        case first =>
          as_aux_lemma =>
            have bx := (Below.refl W9.heap.size W9).drew
            replace P7 := hid (P7.out.step bx); replace OM := hid (OM.out.step bx); replace PC := hid (PC.out.step bx); replace OL := hid (OL.out.step bx); replace OA := hid (OA.out.step bx); replace OM3 := hid (OM3.out.step bx); replace OV3 := hid (OV3.out.step bx); replace PN := hid (PN.out.step bx); replace PT := hid (PT.out.step bx); replace PA := hid (PA.out.step bx); replace PB := hid (PB.out.step bx); replace MR := hid (MR.out.step bx); replace VR := hid (VR.out.step bx); replace HB := hid (below_then HB.out bx); replace H9 := hid (below_then H9.out bx)
            clear bx
            have hszd := hid (show W9.drew.heap.size = W9.heap.size from rfl)
            refine wp_region_noPanic ?_
            refine wp_region_held_drew (S := (fun W' : World => W'.cell? ⟨W6.heap.size, 0, none⟩ = some (.slice A3 n3 c3) ∧ W'.cell? ⟨W6.heap.size, 1, none⟩ = some (.slice B3 k3 d3) ∧ W'.cell? ⟨W6.heap.size, 2, none⟩ = some (.bool m2.2.2) ∧ W'.cell? ⟨(W6.heap.size + 1), 0, none⟩ = some (.int .i64 s2.a) ∧ W'.cell? ⟨(W6.heap.size + 1), 1, none⟩ = some (.int .i64 s2.f) ∧ W'.cell? ⟨(W6.heap.size + 1), 2, none⟩ = some (.int .i64 s2.m) ∧ W'.cell? ⟨(W6.heap.size + 1), 3, none⟩ = some (.int .i64 s2.ph) ∧ W'.cell? ⟨(W6.heap.size + 1), 4, none⟩ = some (.int .u64 s2.bg) ∧ W'.cell? ⟨(W6.heap.size + 1), 5, none⟩ = some (.slice V3 vn3 vc3) ∧ W'.cell? ⟨(W6.heap.size + 1), 6, none⟩ = some (.int .i64 s2.tr) ∧ W'.cell? ⟨ga, 0, none⟩ = some (.slice A4 n4 c4) ∧ W'.cell? ⟨ga, 1, none⟩ = some (.slice B4 n4 d4) ∧ W'.cell? ⟨ga, 2, none⟩ = some (.bool m2.2.2) ∧ W'.cell? ⟨gb, 0, none⟩ = some (.int .i64 s2.a) ∧ W'.cell? ⟨gb, 1, none⟩ = some (.int .i64 s2.f) ∧ W'.cell? ⟨gb, 2, none⟩ = some (.int .i64 s2.m) ∧ W'.cell? ⟨gb, 3, none⟩ = some (.int .i64 s2.ph) ∧ W'.cell? ⟨gb, 4, none⟩ = some (.int .u64 s2.bg) ∧ W'.cell? ⟨gb, 5, none⟩ = some (.slice V4 vn4 vc4) ∧ W'.cell? ⟨gb, 6, none⟩ = some (.int .i64 s2.tr) ∧ W'.cell? ⟨g7, 0, none⟩ = some (.slice A1 n1 c1) ∧ W'.cell? ⟨g7, 1, none⟩ = some (.slice B1 k1 d1) ∧ W'.cell? ⟨g7, 2, none⟩ = some (.bool mm.2.2) ∧ W'.cell? ⟨w.heap.size, 0, none⟩ = some (.slice A n c) ∧ W'.cell? ⟨w.heap.size, 1, none⟩ = some (.slice B k d) ∧ W'.cell? ⟨w.heap.size, 2, none⟩ = some (.bool f))) (by kernel_rfl) ⟨PN.out.cells3.1, PN.out.cells3.2.1, PN.out.cells3.2.2.1, PT.out.cells7.1, PT.out.cells7.2.1, PT.out.cells7.2.2.1, PT.out.cells7.2.2.2.1, PT.out.cells7.2.2.2.2.1, PT.out.cells7.2.2.2.2.2.1, PT.out.cells7.2.2.2.2.2.2.1, PA.out.cells3.1, PA.out.cells3.2.1, PA.out.cells3.2.2.1, PB.out.cells7.1, PB.out.cells7.2.1, PB.out.cells7.2.2.1, PB.out.cells7.2.2.2.1, PB.out.cells7.2.2.2.2.1, PB.out.cells7.2.2.2.2.2.1, PB.out.cells7.2.2.2.2.2.2.1, P7.out.cells3.1, P7.out.cells3.2.1, P7.out.cells3.2.2.1, PC.out.cells11.1, PC.out.cells11.2.1, PC.out.cells11.2.2.1⟩ (fun hS => ?_)
            generalize W9.drew = Wd at *
            refine wpAnyH_take (i := 0) (v := ?_) (by simp only [List.getElem?_toArray, List.getElem?_cons_succ, List.getElem?_cons_zero]; rfl) (by kernel_rfl) (by kernel_rfl) (by kernel_rfl) (fun _ _ _ h => h) (Or.inl ⟨by rfl, ?_⟩) hS ?_
            rotate_left
            · intro w' hSw; (try dsimp only at hSw); go_split_ands; go_simp; (try with_reducible rfl)
            (try simp only [Act.put, List.setIfInBounds_toArray, List.set_cons_zero, List.set_cons_succ])
            refine wpAnyH_take (i := 1) (v := ?_) (by simp only [List.getElem?_toArray, List.getElem?_cons_succ, List.getElem?_cons_zero]; rfl) (by kernel_rfl) (by kernel_rfl) (by kernel_rfl) (fun _ _ _ h => h) (Or.inl ⟨by rfl, ?_⟩) hS ?_
            rotate_left
            · intro w' hSw; (try dsimp only at hSw); go_split_ands; go_simp; (try with_reducible rfl)
            (try simp only [Act.put, List.setIfInBounds_toArray, List.set_cons_zero, List.set_cons_succ])
            refine wpAnyH_take (i := 2) (v := ?_) (by simp only [List.getElem?_toArray, List.getElem?_cons_succ, List.getElem?_cons_zero]; rfl) (by kernel_rfl) (by kernel_rfl) (by kernel_rfl) (fun _ _ _ h => h) (Or.inl ⟨by rfl, ?_⟩) hS ?_
            rotate_left
            · intro w' hSw; (try dsimp only at hSw); go_split_ands; go_simp; (try with_reducible rfl)
            (try simp only [Act.put, List.setIfInBounds_toArray, List.set_cons_zero, List.set_cons_succ])
            refine wpAnyH_take (i := 3) (v := ?_) (by simp only [List.getElem?_toArray, List.getElem?_cons_succ, List.getElem?_cons_zero]; rfl) (by kernel_rfl) (by kernel_rfl) (by kernel_rfl) (fun _ _ _ h => h) (Or.inl ⟨by rfl, ?_⟩) hS ?_
            rotate_left
            · intro w' hSw; (try dsimp only at hSw); go_split_ands; go_simp; (try with_reducible rfl)
            (try simp only [Act.put, List.setIfInBounds_toArray, List.set_cons_zero, List.set_cons_succ])
            refine wpAnyH_take (i := 4) (v := ?_) (by simp only [List.getElem?_toArray, List.getElem?_cons_succ, List.getElem?_cons_zero]; rfl) (by kernel_rfl) (by kernel_rfl) (by kernel_rfl) (fun _ _ _ h => h) (Or.inl ⟨by rfl, ?_⟩) hS ?_
            rotate_left
            · intro w' hSw; (try dsimp only at hSw); go_split_ands; go_simp; (try with_reducible rfl)
            (try simp only [Act.put, List.setIfInBounds_toArray, List.set_cons_zero, List.set_cons_succ])
            refine wpAnyH_ready (rs := [5]) (by kernel_rfl) (by simp) ?_
            refine AllReadyH.cons (by simp only [List.getElem?_toArray, List.getElem?_cons_succ, List.getElem?_cons_zero]; rfl) (fun K hK => ?_) ?_
            · skip
              go_simp
              refine (rmsame_any A3 n3 c3 B3 k3 d3 m2.2.2 m2.1 m2.2.1 A4 n4 c4 B4 n4 d4 m2.2.2 m2.1 m2.2.1 _ OM3.out.mem MR.out).mono ?_
              rintro e ws5 ⟨rfl, hb⟩
              have hsz0 := hid (show Wd.heap.size ≤ ws5.heap.size from hb.size)
              replace P7 := hid (P7.out.step hb); replace OM := hid (OM.out.step hb); replace PC := hid (PC.out.step hb); replace OL := hid (OL.out.step hb); replace OA := hid (OA.out.step hb); replace OM3 := hid (OM3.out.step hb); replace OV3 := hid (OV3.out.step hb); replace PN := hid (PN.out.step hb); replace PT := hid (PT.out.step hb); replace PA := hid (PA.out.step hb); replace PB := hid (PB.out.step hb); replace MR := hid (MR.out.step hb); replace VR := hid (VR.out.step hb); replace HB := hid (below_then HB.out hb); replace H9 := hid (below_then H9.out hb)
              clear hb
              rw [show sameM (m2.1, m2.2.1, m2.2.2) (m2.1, m2.2.1, m2.2.2) = true from decide_eq_true ⟨rfl, rfl, rfl⟩]
              go_wp2_with fail
              refine hK.out _ _ ⟨PN.out.cells3.1, PN.out.cells3.2.1, PN.out.cells3.2.2.1, PT.out.cells7.1, PT.out.cells7.2.1, PT.out.cells7.2.2.1, PT.out.cells7.2.2.2.1, PT.out.cells7.2.2.2.2.1, PT.out.cells7.2.2.2.2.2.1, PT.out.cells7.2.2.2.2.2.2.1, PA.out.cells3.1, PA.out.cells3.2.1, PA.out.cells3.2.2.1, PB.out.cells7.1, PB.out.cells7.2.1, PB.out.cells7.2.2.1, PB.out.cells7.2.2.2.1, PB.out.cells7.2.2.2.2.1, PB.out.cells7.2.2.2.2.2.1, PB.out.cells7.2.2.2.2.2.2.1, P7.out.cells3.1, P7.out.cells3.2.1, P7.out.cells3.2.2.1, PC.out.cells11.1, PC.out.cells11.2.1, PC.out.cells11.2.2.1⟩ (fun hS' => ?_)
              clear hK K hS
              have hS := hS'
              clear hS'
              (try simp only [Act.put, List.setIfInBounds_toArray, List.set_cons_zero, List.set_cons_succ])
              refine wpAnyH_take (i := 6) (v := ?_) (by simp only [List.getElem?_toArray, List.getElem?_cons_succ, List.getElem?_cons_zero]; rfl) (by kernel_rfl) (by kernel_rfl) (by kernel_rfl) (fun _ _ _ h => h) (Or.inl ⟨by rfl, ?_⟩) hS ?_
              rotate_left
              · intro w' hSw; (try dsimp only at hSw); go_split_ands; go_simp; (try with_reducible rfl)
              (try simp only [Act.put, List.setIfInBounds_toArray, List.set_cons_zero, List.set_cons_succ])
              refine wpAnyH_take (i := 7) (v := ?_) (by simp only [List.getElem?_toArray, List.getElem?_cons_succ, List.getElem?_cons_zero]; rfl) (by kernel_rfl) (by kernel_rfl) (by kernel_rfl) (fun _ _ _ h => h) (Or.inl ⟨by rfl, ?_⟩) hS ?_
              rotate_left
              · intro w' hSw; (try dsimp only at hSw); go_split_ands; go_simp; (try with_reducible rfl)
              (try simp only [Act.put, List.setIfInBounds_toArray, List.set_cons_zero, List.set_cons_succ])
              refine wpAnyH_take (i := 8) (v := ?_) (by simp only [List.getElem?_toArray, List.getElem?_cons_succ, List.getElem?_cons_zero]; rfl) (by kernel_rfl) (by kernel_rfl) (by kernel_rfl) (fun _ _ _ h => h) (Or.inl ⟨by rfl, ?_⟩) hS ?_
              rotate_left
              · intro w' hSw; (try dsimp only at hSw); go_split_ands; go_simp; (try with_reducible rfl)
              (try simp only [Act.put, List.setIfInBounds_toArray, List.set_cons_zero, List.set_cons_succ])
              refine wpAnyH_take (i := 9) (v := ?_) (by simp only [List.getElem?_toArray, List.getElem?_cons_succ, List.getElem?_cons_zero]; rfl) (by kernel_rfl) (by kernel_rfl) (by kernel_rfl) (fun _ _ _ h => h) (Or.inl ⟨by rfl, ?_⟩) hS ?_
              rotate_left
              · intro w' hSw; (try dsimp only at hSw); go_split_ands; go_simp; (try with_reducible rfl)
              (try simp only [Act.put, List.setIfInBounds_toArray, List.set_cons_zero, List.set_cons_succ])
              refine wpAnyH_take (i := 10) (v := ?_) (by simp only [List.getElem?_toArray, List.getElem?_cons_succ, List.getElem?_cons_zero]; rfl) (by kernel_rfl) (by kernel_rfl) (by kernel_rfl) (fun _ _ _ h => h) (Or.inl ⟨by rfl, ?_⟩) hS ?_
              rotate_left
              · intro w' hSw; (try dsimp only at hSw); go_split_ands; go_simp; (try with_reducible rfl)
              (try simp only [Act.put, List.setIfInBounds_toArray, List.set_cons_zero, List.set_cons_succ])
              refine wpAnyH_ready (rs := [11]) (by kernel_rfl) (by simp) ?_
              refine AllReadyH.cons (by simp only [List.getElem?_toArray, List.getElem?_cons_succ, List.getElem?_cons_zero]; rfl) (fun K hK => ?_) ?_
              · skip
                go_simp
                refine (sameread_any s2 s2 V3 vn3 vc3 V4 vn4 vc4 _ (OV3.out.sl.mono (Nat.zero_le _) (Nat.le_refl _)) VR.out (by have := hvn3.out; omega)).mono ?_
                rintro e ws11 ⟨rfl, hb⟩
                have hsz1 := hid (show ws5.heap.size ≤ ws11.heap.size from hb.size)
                replace P7 := hid (P7.out.step hb); replace OM := hid (OM.out.step hb); replace PC := hid (PC.out.step hb); replace OL := hid (OL.out.step hb); replace OA := hid (OA.out.step hb); replace OM3 := hid (OM3.out.step hb); replace OV3 := hid (OV3.out.step hb); replace PN := hid (PN.out.step hb); replace PT := hid (PT.out.step hb); replace PA := hid (PA.out.step hb); replace PB := hid (PB.out.step hb); replace MR := hid (MR.out.step hb); replace VR := hid (VR.out.step hb); replace HB := hid (below_then HB.out hb); replace H9 := hid (below_then H9.out hb)
                clear hb
                rw [decide_eq_true rfl]
                go_wp2_with fail
                refine hK.out _ _ ⟨PN.out.cells3.1, PN.out.cells3.2.1, PN.out.cells3.2.2.1, PT.out.cells7.1, PT.out.cells7.2.1, PT.out.cells7.2.2.1, PT.out.cells7.2.2.2.1, PT.out.cells7.2.2.2.2.1, PT.out.cells7.2.2.2.2.2.1, PT.out.cells7.2.2.2.2.2.2.1, PA.out.cells3.1, PA.out.cells3.2.1, PA.out.cells3.2.2.1, PB.out.cells7.1, PB.out.cells7.2.1, PB.out.cells7.2.2.1, PB.out.cells7.2.2.2.1, PB.out.cells7.2.2.2.2.1, PB.out.cells7.2.2.2.2.2.1, PB.out.cells7.2.2.2.2.2.2.1, P7.out.cells3.1, P7.out.cells3.2.1, P7.out.cells3.2.2.1, PC.out.cells11.1, PC.out.cells11.2.1, PC.out.cells11.2.2.1⟩ (fun hS' => ?_)
                clear hK K hS
                have hS := hS'
                clear hS'
                (try simp only [Act.put, List.setIfInBounds_toArray, List.set_cons_zero, List.set_cons_succ])
                refine wpAnyH_take (i := 12) (v := ?_) (by simp only [List.getElem?_toArray, List.getElem?_cons_succ, List.getElem?_cons_zero]; rfl) (by kernel_rfl) (by kernel_rfl) (by kernel_rfl) (fun _ _ _ h => h) (Or.inl ⟨by rfl, ?_⟩) hS ?_
                rotate_left
                · intro w' hSw; (try dsimp only at hSw); go_split_ands; go_simp; (try with_reducible rfl)
                (try simp only [Act.put, List.setIfInBounds_toArray, List.set_cons_zero, List.set_cons_succ])
                refine wpAnyH_take (i := 13) (v := ?_) (by simp only [List.getElem?_toArray, List.getElem?_cons_succ, List.getElem?_cons_zero]; rfl) (by kernel_rfl) (by kernel_rfl) (by kernel_rfl) (fun _ _ _ h => h) (Or.inl ⟨by rfl, ?_⟩) hS ?_
                rotate_left
                · intro w' hSw; (try dsimp only at hSw); go_split_ands; go_simp; (try with_reducible rfl)
                (try simp only [Act.put, List.setIfInBounds_toArray, List.set_cons_zero, List.set_cons_succ])
                refine wpAnyH_take (i := 14) (v := ?_) (by simp only [List.getElem?_toArray, List.getElem?_cons_succ, List.getElem?_cons_zero]; rfl) (by kernel_rfl) (by kernel_rfl) (by kernel_rfl) (fun _ _ _ h => h) (Or.inl ⟨by rfl, ?_⟩) hS ?_
                rotate_left
                · intro w' hSw; (try dsimp only at hSw); go_split_ands; go_simp; (try with_reducible rfl)
                (try simp only [Act.put, List.setIfInBounds_toArray, List.set_cons_zero, List.set_cons_succ])
                refine wpAnyH_take (i := 15) (v := ?_) (by simp only [List.getElem?_toArray, List.getElem?_cons_succ, List.getElem?_cons_zero]; rfl) (by kernel_rfl) (by kernel_rfl) (by kernel_rfl) (fun _ _ _ h => h) (Or.inl ⟨by rfl, ?_⟩) hS ?_
                rotate_left
                · intro w' hSw; (try dsimp only at hSw); go_split_ands; go_simp; (try with_reducible rfl)
                (try simp only [Act.put, List.setIfInBounds_toArray, List.set_cons_zero, List.set_cons_succ])
                refine wpAnyH_take (i := 16) (v := ?_) (by simp only [List.getElem?_toArray, List.getElem?_cons_succ, List.getElem?_cons_zero]; rfl) (by kernel_rfl) (by kernel_rfl) (by kernel_rfl) (fun _ _ _ h => h) (Or.inl ⟨by rfl, ?_⟩) hS ?_
                rotate_left
                · intro w' hSw; (try dsimp only at hSw); go_split_ands; go_simp; (try with_reducible rfl)
                (try simp only [Act.put, List.setIfInBounds_toArray, List.set_cons_zero, List.set_cons_succ])
                refine wpAnyH_take (i := 17) (v := ?_) (by simp only [List.getElem?_toArray, List.getElem?_cons_succ, List.getElem?_cons_zero]; rfl) (by kernel_rfl) (by kernel_rfl) (by kernel_rfl) (fun _ _ _ h => h) (Or.inl ⟨by rfl, ?_⟩) hS ?_
                rotate_left
                · intro w' hSw; (try dsimp only at hSw); go_split_ands; go_simp; (try with_reducible rfl)
                (try simp only [Act.put, List.setIfInBounds_toArray, List.set_cons_zero, List.set_cons_succ])
                refine wpAnyH_ready (rs := [18]) (by kernel_rfl) (by simp) ?_
                refine AllReadyH.cons (by simp only [List.getElem?_toArray, List.getElem?_cons_succ, List.getElem?_cons_zero]; rfl) (fun K hK => ?_) ?_
                · skip
                  go_simp
                  refine (lawown_any A n c B k d f xs ys _ ((HX.out.below HB.out (Nat.le_refl _)).mono (Nat.le_refl _) HB.out.size) ((HY.out.below HB.out (Nat.le_refl _)).mono (Nat.le_refl _) HB.out.size) hnc hkd).mono ?_
                  rintro e ws18 ⟨A6, n6, c6, B6, k6, d6, rfl, om, hb⟩
                  have hsz2 := hid (show ws11.heap.size ≤ ws18.heap.size from hb.size)
                  replace P7 := hid (P7.out.step hb); replace OM := hid (OM.out.step hb); replace PC := hid (PC.out.step hb); replace OL := hid (OL.out.step hb); replace OA := hid (OA.out.step hb); replace OM3 := hid (OM3.out.step hb); replace OV3 := hid (OV3.out.step hb); replace PN := hid (PN.out.step hb); replace PT := hid (PT.out.step hb); replace PA := hid (PA.out.step hb); replace PB := hid (PB.out.step hb); replace MR := hid (MR.out.step hb); replace VR := hid (VR.out.step hb); replace HB := hid (below_then HB.out hb); replace H9 := hid (below_then H9.out hb)
                  clear hb
                  have OM6 := hid om
                  clear om
                  go_wp2_with fail
                  refine hK.out _ _ ⟨PN.out.cells3.1, PN.out.cells3.2.1, PN.out.cells3.2.2.1, PT.out.cells7.1, PT.out.cells7.2.1, PT.out.cells7.2.2.1, PT.out.cells7.2.2.2.1, PT.out.cells7.2.2.2.2.1, PT.out.cells7.2.2.2.2.2.1, PT.out.cells7.2.2.2.2.2.2.1, PA.out.cells3.1, PA.out.cells3.2.1, PA.out.cells3.2.2.1, PB.out.cells7.1, PB.out.cells7.2.1, PB.out.cells7.2.2.1, PB.out.cells7.2.2.2.1, PB.out.cells7.2.2.2.2.1, PB.out.cells7.2.2.2.2.2.1, PB.out.cells7.2.2.2.2.2.2.1, P7.out.cells3.1, P7.out.cells3.2.1, P7.out.cells3.2.2.1, PC.out.cells11.1, PC.out.cells11.2.1, PC.out.cells11.2.2.1⟩ (fun hS' => ?_)
                  clear hK K hS
                  have hS := hS'
                  clear hS'
                  (try simp only [Act.put, List.setIfInBounds_toArray, List.set_cons_zero, List.set_cons_succ])
                  refine wpAnyH_ready (rs := [19]) (by kernel_rfl) (by simp) ?_
                  refine AllReadyH.cons (by simp only [List.getElem?_toArray, List.getElem?_cons_succ, List.getElem?_cons_zero]; rfl) (fun K hK => ?_) ?_
                  · skip
                    go_simp
                    refine (rmsame_any A1 n1 c1 B1 k1 d1 mm.2.2 mm.1 mm.2.1 A6 n6 c6 B6 k6 d6 f (xs.take 48) (ys.take 48) _ OM.out.mem OM6.out.mem).mono ?_
                    rintro e ws19 ⟨rfl, hb⟩
                    have hsz3 := hid (show ws18.heap.size ≤ ws19.heap.size from hb.size)
                    replace P7 := hid (P7.out.step hb); replace OM := hid (OM.out.step hb); replace PC := hid (PC.out.step hb); replace OL := hid (OL.out.step hb); replace OA := hid (OA.out.step hb); replace OM3 := hid (OM3.out.step hb); replace OV3 := hid (OV3.out.step hb); replace PN := hid (PN.out.step hb); replace PT := hid (PT.out.step hb); replace PA := hid (PA.out.step hb); replace PB := hid (PB.out.step hb); replace MR := hid (MR.out.step hb); replace VR := hid (VR.out.step hb); replace OM6 := hid (OM6.out.step hb); replace HB := hid (below_then HB.out hb); replace H9 := hid (below_then H9.out hb)
                    clear hb
                    rw [show sameM (mm.1, mm.2.1, mm.2.2) (xs.take 48, ys.take 48, f) = true from by rw [HMM.out]; exact decide_eq_true ⟨rfl, rfl, rfl⟩]
                    go_wp2_with fail
                    refine hK.out _ _ ⟨PN.out.cells3.1, PN.out.cells3.2.1, PN.out.cells3.2.2.1, PT.out.cells7.1, PT.out.cells7.2.1, PT.out.cells7.2.2.1, PT.out.cells7.2.2.2.1, PT.out.cells7.2.2.2.2.1, PT.out.cells7.2.2.2.2.2.1, PT.out.cells7.2.2.2.2.2.2.1, PA.out.cells3.1, PA.out.cells3.2.1, PA.out.cells3.2.2.1, PB.out.cells7.1, PB.out.cells7.2.1, PB.out.cells7.2.2.1, PB.out.cells7.2.2.2.1, PB.out.cells7.2.2.2.2.1, PB.out.cells7.2.2.2.2.2.1, PB.out.cells7.2.2.2.2.2.2.1, P7.out.cells3.1, P7.out.cells3.2.1, P7.out.cells3.2.2.1, PC.out.cells11.1, PC.out.cells11.2.1, PC.out.cells11.2.2.1⟩ (fun hS' => ?_)
                    clear hK K hS
                    have hS := hS'
                    clear hS'
                    (try simp only [Act.put, List.setIfInBounds_toArray, List.set_cons_zero, List.set_cons_succ])
                    refine wpAnyH_take (i := 20) (v := ?_) (by simp only [List.getElem?_toArray, List.getElem?_cons_succ, List.getElem?_cons_zero]; rfl) (by kernel_rfl) (by kernel_rfl) (by kernel_rfl) (fun _ _ _ h => h) (Or.inl ⟨by rfl, ?_⟩) hS ?_
                    rotate_left
                    · intro w' hSw; (try dsimp only at hSw); go_split_ands; go_simp; (try with_reducible rfl)
                    (try simp only [Act.put, List.setIfInBounds_toArray, List.set_cons_zero, List.set_cons_succ])
                    refine wpAnyH_take (i := 21) (v := ?_) (by simp only [List.getElem?_toArray, List.getElem?_cons_succ, List.getElem?_cons_zero]; rfl) (by kernel_rfl) (by kernel_rfl) (by kernel_rfl) (fun _ _ _ h => h) (Or.inl ⟨by rfl, ?_⟩) hS ?_
                    rotate_left
                    · intro w' hSw; (try dsimp only at hSw); go_split_ands; go_simp; (try with_reducible rfl)
                    (try simp only [Act.put, List.setIfInBounds_toArray, List.set_cons_zero, List.set_cons_succ])
                    refine wpAnyH_done (by kernel_rfl) ?_ _
                    refine NoPanic.normal ?_
                    clear hS
                    go_wp2_with fail
                    go_meet
                    exact ⟨rfl, H9.out⟩
                  exact AllReadyH.nil
                exact AllReadyH.nil
              exact AllReadyH.nil
            exact AllReadyH.nil
        case rest =>
          obtain ⟨rfl, hb⟩ := hcut
          rename World => W10
          clear P7 OM P8 OV OM3 OV3 PN PT PA PB MR VR H9
          replace PC := hid (PC.out.step hb); replace OL := hid (OL.out.step hb); replace OA := hid (OA.out.step hb); replace HB := hid (below_then HB.out hb)
          clear hb
          go_wp2_with fail
          go_loopw [131] (fun i wr => ∃ j : Nat, j ≤ p4 ∧ i = .int .i64 j ∧ Below W10.heap.size W10 wr) (fun i _ => p4 - (intOf i).toNat)
          case atStart => exact ⟨0, Nat.zero_le _, rfl, Below.refl _ _⟩
          case round =>
            obtain ⟨j, hj, rfl, hbr⟩ := hrel
            by_cases hjn : j < p4
            rotate_left
            · obtain rfl : j = p4 := by omega
              have hnn : ¬ ((j : Int) < (j : Int)) := by omega
              go_wp2
              go_ret
              exact ⟨rfl, below_then HB.out hbr⟩
            have hji : (j : Int) < (p4 : Int) := by omega
            have hjl : (j : Int) < (nl : Int) := by omega
            have hw1 : IntKind.i64.wrap ((j : Int) + 1) = (j : Int) + 1 := by rw [IntKind.wrap_i64]; omega
            have HBR := hid hbr; have PC2 := hid (PC.out.step hbr); have OL2 := hid (OL.out.step hbr); have HB2 := hid (below_then HB.out hbr); have OA2 := hid (OA.out.step hbr)
            clear hbr PC OL HB OA
            obtain ⟨b, off, rfl, _, hbh, hc⟩ := XL.out.row (by omega)
            obtain ⟨⟨s, Vx, vnx, vcx⟩, hx⟩ : ∃ x, x = e4[j]?.getD zWe := ⟨_, rfl⟩
            have hwx := HW4.out (e4[j]?.getD zWe) (by rw [List.getElem?_eq_getElem (by rw [hl4.out]; exact hjn)]; exact List.getElem_mem _)
            rw [← hx] at hwx
            have hc' := hc j hjn
            rw [← hx] at hc'
            have HC6 := hid hc'; have HWX := hid hwx.1
            obtain ⟨_, hvcx, _⟩ := hwx
            dsimp only at hvcx
            have hbh' := hid hbh
            obtain ⟨⟨t, Vt, nt, ct⟩, ht⟩ : ∃ x, x = el[j]?.getD zWe := ⟨_, rfl⟩
            have HTX := hid ht
            have hel := OL2.out.len
            have hnt := hid (show nt ≤ 18 by have h := HE18.out (el[j]?.getD zWe) (by rw [List.getElem?_eq_getElem (by rw [hel]; exact hjn)]; exact List.getElem_mem _); rw [← ht] at h; exact h)
            have htc := hid (show t = cutW s by
              have e := congrArg (fun l => l[j]?) HEM.out
              simp only [List.getElem?_map] at e
              rw [List.getElem?_eq_getElem (show j < el.length by rw [hel]; exact hjn)] at e ht
              rw [List.getElem?_eq_getElem (show j < e4.length by rw [hl4.out]; exact hjn)] at e hx
              simp only [Option.map_some, Option.some.injEq, Option.getD_some] at e ht hx
              rw [← ht, ← hx] at e
              exact e)
            obtain ⟨gl, rfl, hgl1, hgl2, hc9, hf9⟩ := OL2.out.at_ zWe hjn
            clear hc9 hf9
            have VT := hid (show Ow u64v wr w1.heap.size 27 Vt nt ct t.vs by have h := OA2.out _ (List.mem_map.2 ⟨el[j]?.getD zWe, (by rw [List.getElem?_eq_getElem (by rw [hel]; exact hjn)]; exact List.getElem_mem _), rfl⟩); rw [← ht] at h; exact h)
            clear hc hc' hx hbh ht hel OA2
            obtain ⟨f0, f1, f2, f3, f4, f5, ff⟩ := row6 OL2.out hjn HTX.out
            have bx := below_box wr (.cells (wrc t.a t.f Vt nt ct t.ph t.bg t.wr) 34)
            replace PC2 := hid (PC2.out.step bx); replace OL2 := hid (OL2.out.step bx); replace VT := hid (VT.out.step bx); replace HB2 := hid (below_then HB2.out bx); replace HBR := hid (below_then HBR.out bx)
            clear bx
            have PW := hid (Blk.new wr 34 (wrc t.a t.f Vt nt ct t.ph t.bg t.wr))
            go_wp2_with fail
            clear f0 f1 f2 f3 f4 f5 ff
            have hz11 := hid (show (wr.alloc (.cells (wrc t.a t.f Vt nt ct t.ph t.bg t.wr) 34)).heap.size = wr.heap.size + 1 by simp)
            generalize wr.alloc (.cells (wrc t.a t.f Vt nt ct t.ph t.bg t.wr) 34) = W11 at *
            have bx := (Below.refl W11.heap.size W11).drew
            replace PC2 := hid (PC2.out.step bx); replace OL2 := hid (OL2.out.step bx); replace VT := hid (VT.out.step bx); replace PW := hid (PW.out.step bx); replace HB2 := hid (below_then HB2.out bx); replace HBR := hid (below_then HBR.out bx)
            clear bx
            have hszd := hid (show W11.drew.heap.size = W11.heap.size from rfl)
            refine wp_region_noPanic ?_
            refine wp_region_held_drew (S := (fun W' : World => W'.cell? ⟨wr.heap.size, 0, none⟩ = some (.int .i64 t.a) ∧ W'.cell? ⟨wr.heap.size, 1, none⟩ = some (.int .i64 t.f) ∧ W'.cell? ⟨wr.heap.size, 2, none⟩ = some (.slice Vt nt ct) ∧ W'.cell? ⟨wr.heap.size, 3, none⟩ = some (.int .i64 t.ph) ∧ W'.cell? ⟨wr.heap.size, 4, none⟩ = some (.int .u64 t.bg) ∧ W'.cell? ⟨wr.heap.size, 5, none⟩ = some (.int .i64 t.wr) ∧ W'.cell? ⟨w.heap.size, 10, none⟩ = some (.slice (some ⟨b, off, none⟩) nl cl) ∧ W'.cell? ⟨b, off + j * 6, none⟩ = some (.int .i64 s.a) ∧ W'.cell? ⟨b, off + j * 6 + 1, none⟩ = some (.int .i64 s.f) ∧ W'.cell? ⟨b, off + j * 6 + 2, none⟩ = some (.slice Vx vnx vcx) ∧ W'.cell? ⟨b, off + j * 6 + 3, none⟩ = some (.int .i64 s.ph) ∧ W'.cell? ⟨b, off + j * 6 + 4, none⟩ = some (.int .u64 s.bg) ∧ W'.cell? ⟨b, off + j * 6 + 5, none⟩ = some (.int .i64 s.wr))) (by kernel_rfl) ⟨PW.out.cells6.1, PW.out.cells6.2.1, PW.out.cells6.2.2.1, PW.out.cells6.2.2.2.1, PW.out.cells6.2.2.2.2.1, PW.out.cells6.2.2.2.2.2.1, PC2.out.cells11.2.2.2.2.2.2.2.2.2.2.1, (cell_old0 HB2.out hbh'.out HC6.out), (cell_old (i := 1) HB2.out hbh'.out HC6.out (by omega)), (cell_old (i := 2) HB2.out hbh'.out HC6.out (by omega)), (cell_old (i := 3) HB2.out hbh'.out HC6.out (by omega)), (cell_old (i := 4) HB2.out hbh'.out HC6.out (by omega)), (cell_old (i := 5) HB2.out hbh'.out HC6.out (by omega))⟩ (fun hS => ?_)
            generalize W11.drew = Wd at *
            refine wpAnyH_take (i := 0) (v := ?_) (by simp only [List.getElem?_toArray, List.getElem?_cons_succ, List.getElem?_cons_zero]; rfl) (by kernel_rfl) (by kernel_rfl) (by kernel_rfl) (fun _ _ _ h => h) (Or.inl ⟨by rfl, ?_⟩) hS ?_
            rotate_left
            · intro w' hSw; (try dsimp only at hSw); go_split_ands; go_simp; (try with_reducible rfl)
            (try simp only [Act.put, List.setIfInBounds_toArray, List.set_cons_zero, List.set_cons_succ])
            refine wpAnyH_take (i := 1) (v := ?_) (by simp only [List.getElem?_toArray, List.getElem?_cons_succ, List.getElem?_cons_zero]; rfl) (by kernel_rfl) (by kernel_rfl) (by kernel_rfl) (fun _ _ _ h => h) (Or.inl ⟨by rfl, ?_⟩) hS ?_
            rotate_left
            · intro w' hSw; (try dsimp only at hSw); go_split_ands; go_simp; (try with_reducible rfl)
            (try simp only [Act.put, List.setIfInBounds_toArray, List.set_cons_zero, List.set_cons_succ])
            refine wpAnyH_take (i := 2) (v := ?_) (by simp only [List.getElem?_toArray, List.getElem?_cons_succ, List.getElem?_cons_zero]; rfl) (by kernel_rfl) (by kernel_rfl) (by kernel_rfl) (fun _ _ _ h => h) (Or.inl ⟨by rfl, ?_⟩) hS ?_
            rotate_left
            · intro w' hSw; (try dsimp only at hSw); go_split_ands; go_simp; (try with_reducible rfl)
            (try simp only [Act.put, List.setIfInBounds_toArray, List.set_cons_zero, List.set_cons_succ])
            refine wpAnyH_take (i := 3) (v := ?_) (by simp only [List.getElem?_toArray, List.getElem?_cons_succ, List.getElem?_cons_zero]; rfl) (by kernel_rfl) (by kernel_rfl) (by kernel_rfl) (fun _ _ _ h => h) (Or.inl ⟨by rfl, ?_⟩) hS ?_
            rotate_left
            · intro w' hSw; (try dsimp only at hSw); go_split_ands; go_simp; (try with_reducible rfl)
            (try simp only [Act.put, List.setIfInBounds_toArray, List.set_cons_zero, List.set_cons_succ])
            refine wpAnyH_take (i := 4) (v := ?_) (by simp only [List.getElem?_toArray, List.getElem?_cons_succ, List.getElem?_cons_zero]; rfl) (by kernel_rfl) (by kernel_rfl) (by kernel_rfl) (fun _ _ _ h => h) (Or.inl ⟨by rfl, ?_⟩) hS ?_
            rotate_left
            · intro w' hSw; (try dsimp only at hSw); go_split_ands; go_simp; (try with_reducible rfl)
            (try simp only [Act.put, List.setIfInBounds_toArray, List.set_cons_zero, List.set_cons_succ])
            refine wpAnyH_take (i := 5) (v := ?_) (by simp only [List.getElem?_toArray, List.getElem?_cons_succ, List.getElem?_cons_zero]; rfl) (by kernel_rfl) (by kernel_rfl) (by kernel_rfl) (fun _ _ _ h => h) (Or.inl ⟨by rfl, ?_⟩) hS ?_
            rotate_left
            · intro w' hSw; (try dsimp only at hSw); go_split_ands; go_simp; (try with_reducible rfl)
            (try simp only [Act.put, List.setIfInBounds_toArray, List.set_cons_zero, List.set_cons_succ])
            refine wpAnyH_ready (rs := [6]) (by kernel_rfl) (by simp) ?_
            refine AllReadyH.cons (by simp only [List.getElem?_toArray, List.getElem?_cons_succ, List.getElem?_cons_zero]; rfl) (fun K hK => ?_) ?_
            · skip
              go_simp
              refine (ownwrite_any s Vx vnx vcx _ ((HWX.out.below HB2.out (Nat.le_refl _)).mono (Nat.le_refl _) HB2.out.size) hvcx).mono ?_
              rintro e ws6 ⟨V9, n9, c9, rfl, ov, hb⟩
              have hsz0 := hid (show Wd.heap.size ≤ ws6.heap.size from hb.size)
              replace PC2 := hid (PC2.out.step hb); replace OL2 := hid (OL2.out.step hb); replace VT := hid (VT.out.step hb); replace PW := hid (PW.out.step hb); replace HB2 := hid (below_then HB2.out hb); replace HBR := hid (below_then HBR.out hb)
              clear hb
              have OV9 := hid ov
              clear ov
              go_wp2_with fail
              refine hK.out _ _ ⟨PW.out.cells6.1, PW.out.cells6.2.1, PW.out.cells6.2.2.1, PW.out.cells6.2.2.2.1, PW.out.cells6.2.2.2.2.1, PW.out.cells6.2.2.2.2.2.1, PC2.out.cells11.2.2.2.2.2.2.2.2.2.2.1, (cell_old0 HB2.out hbh'.out HC6.out), (cell_old (i := 1) HB2.out hbh'.out HC6.out (by omega)), (cell_old (i := 2) HB2.out hbh'.out HC6.out (by omega)), (cell_old (i := 3) HB2.out hbh'.out HC6.out (by omega)), (cell_old (i := 4) HB2.out hbh'.out HC6.out (by omega)), (cell_old (i := 5) HB2.out hbh'.out HC6.out (by omega))⟩ (fun hS' => ?_)
              clear hK K hS
              have hS := hS'
              clear hS'
              (try simp only [Act.put, List.setIfInBounds_toArray, List.set_cons_zero, List.set_cons_succ])
              refine wpAnyH_ready (rs := [7]) (by kernel_rfl) (by simp) ?_
              refine AllReadyH.cons (by simp only [List.getElem?_toArray, List.getElem?_cons_succ, List.getElem?_cons_zero]; rfl) (fun K hK => ?_) ?_
              · skip
                go_simp
                refine (samewrite_any t (cutW s) Vt nt ct V9 n9 c9 _ (VT.out.sl.mono (Nat.zero_le _) (Nat.le_refl _)) (OV9.out.sl.mono (Nat.zero_le _) (Nat.le_refl _)) (by have := hnt.out; omega)).mono ?_
                rintro e ws7 ⟨rfl, hb⟩
                have hsz1 := hid (show ws6.heap.size ≤ ws7.heap.size from hb.size)
                replace PC2 := hid (PC2.out.step hb); replace OL2 := hid (OL2.out.step hb); replace VT := hid (VT.out.step hb); replace PW := hid (PW.out.step hb); replace OV9 := hid (OV9.out.step hb); replace HB2 := hid (below_then HB2.out hb); replace HBR := hid (below_then HBR.out hb)
                clear hb
                rw [decide_eq_true htc.out]
                go_wp2_with fail
                refine hK.out _ _ ⟨PW.out.cells6.1, PW.out.cells6.2.1, PW.out.cells6.2.2.1, PW.out.cells6.2.2.2.1, PW.out.cells6.2.2.2.2.1, PW.out.cells6.2.2.2.2.2.1, PC2.out.cells11.2.2.2.2.2.2.2.2.2.2.1, (cell_old0 HB2.out hbh'.out HC6.out), (cell_old (i := 1) HB2.out hbh'.out HC6.out (by omega)), (cell_old (i := 2) HB2.out hbh'.out HC6.out (by omega)), (cell_old (i := 3) HB2.out hbh'.out HC6.out (by omega)), (cell_old (i := 4) HB2.out hbh'.out HC6.out (by omega)), (cell_old (i := 5) HB2.out hbh'.out HC6.out (by omega))⟩ (fun hS' => ?_)
                clear hK K hS
                have hS := hS'
                clear hS'
                (try simp only [Act.put, List.setIfInBounds_toArray, List.set_cons_zero, List.set_cons_succ])
                refine wpAnyH_take (i := 8) (v := ?_) (by simp only [List.getElem?_toArray, List.getElem?_cons_succ, List.getElem?_cons_zero]; rfl) (by kernel_rfl) (by kernel_rfl) (by kernel_rfl) (fun _ _ _ h => h) (Or.inl ⟨by rfl, ?_⟩) hS ?_
                rotate_left
                · intro w' hSw; (try dsimp only at hSw); go_split_ands; go_simp; (try with_reducible rfl)
                (try simp only [Act.put, List.setIfInBounds_toArray, List.set_cons_zero, List.set_cons_succ])
                refine wpAnyH_done (by kernel_rfl) ?_ _
                refine NoPanic.normal ?_
                clear hS
                go_wp2_with fail
                go_roundw
                case rel => exact ⟨j + 1, by omega, by go_num, HBR.out⟩
                case measure => simp [intOf]; omega
              exact AllReadyH.nil
            exact AllReadyH.nil
end Go.Proofs.Ytnkaajkdjbdpaaa
