/- afterglowlaw14.wakes. No condition. -/
import Derived.Test.YtfipdoofgbjbjaaRc19
import Derived.Test.YtfipdoofgbjbjaaKitA
namespace Go.Proofs.Ytfipdoofgbjbjaa
open Go.RowKit
attribute [local go_sem] Oper.semAt_some
theorem RcP.mono {p q : Nat → Prop} {w : World} {s : St} {g : Gr} {es : List Qe} {a : Ra} (h : RcP p w s g es a) (hq : ∀ i, q i → p i) : RcP q w s g es a := fun w' k => h w' (k.mono hq)
/-- words that were run, and the error -/
def WkS (w0 wx : World) (E : Option Addr) (ke : Nat) (ran : List Int) : Prop := Ow u64v wx w0.heap.size 38 E ran.length ke ran ∧ Below w0.heap.size w0 wx
/-- all of it in a box -/
def WkB (w0 wx : World) (g6 : Nat) (a : Ra) (s1 : St) (g1 : Gr) (es : List Qe) (q1 : Qs) : Prop := Blk wx g6 30 (rcells s1 g1 a) ∧ RcR wx s1 g1 es a ∧ ql es = q1 ∧ Below w0.heap.size w0 wx ∧ w0.heap.size ≤ g6
set_option maxRecDepth 100000 in
set_option maxHeartbeats 8000000 in
theorem rcwakes_any (w : World) : Calls Try.prog 5 #[] w fun x w' => x = .returned (.bool true) ∧ Below w.heap.size w w' := by
  obtain ⟨s1, g1, q1, hf1, hf2, hf3, hf4, ⟨s3, g3, q3, hf5⟩, ⟨s4, g4, q4, hf6⟩⟩ := wk_facts
  have F1 := hid hf1; have F2 := hid hf2; have F3 := hid hf3; have F4 := hid hf4; have F5 := hid hf5; have F6 := hid hf6
  have HNG := hid (nGood (n := 2) (by omega) (by omega))
  have HG1 := hid (show RcGood s1 g1 q1 by have := good_opsA (L := T2) (ran := []) HNG.out (by rw [hf1]); rw [hf1] at this; exact this)
  clear hf1 hf2 hf3 hf4 hf5 hf6
  have HB := hid (Below.refl w.heap.size w)
  go_enter Try.func5, Try.ntmps5
  go_wp2_with fail
  refine (rnew_ok 2 w (by omega) (by omega)).mono ?_
  rintro e w1 ⟨a, rfl, hnq, ht, hb⟩
  have RT := hid ht; have HNQ := hid hnq
  replace HB := hid (below_then HB.out hb)
  clear hb ht hnq
  have bx := below_box w1 (.cells (rcells (nSt 2) (nGr 2) a) 30)
  replace RT := hid (RT.out.step bx); replace HB := hid (below_then HB.out bx)
  clear bx
  have P1 := hid (Blk.new w1 30 (rcells (nSt 2) (nGr 2) a))
  go_upto_region 2 with fail
  generalize w1.alloc (.cells (rcells (nSt 2) (nGr 2) a) 30) = W0 at *
  have RR := hid (show RcR W0 (nSt 2) (nGr 2) (List.replicate 2 zQe) a from RT.out.rcr (by decide) (by decide) (by rw [HNQ.out]; decide) (fun x hx => by obtain rfl := (List.mem_replicate.1 hx).2; decide))
  have HQ1 := hid (show RcGood (nSt 2) (nGr 2) (ql (List.replicate 2 zQe)) by rw [ql_rep]; exact HNG.out)
  have G1 := hid (show opsA (nSt 2) (nGr 2) (ql (List.replicate 2 zQe)) [] T1 = (0, s4, g4, q4, [7]) by rw [ql_rep]; exact F6.out)
  have G2 := hid (show opsA (nSt 2) (nGr 2) (ql (List.replicate 2 zQe)) [] T2 = (0, s1, g1, q1, []) by rw [ql_rep]; exact F1.out)
  clear RT HNQ F1 F6 HNG
  have HQ := hid (Below.refl W0.heap.size W0)
  have XP := P1; have XR := RR
  clear P1 RR
  go_cut [3, 4, 5] (fun s3 s4 s5 wx => ∃ E ke, s4 = .slice E 1 ke ∧ s5 = .int .i64 0 ∧ WkS W0 wx E ke [7])
  case first =>
      have hKP := hid (show ∀ W' : World, Below W0.heap.size W0 W' → (fun W' : World => W'.cell? ⟨w1.heap.size, 0, none⟩ = some (.int .i64 (nSt 2).1) ∧ W'.cell? ⟨w1.heap.size, 1, none⟩ = some (.slice a.A a.n a.k) ∧ W'.cell? ⟨w1.heap.size, 2, none⟩ = some (.slice a.B a.m a.d) ∧ W'.cell? ⟨w1.heap.size, 3, none⟩ = some (.int .i64 (nGr 2).dn) ∧ W'.cell? ⟨w1.heap.size, 4, none⟩ = some (.int .i64 (nGr 2).ak) ∧ W'.cell? ⟨w1.heap.size, 5, none⟩ = some (.bool (nGr 2).on) ∧ W'.cell? ⟨w1.heap.size, 6, none⟩ = some (.slice a.D (nGr 2).nd.length a.kd) ∧ W'.cell? ⟨w1.heap.size, 7, none⟩ = some (.slice a.Q a.nq a.kq)) W' from fun W' hb => ⟨(XP.out.step hb).cells8.1, (XP.out.step hb).cells8.2.1, (XP.out.step hb).cells8.2.2.1, (XP.out.step hb).cells8.2.2.2.1, (XP.out.step hb).cells8.2.2.2.2.1, (XP.out.step hb).cells8.2.2.2.2.2.1, (XP.out.step hb).cells8.2.2.2.2.2.2.1, (XP.out.step hb).cells8.2.2.2.2.2.2.2.1⟩)
      refine' merge_by (fun K0 => ?_) ?_
      rotate_left
      refine' merge_by (fun K1 => ?_) ?_
      rotate_left
      refine' merge_by (fun K2 => ?_) ?_
      rotate_left
      refine' merge_by (fun K3 => ?_) ?_
      rotate_left
      refine' merge_by (fun K4 => ?_) ?_
      rotate_left
      refine' merge_by (fun K5 => ?_) ?_
      rotate_left
      refine' merge_by (fun K6 => ?_) ?_
      rotate_left
      ·skip
       have bx := (Below.refl W0.heap.size W0).drew
       replace HQ := hid (below_then HQ.out bx)
       clear bx
       refine wp_region_noPanic ?_
       refine wp_region_held_drew (S := (fun W' : World => W'.cell? ⟨w1.heap.size, 0, none⟩ = some (.int .i64 (nSt 2).1) ∧ W'.cell? ⟨w1.heap.size, 1, none⟩ = some (.slice a.A a.n a.k) ∧ W'.cell? ⟨w1.heap.size, 2, none⟩ = some (.slice a.B a.m a.d) ∧ W'.cell? ⟨w1.heap.size, 3, none⟩ = some (.int .i64 (nGr 2).dn) ∧ W'.cell? ⟨w1.heap.size, 4, none⟩ = some (.int .i64 (nGr 2).ak) ∧ W'.cell? ⟨w1.heap.size, 5, none⟩ = some (.bool (nGr 2).on) ∧ W'.cell? ⟨w1.heap.size, 6, none⟩ = some (.slice a.D (nGr 2).nd.length a.kd) ∧ W'.cell? ⟨w1.heap.size, 7, none⟩ = some (.slice a.Q a.nq a.kq))) (by kernel_rfl) (hKP.out _ HQ.out) (fun hS => ?_)
       generalize W0.drew = Wd at *
       refine tk1 (i := 0) (v := ?_) (hy := Or.inl ⟨by rfl, ?_⟩) (hS := hS) (h := ?_)
       rotate_left
       · intro w' hSw; (try dsimp only at hSw); go_split_ands; go_simp; (try with_reducible rfl)
       (try simp only [Act.put, List.setIfInBounds_toArray, List.set_cons_zero, List.set_cons_succ])
       refine rd1 (rs := [1, 12]) (h := ?_)
       refine cs1 (h := fun K hK => ?_) (hs := ?_)
       ·skip
        have hpre := hid (show W0.heap.size ≤ Wd.heap.size from HQ.out.size)
        go_simp
        refine (op_any 3 0 7 _).mono ?_
        rintro e wp1 ⟨rfl, hb⟩
        replace HQ := hid (below_then HQ.out hb)
        clear hb
        go_wp2_with fail
        clear hpre
        refine hK.out _ _ (hKP.out _ HQ.out) (fun hS' => ?_)
        clear hK K hS
        have hS := hS'
        clear hS'
        (try simp only [Act.put, List.setIfInBounds_toArray, List.set_cons_zero, List.set_cons_succ])
        refine rd1 (rs := [2, 12]) (h := ?_)
        refine cs1 (h := fun K hK => ?_) (hs := ?_)
        ·skip
         have hpre := hid (show W0.heap.size ≤ wp1.heap.size from HQ.out.size)
         go_simp
         refine (op_any 4 0 0 _).mono ?_
         rintro e wp2 ⟨rfl, hb⟩
         replace HQ := hid (below_then HQ.out hb)
         clear hb
         go_wp2_with fail
         clear hpre
         refine hK.out _ _ (hKP.out _ HQ.out) (fun hS' => ?_)
         clear hK K hS
         have hS := hS'
         clear hS'
         (try simp only [Act.put, List.setIfInBounds_toArray, List.set_cons_zero, List.set_cons_succ])
         refine rd1 (rs := [3, 12]) (h := ?_)
         refine cs1 (h := fun K hK => ?_) (hs := ?_)
         ·skip
          have hpre := hid (show W0.heap.size ≤ wp2.heap.size from HQ.out.size)
          go_simp
          refine (op_any 4 0 0 _).mono ?_
          rintro e wp3 ⟨rfl, hb⟩
          replace HQ := hid (below_then HQ.out hb)
          clear hb
          go_wp2_with fail
          clear hpre
          refine hK.out _ _ (hKP.out _ HQ.out) (fun hS' => ?_)
          clear hK K hS
          have hS := hS'
          clear hS'
          (try simp only [Act.put, List.setIfInBounds_toArray, List.set_cons_zero, List.set_cons_succ])
          refine rd1 (rs := [4, 12]) (h := ?_)
          refine cs1 (h := fun K hK => ?_) (hs := ?_)
          ·skip
           have hpre := hid (show W0.heap.size ≤ wp3.heap.size from HQ.out.size)
           go_simp
           refine (op_any 4 1 0 _).mono ?_
           rintro e wp4 ⟨rfl, hb⟩
           replace HQ := hid (below_then HQ.out hb)
           clear hb
           go_wp2_with fail
           clear hpre
           refine hK.out _ _ (hKP.out _ HQ.out) (fun hS' => ?_)
           clear hK K hS
           have hS := hS'
           clear hS'
           (try simp only [Act.put, List.setIfInBounds_toArray, List.set_cons_zero, List.set_cons_succ])
           refine rd1 (rs := [5, 12]) (h := ?_)
           refine cs1 (h := fun K hK => ?_) (hs := ?_)
           ·skip
            have hpre := hid (show W0.heap.size ≤ wp4.heap.size from HQ.out.size)
            go_simp
            refine (op_any 5 0 0 _).mono ?_
            rintro e wp5 ⟨rfl, hb⟩
            replace HQ := hid (below_then HQ.out hb)
            clear hb
            go_wp2_with fail
            clear hpre
            refine hK.out _ _ (hKP.out _ HQ.out) (fun hS' => ?_)
            clear hK K hS
            have hS := hS'
            clear hS'
            (try simp only [Act.put, List.setIfInBounds_toArray, List.set_cons_zero, List.set_cons_succ])
            refine rd1 (rs := [6, 12]) (h := ?_)
            refine cs1 (h := fun K hK => ?_) (hs := ?_)
            ·skip
             have hpre := hid (show W0.heap.size ≤ wp5.heap.size from HQ.out.size)
             go_simp
             refine named_alloc ?_
             intro Wa6 hbk hb hsz
             replace HQ := hid (below_then HQ.out hb)
             obtain ⟨ga6, hga⟩ : ∃ g, g = wp5.heap.size := ⟨_, rfl⟩
             rw [← hga] at hbk ⊢
             have hlo6 := hid (show W0.heap.size ≤ ga6 by have := hpre.out; omega)
             have PT := hid hbk
             clear hb hbk hsz hga hpre
             refine hK.out _ _ (hKP.out _ HQ.out) (fun hS' => ?_)
             clear hK K hS
             have hS := hS'
             clear hS'
             (try simp only [Act.put, List.setIfInBounds_toArray, List.set_cons_zero, List.set_cons_succ])
             refine rd1 (rs := [7, 12]) (h := ?_)
             refine cs1 (h := fun K hK => ?_) (hs := ?_)
             ·skip
              have hpre := hid (show W0.heap.size ≤ Wa6.heap.size from HQ.out.size)
              have hpl6 := hid PT.out.lt
              go_simp
              refine (wk_run (L := T1) (some ⟨_, 0, none⟩) 5 5 _ (XR.out.step HQ.out) HQ1.out (PT.out.smO (xs := T1) rfl (by intro k hk j hj; have hk' : k < 5 := hk; have hj' : j < 3 := hj; match k, hk', j, hj' with | 0, _, 0, _ => rfl | 0, _, 1, _ => rfl | 0, _, 2, _ => rfl | 1, _, 0, _ => rfl | 1, _, 1, _ => rfl | 1, _, 2, _ => rfl | 2, _, 0, _ => rfl | 2, _, 1, _ => rfl | 2, _, 2, _ => rfl | 3, _, 0, _ => rfl | 3, _, 1, _ => rfl | 3, _, 2, _ => rfl | 4, _, 0, _ => rfl | 4, _, 1, _ => rfl | 4, _, 2, _ => rfl)) (by omega) G1.out).mono ?_
              rintro e wpl ⟨a9, es9, R9, kr9, rfl, hq9, hr9, ho9, hb⟩
              replace PT := hid (PT.out.step hb); replace HQ := hid (below_then HQ.out hb)
              clear hb
              have RO := hid (ho9.mono (show W0.heap.size ≤ _ by have := HQ.out.size; have := hpre.out; have := hpl6.out; have := hlo6.out; have := PT.out.lt; omega))
              clear hr9 ho9 hq9
              go_wp2_with fail
              clear hpre hpl6
              refine hK.out _ _ (hKP.out _ HQ.out) (fun hS' => ?_)
              clear hK K hS
              have hS := hS'
              clear hS'
              (try simp only [Act.put, List.setIfInBounds_toArray, List.set_cons_zero, List.set_cons_succ])
              refine tk1 (i := 8) (v := ?_) (hy := Or.inl ⟨by rfl, ?_⟩) (hS := hS) (h := ?_)
              rotate_left
              · intro w' hSw; (try dsimp only at hSw); go_split_ands; go_simp; (try with_reducible rfl)
              (try simp only [Act.put, List.setIfInBounds_toArray, List.set_cons_zero, List.set_cons_succ])
              refine tk1 (i := 9) (v := ?_) (hy := Or.inl ⟨by rfl, ?_⟩) (hS := hS) (h := ?_)
              rotate_left
              · intro w' hSw; (try dsimp only at hSw); go_split_ands; go_simp; (try with_reducible rfl)
              (try simp only [Act.put, List.setIfInBounds_toArray, List.set_cons_zero, List.set_cons_succ])
              refine tk1 (i := 10) (v := ?_) (hy := Or.inl ⟨by rfl, ?_⟩) (hS := hS) (h := ?_)
              rotate_left
              · intro w' hSw; (try dsimp only at hSw); go_split_ands; go_simp; (try with_reducible rfl)
              (try simp only [Act.put, List.setIfInBounds_toArray, List.set_cons_zero, List.set_cons_succ])
              refine tk1 (i := 11) (v := ?_) (hy := Or.inl ⟨by rfl, ?_⟩) (hS := hS) (h := ?_)
              rotate_left
              · intro w' hSw; (try dsimp only at hSw); go_split_ands; go_simp; (try with_reducible rfl)
              (try simp only [Act.put, List.setIfInBounds_toArray, List.set_cons_zero, List.set_cons_succ])
              refine rd1 (rs := [12]) (h := ?_)
              refine cs1 (h := fun K hK => ?_) (hs := ?_)
              ·skip
               have hpre := hid (show W0.heap.size ≤ wpl.heap.size from HQ.out.size)
               go_simp
               refine named_alloc ?_
               intro Wa12 hbk hb hsz
               replace PT := hid (PT.out.step hb); replace RO := hid (RO.out.step hb); replace HQ := hid (below_then HQ.out hb)
               obtain ⟨ga12, hga⟩ : ∃ g, g = wpl.heap.size := ⟨_, rfl⟩
               rw [← hga] at hbk ⊢
               have hlo12 := hid (show W0.heap.size ≤ ga12 by have := hpre.out; omega)
               have ZR := hid hbk
               clear hb hbk hsz hga hpre
               refine hK.out _ _ (hKP.out _ HQ.out) (fun hS' => ?_)
               clear hK K hS
               have hS := hS'
               clear hS'
               (try simp only [Act.put, List.setIfInBounds_toArray, List.set_cons_zero, List.set_cons_succ])
               revert hS; revert hlo12; revert hlo6; revert HQ; revert ZR; revert RO; revert PT; revert ga12; revert kr9; revert R9; revert a9; revert ga6; revert Wa12
               exact K0.out
              exact AllReadyH.nil
             refine cs1 (h := fun K hK => ?_) (hs := ?_)
             ·skip
              have hpre := hid (show W0.heap.size ≤ Wa6.heap.size from HQ.out.size)
              go_simp
              refine named_alloc ?_
              intro Wa12 hbk hb hsz
              replace PT := hid (PT.out.step hb); replace HQ := hid (below_then HQ.out hb)
              obtain ⟨ga12, hga⟩ : ∃ g, g = Wa6.heap.size := ⟨_, rfl⟩
              rw [← hga] at hbk ⊢
              have hlo12 := hid (show W0.heap.size ≤ ga12 by have := hpre.out; omega)
              have ZR := hid hbk
              clear hb hbk hsz hga hpre
              refine hK.out _ _ (hKP.out _ HQ.out) (fun hS' => ?_)
              clear hK K hS
              have hS := hS'
              clear hS'
              (try simp only [Act.put, List.setIfInBounds_toArray, List.set_cons_zero, List.set_cons_succ])
              revert hS; revert hlo12; revert hlo6; revert HQ; revert ZR; revert PT; revert ga12; revert ga6; revert Wa12
              exact K1.out
             exact AllReadyH.nil
            refine cs1 (h := fun K hK => ?_) (hs := ?_)
            ·skip
             have hpre := hid (show W0.heap.size ≤ wp5.heap.size from HQ.out.size)
             go_simp
             refine named_alloc ?_
             intro Wa12 hbk hb hsz
             replace HQ := hid (below_then HQ.out hb)
             obtain ⟨ga12, hga⟩ : ∃ g, g = wp5.heap.size := ⟨_, rfl⟩
             rw [← hga] at hbk ⊢
             have hlo12 := hid (show W0.heap.size ≤ ga12 by have := hpre.out; omega)
             have ZR := hid hbk
             clear hb hbk hsz hga hpre
             refine hK.out _ _ (hKP.out _ HQ.out) (fun hS' => ?_)
             clear hK K hS
             have hS := hS'
             clear hS'
             (try simp only [Act.put, List.setIfInBounds_toArray, List.set_cons_zero, List.set_cons_succ])
             revert hS; revert hlo12; revert HQ; revert ZR; revert ga12; revert Wa12
             exact K2.out
            exact AllReadyH.nil
           refine cs1 (h := fun K hK => ?_) (hs := ?_)
           ·skip
            have hpre := hid (show W0.heap.size ≤ wp4.heap.size from HQ.out.size)
            go_simp
            refine named_alloc ?_
            intro Wa12 hbk hb hsz
            replace HQ := hid (below_then HQ.out hb)
            obtain ⟨ga12, hga⟩ : ∃ g, g = wp4.heap.size := ⟨_, rfl⟩
            rw [← hga] at hbk ⊢
            have hlo12 := hid (show W0.heap.size ≤ ga12 by have := hpre.out; omega)
            have ZR := hid hbk
            clear hb hbk hsz hga hpre
            refine hK.out _ _ (hKP.out _ HQ.out) (fun hS' => ?_)
            clear hK K hS
            have hS := hS'
            clear hS'
            (try simp only [Act.put, List.setIfInBounds_toArray, List.set_cons_zero, List.set_cons_succ])
            revert hS; revert hlo12; revert HQ; revert ZR; revert ga12; revert Wa12
            exact K3.out
           exact AllReadyH.nil
          refine cs1 (h := fun K hK => ?_) (hs := ?_)
          ·skip
           have hpre := hid (show W0.heap.size ≤ wp3.heap.size from HQ.out.size)
           go_simp
           refine named_alloc ?_
           intro Wa12 hbk hb hsz
           replace HQ := hid (below_then HQ.out hb)
           obtain ⟨ga12, hga⟩ : ∃ g, g = wp3.heap.size := ⟨_, rfl⟩
           rw [← hga] at hbk ⊢
           have hlo12 := hid (show W0.heap.size ≤ ga12 by have := hpre.out; omega)
           have ZR := hid hbk
           clear hb hbk hsz hga hpre
           refine hK.out _ _ (hKP.out _ HQ.out) (fun hS' => ?_)
           clear hK K hS
           have hS := hS'
           clear hS'
           (try simp only [Act.put, List.setIfInBounds_toArray, List.set_cons_zero, List.set_cons_succ])
           revert hS; revert hlo12; revert HQ; revert ZR; revert ga12; revert Wa12
           exact K4.out
          exact AllReadyH.nil
         refine cs1 (h := fun K hK => ?_) (hs := ?_)
         ·skip
          have hpre := hid (show W0.heap.size ≤ wp2.heap.size from HQ.out.size)
          go_simp
          refine named_alloc ?_
          intro Wa12 hbk hb hsz
          replace HQ := hid (below_then HQ.out hb)
          obtain ⟨ga12, hga⟩ : ∃ g, g = wp2.heap.size := ⟨_, rfl⟩
          rw [← hga] at hbk ⊢
          have hlo12 := hid (show W0.heap.size ≤ ga12 by have := hpre.out; omega)
          have ZR := hid hbk
          clear hb hbk hsz hga hpre
          refine hK.out _ _ (hKP.out _ HQ.out) (fun hS' => ?_)
          clear hK K hS
          have hS := hS'
          clear hS'
          (try simp only [Act.put, List.setIfInBounds_toArray, List.set_cons_zero, List.set_cons_succ])
          revert hS; revert hlo12; revert HQ; revert ZR; revert ga12; revert Wa12
          exact K5.out
         exact AllReadyH.nil
        refine cs1 (h := fun K hK => ?_) (hs := ?_)
        ·skip
         have hpre := hid (show W0.heap.size ≤ wp1.heap.size from HQ.out.size)
         go_simp
         refine named_alloc ?_
         intro Wa12 hbk hb hsz
         replace HQ := hid (below_then HQ.out hb)
         obtain ⟨ga12, hga⟩ : ∃ g, g = wp1.heap.size := ⟨_, rfl⟩
         rw [← hga] at hbk ⊢
         have hlo12 := hid (show W0.heap.size ≤ ga12 by have := hpre.out; omega)
         have ZR := hid hbk
         clear hb hbk hsz hga hpre
         refine hK.out _ _ (hKP.out _ HQ.out) (fun hS' => ?_)
         clear hK K hS
         have hS := hS'
         clear hS'
         (try simp only [Act.put, List.setIfInBounds_toArray, List.set_cons_zero, List.set_cons_succ])
         revert hS; revert hlo12; revert HQ; revert ZR; revert ga12; revert Wa12
         exact K6.out
        exact AllReadyH.nil
       refine cs1 (h := fun K hK => ?_) (hs := ?_)
       ·skip
        have hpre := hid (show W0.heap.size ≤ Wd.heap.size from HQ.out.size)
        go_simp
        refine named_alloc ?_
        intro Wa12 hbk hb hsz
        replace HQ := hid (below_then HQ.out hb)
        obtain ⟨ga12, hga⟩ : ∃ g, g = Wd.heap.size := ⟨_, rfl⟩
        rw [← hga] at hbk ⊢
        have hlo12 := hid (show W0.heap.size ≤ ga12 by have := hpre.out; omega)
        have ZR := hid hbk
        clear hb hbk hsz hga hpre
        refine hK.out _ _ (hKP.out _ HQ.out) (fun hS' => ?_)
        clear hK K hS
        have hS := hS'
        clear hS'
        (try simp only [Act.put, List.setIfInBounds_toArray, List.set_cons_zero, List.set_cons_succ])
        refine rd1 (rs := [1]) (h := ?_)
        refine cs1 (h := fun K hK => ?_) (hs := ?_)
        ·skip
         have hpre := hid (show W0.heap.size ≤ Wa12.heap.size from HQ.out.size)
         have hpl12 := hid ZR.out.lt
         go_simp
         refine (op_any 3 0 7 _).mono ?_
         rintro e wp1 ⟨rfl, hb⟩
         replace ZR := hid (ZR.out.step hb); replace HQ := hid (below_then HQ.out hb)
         clear hb
         go_wp2_with fail
         clear hpre hpl12
         refine hK.out _ _ (hKP.out _ HQ.out) (fun hS' => ?_)
         clear hK K hS
         have hS := hS'
         clear hS'
         (try simp only [Act.put, List.setIfInBounds_toArray, List.set_cons_zero, List.set_cons_succ])
         revert hS; revert hlo12; revert HQ; revert ZR; revert ga12; revert wp1
         exact K6.out
        exact AllReadyH.nil
       exact AllReadyH.nil
      ·skip
       intro Wm ga12 ZR HQ hlo12 hS
       refine rd1 (rs := [2]) (h := ?_)
       refine cs1 (h := fun K hK => ?_) (hs := ?_)
       ·skip
        have hpre := hid (show W0.heap.size ≤ Wm.heap.size from HQ.out.size)
        have hpl12 := hid ZR.out.lt
        go_simp
        refine (op_any 4 0 0 _).mono ?_
        rintro e wp2 ⟨rfl, hb⟩
        replace ZR := hid (ZR.out.step hb); replace HQ := hid (below_then HQ.out hb)
        clear hb
        go_wp2_with fail
        clear hpre hpl12
        refine hK.out _ _ (hKP.out _ HQ.out) (fun hS' => ?_)
        clear hK K hS
        have hS := hS'
        clear hS'
        (try simp only [Act.put, List.setIfInBounds_toArray, List.set_cons_zero, List.set_cons_succ])
        revert hS; revert hlo12; revert HQ; revert ZR; revert ga12; revert wp2
        exact K5.out
       exact AllReadyH.nil
      ·skip
       intro Wm ga12 ZR HQ hlo12 hS
       refine rd1 (rs := [3]) (h := ?_)
       refine cs1 (h := fun K hK => ?_) (hs := ?_)
       ·skip
        have hpre := hid (show W0.heap.size ≤ Wm.heap.size from HQ.out.size)
        have hpl12 := hid ZR.out.lt
        go_simp
        refine (op_any 4 0 0 _).mono ?_
        rintro e wp3 ⟨rfl, hb⟩
        replace ZR := hid (ZR.out.step hb); replace HQ := hid (below_then HQ.out hb)
        clear hb
        go_wp2_with fail
        clear hpre hpl12
        refine hK.out _ _ (hKP.out _ HQ.out) (fun hS' => ?_)
        clear hK K hS
        have hS := hS'
        clear hS'
        (try simp only [Act.put, List.setIfInBounds_toArray, List.set_cons_zero, List.set_cons_succ])
        revert hS; revert hlo12; revert HQ; revert ZR; revert ga12; revert wp3
        exact K4.out
       exact AllReadyH.nil
      ·skip
       intro Wm ga12 ZR HQ hlo12 hS
       refine rd1 (rs := [4]) (h := ?_)
       refine cs1 (h := fun K hK => ?_) (hs := ?_)
       ·skip
        have hpre := hid (show W0.heap.size ≤ Wm.heap.size from HQ.out.size)
        have hpl12 := hid ZR.out.lt
        go_simp
        refine (op_any 4 1 0 _).mono ?_
        rintro e wp4 ⟨rfl, hb⟩
        replace ZR := hid (ZR.out.step hb); replace HQ := hid (below_then HQ.out hb)
        clear hb
        go_wp2_with fail
        clear hpre hpl12
        refine hK.out _ _ (hKP.out _ HQ.out) (fun hS' => ?_)
        clear hK K hS
        have hS := hS'
        clear hS'
        (try simp only [Act.put, List.setIfInBounds_toArray, List.set_cons_zero, List.set_cons_succ])
        revert hS; revert hlo12; revert HQ; revert ZR; revert ga12; revert wp4
        exact K3.out
       exact AllReadyH.nil
      ·skip
       intro Wm ga12 ZR HQ hlo12 hS
       refine rd1 (rs := [5]) (h := ?_)
       refine cs1 (h := fun K hK => ?_) (hs := ?_)
       ·skip
        have hpre := hid (show W0.heap.size ≤ Wm.heap.size from HQ.out.size)
        have hpl12 := hid ZR.out.lt
        go_simp
        refine (op_any 5 0 0 _).mono ?_
        rintro e wp5 ⟨rfl, hb⟩
        replace ZR := hid (ZR.out.step hb); replace HQ := hid (below_then HQ.out hb)
        clear hb
        go_wp2_with fail
        clear hpre hpl12
        refine hK.out _ _ (hKP.out _ HQ.out) (fun hS' => ?_)
        clear hK K hS
        have hS := hS'
        clear hS'
        (try simp only [Act.put, List.setIfInBounds_toArray, List.set_cons_zero, List.set_cons_succ])
        revert hS; revert hlo12; revert HQ; revert ZR; revert ga12; revert wp5
        exact K2.out
       exact AllReadyH.nil
      ·skip
       intro Wm ga12 ZR HQ hlo12 hS
       refine rd1 (rs := [6]) (h := ?_)
       refine cs1 (h := fun K hK => ?_) (hs := ?_)
       ·skip
        have hpre := hid (show W0.heap.size ≤ Wm.heap.size from HQ.out.size)
        go_simp
        refine named_alloc ?_
        intro Wa6 hbk hb hsz
        replace ZR := hid (ZR.out.step hb); replace HQ := hid (below_then HQ.out hb)
        obtain ⟨ga6, hga⟩ : ∃ g, g = Wm.heap.size := ⟨_, rfl⟩
        rw [← hga] at hbk ⊢
        have hlo6 := hid (show W0.heap.size ≤ ga6 by have := hpre.out; omega)
        have PT := hid hbk
        clear hb hbk hsz hga hpre
        refine hK.out _ _ (hKP.out _ HQ.out) (fun hS' => ?_)
        clear hK K hS
        have hS := hS'
        clear hS'
        (try simp only [Act.put, List.setIfInBounds_toArray, List.set_cons_zero, List.set_cons_succ])
        revert hS; revert hlo12; revert hlo6; revert HQ; revert ZR; revert PT; revert ga12; revert ga6; revert Wa6
        exact K1.out
       exact AllReadyH.nil
      ·skip
       intro Wm ga6 ga12 PT ZR HQ hlo6 hlo12 hS
       refine rd1 (rs := [7]) (h := ?_)
       refine cs1 (h := fun K hK => ?_) (hs := ?_)
       ·skip
        have hpre := hid (show W0.heap.size ≤ Wm.heap.size from HQ.out.size)
        have hpl6 := hid PT.out.lt
        have hpl12 := hid ZR.out.lt
        go_simp
        refine (wk_run (L := T1) (some ⟨_, 0, none⟩) 5 5 _ (XR.out.step HQ.out) HQ1.out (PT.out.smO (xs := T1) rfl (by intro k hk j hj; have hk' : k < 5 := hk; have hj' : j < 3 := hj; match k, hk', j, hj' with | 0, _, 0, _ => rfl | 0, _, 1, _ => rfl | 0, _, 2, _ => rfl | 1, _, 0, _ => rfl | 1, _, 1, _ => rfl | 1, _, 2, _ => rfl | 2, _, 0, _ => rfl | 2, _, 1, _ => rfl | 2, _, 2, _ => rfl | 3, _, 0, _ => rfl | 3, _, 1, _ => rfl | 3, _, 2, _ => rfl | 4, _, 0, _ => rfl | 4, _, 1, _ => rfl | 4, _, 2, _ => rfl)) (by omega) G1.out).mono ?_
        rintro e wpl ⟨a9, es9, R9, kr9, rfl, hq9, hr9, ho9, hb⟩
        replace PT := hid (PT.out.step hb); replace ZR := hid (ZR.out.step hb); replace HQ := hid (below_then HQ.out hb)
        clear hb
        have RO := hid (ho9.mono (show W0.heap.size ≤ _ by have := HQ.out.size; have := hpre.out; have := hpl6.out; have := hpl12.out; have := hlo6.out; have := PT.out.lt; have := hlo12.out; have := ZR.out.lt; omega))
        clear hr9 ho9 hq9
        go_wp2_with fail
        clear hpre hpl6 hpl12
        refine hK.out _ _ (hKP.out _ HQ.out) (fun hS' => ?_)
        clear hK K hS
        have hS := hS'
        clear hS'
        (try simp only [Act.put, List.setIfInBounds_toArray, List.set_cons_zero, List.set_cons_succ])
        refine tk1 (i := 8) (v := ?_) (hy := Or.inl ⟨by rfl, ?_⟩) (hS := hS) (h := ?_)
        rotate_left
        · intro w' hSw; (try dsimp only at hSw); go_split_ands; go_simp; (try with_reducible rfl)
        (try simp only [Act.put, List.setIfInBounds_toArray, List.set_cons_zero, List.set_cons_succ])
        refine tk1 (i := 9) (v := ?_) (hy := Or.inl ⟨by rfl, ?_⟩) (hS := hS) (h := ?_)
        rotate_left
        · intro w' hSw; (try dsimp only at hSw); go_split_ands; go_simp; (try with_reducible rfl)
        (try simp only [Act.put, List.setIfInBounds_toArray, List.set_cons_zero, List.set_cons_succ])
        refine tk1 (i := 10) (v := ?_) (hy := Or.inl ⟨by rfl, ?_⟩) (hS := hS) (h := ?_)
        rotate_left
        · intro w' hSw; (try dsimp only at hSw); go_split_ands; go_simp; (try with_reducible rfl)
        (try simp only [Act.put, List.setIfInBounds_toArray, List.set_cons_zero, List.set_cons_succ])
        refine tk1 (i := 11) (v := ?_) (hy := Or.inl ⟨by rfl, ?_⟩) (hS := hS) (h := ?_)
        rotate_left
        · intro w' hSw; (try dsimp only at hSw); go_split_ands; go_simp; (try with_reducible rfl)
        (try simp only [Act.put, List.setIfInBounds_toArray, List.set_cons_zero, List.set_cons_succ])
        revert hS; revert hlo12; revert hlo6; revert HQ; revert ZR; revert RO; revert PT; revert ga12; revert kr9; revert R9; revert a9; revert ga6; revert wpl
        exact K0.out
       exact AllReadyH.nil
      ·skip
       intro Wm ga6 a9 R9 kr9 ga12 PT RO ZR HQ hlo6 hlo12 hS
       refine rd1 (rs := [13]) (h := ?_)
       refine cs1 (h := fun K hK => ?_) (hs := ?_)
       ·skip
        have hpre := hid (show W0.heap.size ≤ Wm.heap.size from HQ.out.size)
        obtain ⟨y00, y01, y02, y03, y04, y05, y06, y07, yf0⟩ := ZR.out.cells8
        go_simp
        clear y00 y01 y02 y03 y04 y05 y06 y07 yf0
        refine named_store_8_8_0 ZR.out ?_
        intro Ws13 hbk hgr hsz
        clear hsz
        replace RO := hid (RO.out.keptR ZR.out (by decide) hgr)
        replace HQ := hid (HQ.out.grown hgr HQ.out.size (fun r e => by cases e; have := HQ.out.size; have := hlo6.out; have := PT.out.lt; have := hlo12.out; have := ZR.out.lt; omega))
        replace ZR := hid hbk
        clear hbk hgr hpre
        refine hK.out _ _ (hKP.out _ HQ.out) (fun hS' => ?_)
        clear hK K hS
        have hS := hS'
        clear hS'
        (try simp only [Act.put, List.setIfInBounds_toArray, List.set_cons_zero, List.set_cons_succ])
        refine tk1 (i := 14) (v := ?_) (hy := Or.inl ⟨by rfl, ?_⟩) (hS := hS) (h := ?_)
        rotate_left
        · intro w' hSw; (try dsimp only at hSw); go_split_ands; go_simp; (try with_reducible rfl)
        (try simp only [Act.put, List.setIfInBounds_toArray, List.set_cons_zero, List.set_cons_succ])
        refine tk1 (i := 15) (v := ?_) (hy := Or.inl ⟨by rfl, ?_⟩) (hS := hS) (h := ?_)
        rotate_left
        · intro w' hSw; (try dsimp only at hSw); go_split_ands; go_simp; (try with_reducible rfl)
        (try simp only [Act.put, List.setIfInBounds_toArray, List.set_cons_zero, List.set_cons_succ])
        refine wpAnyH_done (by kernel_rfl) ?_ _
        refine NoPanic.normal ?_
        clear hS
        go_wp2_with fail
        go_meet
        exact ⟨_, _, rfl, rfl, RO.out, HQ.out⟩
       exact AllReadyH.nil
  case rest =>
    obtain ⟨E2, ke2, rfl, rfl, h1, h2⟩ := hcut
    rename World => W2
    have EL := hid h1
    replace HB := hid (below_then HB.out h2); replace XP := hid (XP.out.step h2); replace XR := hid (XR.out.step h2)
    clear h1 h2 HQ
    have HQ := hid (Below.refl W2.heap.size W2)
    go_upto_region 3 with fail
    go_cut [6, 7, 8] (fun s6 s7 s8 wx => ∃ g6 a6 es6, s6 = ptr g6 ∧ s8 = .int .i64 0 ∧ WkB W2 wx g6 a6 s1 g1 es6 q1)
    case first =>
        have hKP := hid (show ∀ W' : World, Below W2.heap.size W2 W' → (fun W' : World => W'.cell? ⟨w1.heap.size, 0, none⟩ = some (.int .i64 (nSt 2).1) ∧ W'.cell? ⟨w1.heap.size, 1, none⟩ = some (.slice a.A a.n a.k) ∧ W'.cell? ⟨w1.heap.size, 2, none⟩ = some (.slice a.B a.m a.d) ∧ W'.cell? ⟨w1.heap.size, 3, none⟩ = some (.int .i64 (nGr 2).dn) ∧ W'.cell? ⟨w1.heap.size, 4, none⟩ = some (.int .i64 (nGr 2).ak) ∧ W'.cell? ⟨w1.heap.size, 5, none⟩ = some (.bool (nGr 2).on) ∧ W'.cell? ⟨w1.heap.size, 6, none⟩ = some (.slice a.D (nGr 2).nd.length a.kd) ∧ W'.cell? ⟨w1.heap.size, 7, none⟩ = some (.slice a.Q a.nq a.kq)) W' from fun W' hb => ⟨(XP.out.step hb).cells8.1, (XP.out.step hb).cells8.2.1, (XP.out.step hb).cells8.2.2.1, (XP.out.step hb).cells8.2.2.2.1, (XP.out.step hb).cells8.2.2.2.2.1, (XP.out.step hb).cells8.2.2.2.2.2.1, (XP.out.step hb).cells8.2.2.2.2.2.2.1, (XP.out.step hb).cells8.2.2.2.2.2.2.2.1⟩)
        refine' merge_by (fun K0 => ?_) ?_
        rotate_left
        refine' merge_by (fun K1 => ?_) ?_
        rotate_left
        refine' merge_by (fun K2 => ?_) ?_
        rotate_left
        refine' merge_by (fun K3 => ?_) ?_
        rotate_left
        refine' merge_by (fun K4 => ?_) ?_
        rotate_left
        refine' merge_by (fun K5 => ?_) ?_
        rotate_left
        refine' merge_by (fun K6 => ?_) ?_
        rotate_left
        ·skip
         have bx := (Below.refl W2.heap.size W2).drew
         replace HQ := hid (below_then HQ.out bx)
         clear bx
         refine wp_region_noPanic ?_
         refine wp_region_held_drew (S := (fun W' : World => W'.cell? ⟨w1.heap.size, 0, none⟩ = some (.int .i64 (nSt 2).1) ∧ W'.cell? ⟨w1.heap.size, 1, none⟩ = some (.slice a.A a.n a.k) ∧ W'.cell? ⟨w1.heap.size, 2, none⟩ = some (.slice a.B a.m a.d) ∧ W'.cell? ⟨w1.heap.size, 3, none⟩ = some (.int .i64 (nGr 2).dn) ∧ W'.cell? ⟨w1.heap.size, 4, none⟩ = some (.int .i64 (nGr 2).ak) ∧ W'.cell? ⟨w1.heap.size, 5, none⟩ = some (.bool (nGr 2).on) ∧ W'.cell? ⟨w1.heap.size, 6, none⟩ = some (.slice a.D (nGr 2).nd.length a.kd) ∧ W'.cell? ⟨w1.heap.size, 7, none⟩ = some (.slice a.Q a.nq a.kq))) (by kernel_rfl) (hKP.out _ HQ.out) (fun hS => ?_)
         generalize W2.drew = Wd at *
         refine tk1 (i := 0) (v := ?_) (hy := Or.inl ⟨by rfl, ?_⟩) (hS := hS) (h := ?_)
         rotate_left
         · intro w' hSw; (try dsimp only at hSw); go_split_ands; go_simp; (try with_reducible rfl)
         (try simp only [Act.put, List.setIfInBounds_toArray, List.set_cons_zero, List.set_cons_succ])
         refine rd1 (rs := [1, 12]) (h := ?_)
         refine cs1 (h := fun K hK => ?_) (hs := ?_)
         ·skip
          have hpre := hid (show W2.heap.size ≤ Wd.heap.size from HQ.out.size)
          go_simp
          refine (op_any 1 1 0 _).mono ?_
          rintro e wp1 ⟨rfl, hb⟩
          replace HQ := hid (below_then HQ.out hb)
          clear hb
          go_wp2_with fail
          clear hpre
          refine hK.out _ _ (hKP.out _ HQ.out) (fun hS' => ?_)
          clear hK K hS
          have hS := hS'
          clear hS'
          (try simp only [Act.put, List.setIfInBounds_toArray, List.set_cons_zero, List.set_cons_succ])
          refine rd1 (rs := [2, 12]) (h := ?_)
          refine cs1 (h := fun K hK => ?_) (hs := ?_)
          ·skip
           have hpre := hid (show W2.heap.size ≤ wp1.heap.size from HQ.out.size)
           go_simp
           refine (op_any 3 0 7 _).mono ?_
           rintro e wp2 ⟨rfl, hb⟩
           replace HQ := hid (below_then HQ.out hb)
           clear hb
           go_wp2_with fail
           clear hpre
           refine hK.out _ _ (hKP.out _ HQ.out) (fun hS' => ?_)
           clear hK K hS
           have hS := hS'
           clear hS'
           (try simp only [Act.put, List.setIfInBounds_toArray, List.set_cons_zero, List.set_cons_succ])
           refine rd1 (rs := [3, 12]) (h := ?_)
           refine cs1 (h := fun K hK => ?_) (hs := ?_)
           ·skip
            have hpre := hid (show W2.heap.size ≤ wp2.heap.size from HQ.out.size)
            go_simp
            refine (op_any 4 0 0 _).mono ?_
            rintro e wp3 ⟨rfl, hb⟩
            replace HQ := hid (below_then HQ.out hb)
            clear hb
            go_wp2_with fail
            clear hpre
            refine hK.out _ _ (hKP.out _ HQ.out) (fun hS' => ?_)
            clear hK K hS
            have hS := hS'
            clear hS'
            (try simp only [Act.put, List.setIfInBounds_toArray, List.set_cons_zero, List.set_cons_succ])
            refine rd1 (rs := [4, 12]) (h := ?_)
            refine cs1 (h := fun K hK => ?_) (hs := ?_)
            ·skip
             have hpre := hid (show W2.heap.size ≤ wp3.heap.size from HQ.out.size)
             go_simp
             refine (op_any 4 0 0 _).mono ?_
             rintro e wp4 ⟨rfl, hb⟩
             replace HQ := hid (below_then HQ.out hb)
             clear hb
             go_wp2_with fail
             clear hpre
             refine hK.out _ _ (hKP.out _ HQ.out) (fun hS' => ?_)
             clear hK K hS
             have hS := hS'
             clear hS'
             (try simp only [Act.put, List.setIfInBounds_toArray, List.set_cons_zero, List.set_cons_succ])
             refine rd1 (rs := [5, 12]) (h := ?_)
             refine cs1 (h := fun K hK => ?_) (hs := ?_)
             ·skip
              have hpre := hid (show W2.heap.size ≤ wp4.heap.size from HQ.out.size)
              go_simp
              refine (op_any 4 1 0 _).mono ?_
              rintro e wp5 ⟨rfl, hb⟩
              replace HQ := hid (below_then HQ.out hb)
              clear hb
              go_wp2_with fail
              clear hpre
              refine hK.out _ _ (hKP.out _ HQ.out) (fun hS' => ?_)
              clear hK K hS
              have hS := hS'
              clear hS'
              (try simp only [Act.put, List.setIfInBounds_toArray, List.set_cons_zero, List.set_cons_succ])
              refine rd1 (rs := [6, 12]) (h := ?_)
              refine cs1 (h := fun K hK => ?_) (hs := ?_)
              ·skip
               have hpre := hid (show W2.heap.size ≤ wp5.heap.size from HQ.out.size)
               go_simp
               refine named_alloc ?_
               intro Wa6 hbk hb hsz
               replace HQ := hid (below_then HQ.out hb)
               obtain ⟨ga6, hga⟩ : ∃ g, g = wp5.heap.size := ⟨_, rfl⟩
               rw [← hga] at hbk ⊢
               have hlo6 := hid (show W2.heap.size ≤ ga6 by have := hpre.out; omega)
               have PT := hid hbk
               clear hb hbk hsz hga hpre
               refine hK.out _ _ (hKP.out _ HQ.out) (fun hS' => ?_)
               clear hK K hS
               have hS := hS'
               clear hS'
               (try simp only [Act.put, List.setIfInBounds_toArray, List.set_cons_zero, List.set_cons_succ])
               refine rd1 (rs := [7, 12]) (h := ?_)
               refine cs1 (h := fun K hK => ?_) (hs := ?_)
               ·skip
                have hpre := hid (show W2.heap.size ≤ Wa6.heap.size from HQ.out.size)
                have hpl6 := hid PT.out.lt
                go_simp
                refine (wk_run (L := T2) (some ⟨_, 0, none⟩) 5 5 _ (XR.out.step HQ.out) HQ1.out (PT.out.smO (xs := T2) rfl (by intro k hk j hj; have hk' : k < 5 := hk; have hj' : j < 3 := hj; match k, hk', j, hj' with | 0, _, 0, _ => rfl | 0, _, 1, _ => rfl | 0, _, 2, _ => rfl | 1, _, 0, _ => rfl | 1, _, 1, _ => rfl | 1, _, 2, _ => rfl | 2, _, 0, _ => rfl | 2, _, 1, _ => rfl | 2, _, 2, _ => rfl | 3, _, 0, _ => rfl | 3, _, 1, _ => rfl | 3, _, 2, _ => rfl | 4, _, 0, _ => rfl | 4, _, 1, _ => rfl | 4, _, 2, _ => rfl)) (by omega) G2.out).mono ?_
                rintro e wpl ⟨a9, es9, R9, kr9, rfl, hq9, hr9, ho9, hb⟩
                replace PT := hid (PT.out.step hb); replace HQ := hid (below_then HQ.out hb)
                clear hb
                have RO := hid (ho9.mono (show W2.heap.size ≤ _ by have := HQ.out.size; have := hpre.out; have := hpl6.out; have := hlo6.out; have := PT.out.lt; omega))
                have RQ := hid hq9
                have RS := hid hr9.rcr
                clear hr9 ho9 hq9
                go_wp2_with fail
                clear hpre hpl6
                refine hK.out _ _ (hKP.out _ HQ.out) (fun hS' => ?_)
                clear hK K hS
                have hS := hS'
                clear hS'
                (try simp only [Act.put, List.setIfInBounds_toArray, List.set_cons_zero, List.set_cons_succ])
                refine tk1 (i := 8) (v := ?_) (hy := Or.inl ⟨by rfl, ?_⟩) (hS := hS) (h := ?_)
                rotate_left
                · intro w' hSw; (try dsimp only at hSw); go_split_ands; go_simp; (try with_reducible rfl)
                (try simp only [Act.put, List.setIfInBounds_toArray, List.set_cons_zero, List.set_cons_succ])
                refine tk1 (i := 9) (v := ?_) (hy := Or.inl ⟨by rfl, ?_⟩) (hS := hS) (h := ?_)
                rotate_left
                · intro w' hSw; (try dsimp only at hSw); go_split_ands; go_simp; (try with_reducible rfl)
                (try simp only [Act.put, List.setIfInBounds_toArray, List.set_cons_zero, List.set_cons_succ])
                refine tk1 (i := 10) (v := ?_) (hy := Or.inl ⟨by rfl, ?_⟩) (hS := hS) (h := ?_)
                rotate_left
                · intro w' hSw; (try dsimp only at hSw); go_split_ands; go_simp; (try with_reducible rfl)
                (try simp only [Act.put, List.setIfInBounds_toArray, List.set_cons_zero, List.set_cons_succ])
                refine tk1 (i := 11) (v := ?_) (hy := Or.inl ⟨by rfl, ?_⟩) (hS := hS) (h := ?_)
                rotate_left
                · intro w' hSw; (try dsimp only at hSw); go_split_ands; go_simp; (try with_reducible rfl)
                (try simp only [Act.put, List.setIfInBounds_toArray, List.set_cons_zero, List.set_cons_succ])
                refine rd1 (rs := [12]) (h := ?_)
                refine cs1 (h := fun K hK => ?_) (hs := ?_)
                ·skip
                 have hpre := hid (show W2.heap.size ≤ wpl.heap.size from HQ.out.size)
                 go_simp
                 refine named_alloc ?_
                 intro Wa12 hbk hb hsz
                 have RT := hid ((RS.out.above.mono (q := fun i => i = wpl.heap.size) (fun i hi => by subst hi; exact Nat.le_refl _)).step hb)
                 replace PT := hid (PT.out.step hb); replace RS := hid (RS.out.step hb); replace RO := hid (RO.out.step hb); replace HQ := hid (below_then HQ.out hb)
                 obtain ⟨ga12, hga⟩ : ∃ g, g = wpl.heap.size := ⟨_, rfl⟩
                 rw [← hga] at hbk ⊢
                 rw [← hga] at RT
                 have hlo12 := hid (show W2.heap.size ≤ ga12 by have := hpre.out; omega)
                 have ZR := hid hbk
                 clear hb hbk hsz hga hpre
                 refine hK.out _ _ (hKP.out _ HQ.out) (fun hS' => ?_)
                 clear hK K hS
                 have hS := hS'
                 clear hS'
                 (try simp only [Act.put, List.setIfInBounds_toArray, List.set_cons_zero, List.set_cons_succ])
                 revert hS; revert hlo12; revert hlo6; revert RT; revert RQ; revert HQ; revert ZR; revert RS; revert RO; revert PT; revert ga12; revert kr9; revert R9; revert es9; revert a9; revert ga6; revert Wa12
                 exact K0.out
                exact AllReadyH.nil
               refine cs1 (h := fun K hK => ?_) (hs := ?_)
               ·skip
                have hpre := hid (show W2.heap.size ≤ Wa6.heap.size from HQ.out.size)
                go_simp
                refine named_alloc ?_
                intro Wa12 hbk hb hsz
                skip
                replace PT := hid (PT.out.step hb); replace HQ := hid (below_then HQ.out hb)
                obtain ⟨ga12, hga⟩ : ∃ g, g = Wa6.heap.size := ⟨_, rfl⟩
                rw [← hga] at hbk ⊢
                have hlo12 := hid (show W2.heap.size ≤ ga12 by have := hpre.out; omega)
                have ZR := hid hbk
                clear hb hbk hsz hga hpre
                refine hK.out _ _ (hKP.out _ HQ.out) (fun hS' => ?_)
                clear hK K hS
                have hS := hS'
                clear hS'
                (try simp only [Act.put, List.setIfInBounds_toArray, List.set_cons_zero, List.set_cons_succ])
                revert hS; revert hlo12; revert hlo6; revert HQ; revert ZR; revert PT; revert ga12; revert ga6; revert Wa12
                exact K1.out
               exact AllReadyH.nil
              refine cs1 (h := fun K hK => ?_) (hs := ?_)
              ·skip
               have hpre := hid (show W2.heap.size ≤ wp5.heap.size from HQ.out.size)
               go_simp
               refine named_alloc ?_
               intro Wa12 hbk hb hsz
               skip
               replace HQ := hid (below_then HQ.out hb)
               obtain ⟨ga12, hga⟩ : ∃ g, g = wp5.heap.size := ⟨_, rfl⟩
               rw [← hga] at hbk ⊢
               have hlo12 := hid (show W2.heap.size ≤ ga12 by have := hpre.out; omega)
               have ZR := hid hbk
               clear hb hbk hsz hga hpre
               refine hK.out _ _ (hKP.out _ HQ.out) (fun hS' => ?_)
               clear hK K hS
               have hS := hS'
               clear hS'
               (try simp only [Act.put, List.setIfInBounds_toArray, List.set_cons_zero, List.set_cons_succ])
               revert hS; revert hlo12; revert HQ; revert ZR; revert ga12; revert Wa12
               exact K2.out
              exact AllReadyH.nil
             refine cs1 (h := fun K hK => ?_) (hs := ?_)
             ·skip
              have hpre := hid (show W2.heap.size ≤ wp4.heap.size from HQ.out.size)
              go_simp
              refine named_alloc ?_
              intro Wa12 hbk hb hsz
              skip
              replace HQ := hid (below_then HQ.out hb)
              obtain ⟨ga12, hga⟩ : ∃ g, g = wp4.heap.size := ⟨_, rfl⟩
              rw [← hga] at hbk ⊢
              have hlo12 := hid (show W2.heap.size ≤ ga12 by have := hpre.out; omega)
              have ZR := hid hbk
              clear hb hbk hsz hga hpre
              refine hK.out _ _ (hKP.out _ HQ.out) (fun hS' => ?_)
              clear hK K hS
              have hS := hS'
              clear hS'
              (try simp only [Act.put, List.setIfInBounds_toArray, List.set_cons_zero, List.set_cons_succ])
              revert hS; revert hlo12; revert HQ; revert ZR; revert ga12; revert Wa12
              exact K3.out
             exact AllReadyH.nil
            refine cs1 (h := fun K hK => ?_) (hs := ?_)
            ·skip
             have hpre := hid (show W2.heap.size ≤ wp3.heap.size from HQ.out.size)
             go_simp
             refine named_alloc ?_
             intro Wa12 hbk hb hsz
             skip
             replace HQ := hid (below_then HQ.out hb)
             obtain ⟨ga12, hga⟩ : ∃ g, g = wp3.heap.size := ⟨_, rfl⟩
             rw [← hga] at hbk ⊢
             have hlo12 := hid (show W2.heap.size ≤ ga12 by have := hpre.out; omega)
             have ZR := hid hbk
             clear hb hbk hsz hga hpre
             refine hK.out _ _ (hKP.out _ HQ.out) (fun hS' => ?_)
             clear hK K hS
             have hS := hS'
             clear hS'
             (try simp only [Act.put, List.setIfInBounds_toArray, List.set_cons_zero, List.set_cons_succ])
             revert hS; revert hlo12; revert HQ; revert ZR; revert ga12; revert Wa12
             exact K4.out
            exact AllReadyH.nil
           refine cs1 (h := fun K hK => ?_) (hs := ?_)
           ·skip
            have hpre := hid (show W2.heap.size ≤ wp2.heap.size from HQ.out.size)
            go_simp
            refine named_alloc ?_
            intro Wa12 hbk hb hsz
            skip
            replace HQ := hid (below_then HQ.out hb)
            obtain ⟨ga12, hga⟩ : ∃ g, g = wp2.heap.size := ⟨_, rfl⟩
            rw [← hga] at hbk ⊢
            have hlo12 := hid (show W2.heap.size ≤ ga12 by have := hpre.out; omega)
            have ZR := hid hbk
            clear hb hbk hsz hga hpre
            refine hK.out _ _ (hKP.out _ HQ.out) (fun hS' => ?_)
            clear hK K hS
            have hS := hS'
            clear hS'
            (try simp only [Act.put, List.setIfInBounds_toArray, List.set_cons_zero, List.set_cons_succ])
            revert hS; revert hlo12; revert HQ; revert ZR; revert ga12; revert Wa12
            exact K5.out
           exact AllReadyH.nil
          refine cs1 (h := fun K hK => ?_) (hs := ?_)
          ·skip
           have hpre := hid (show W2.heap.size ≤ wp1.heap.size from HQ.out.size)
           go_simp
           refine named_alloc ?_
           intro Wa12 hbk hb hsz
           skip
           replace HQ := hid (below_then HQ.out hb)
           obtain ⟨ga12, hga⟩ : ∃ g, g = wp1.heap.size := ⟨_, rfl⟩
           rw [← hga] at hbk ⊢
           have hlo12 := hid (show W2.heap.size ≤ ga12 by have := hpre.out; omega)
           have ZR := hid hbk
           clear hb hbk hsz hga hpre
           refine hK.out _ _ (hKP.out _ HQ.out) (fun hS' => ?_)
           clear hK K hS
           have hS := hS'
           clear hS'
           (try simp only [Act.put, List.setIfInBounds_toArray, List.set_cons_zero, List.set_cons_succ])
           revert hS; revert hlo12; revert HQ; revert ZR; revert ga12; revert Wa12
           exact K6.out
          exact AllReadyH.nil
         refine cs1 (h := fun K hK => ?_) (hs := ?_)
         ·skip
          have hpre := hid (show W2.heap.size ≤ Wd.heap.size from HQ.out.size)
          go_simp
          refine named_alloc ?_
          intro Wa12 hbk hb hsz
          skip
          replace HQ := hid (below_then HQ.out hb)
          obtain ⟨ga12, hga⟩ : ∃ g, g = Wd.heap.size := ⟨_, rfl⟩
          rw [← hga] at hbk ⊢
          have hlo12 := hid (show W2.heap.size ≤ ga12 by have := hpre.out; omega)
          have ZR := hid hbk
          clear hb hbk hsz hga hpre
          refine hK.out _ _ (hKP.out _ HQ.out) (fun hS' => ?_)
          clear hK K hS
          have hS := hS'
          clear hS'
          (try simp only [Act.put, List.setIfInBounds_toArray, List.set_cons_zero, List.set_cons_succ])
          refine rd1 (rs := [1]) (h := ?_)
          refine cs1 (h := fun K hK => ?_) (hs := ?_)
          ·skip
           have hpre := hid (show W2.heap.size ≤ Wa12.heap.size from HQ.out.size)
           have hpl12 := hid ZR.out.lt
           go_simp
           refine (op_any 1 1 0 _).mono ?_
           rintro e wp1 ⟨rfl, hb⟩
           replace ZR := hid (ZR.out.step hb); replace HQ := hid (below_then HQ.out hb)
           clear hb
           go_wp2_with fail
           clear hpre hpl12
           refine hK.out _ _ (hKP.out _ HQ.out) (fun hS' => ?_)
           clear hK K hS
           have hS := hS'
           clear hS'
           (try simp only [Act.put, List.setIfInBounds_toArray, List.set_cons_zero, List.set_cons_succ])
           revert hS; revert hlo12; revert HQ; revert ZR; revert ga12; revert wp1
           exact K6.out
          exact AllReadyH.nil
         exact AllReadyH.nil
        ·skip
         intro Wm ga12 ZR HQ hlo12 hS
         refine rd1 (rs := [2]) (h := ?_)
         refine cs1 (h := fun K hK => ?_) (hs := ?_)
         ·skip
          have hpre := hid (show W2.heap.size ≤ Wm.heap.size from HQ.out.size)
          have hpl12 := hid ZR.out.lt
          go_simp
          refine (op_any 3 0 7 _).mono ?_
          rintro e wp2 ⟨rfl, hb⟩
          replace ZR := hid (ZR.out.step hb); replace HQ := hid (below_then HQ.out hb)
          clear hb
          go_wp2_with fail
          clear hpre hpl12
          refine hK.out _ _ (hKP.out _ HQ.out) (fun hS' => ?_)
          clear hK K hS
          have hS := hS'
          clear hS'
          (try simp only [Act.put, List.setIfInBounds_toArray, List.set_cons_zero, List.set_cons_succ])
          revert hS; revert hlo12; revert HQ; revert ZR; revert ga12; revert wp2
          exact K5.out
         exact AllReadyH.nil
        ·skip
         intro Wm ga12 ZR HQ hlo12 hS
         refine rd1 (rs := [3]) (h := ?_)
         refine cs1 (h := fun K hK => ?_) (hs := ?_)
         ·skip
          have hpre := hid (show W2.heap.size ≤ Wm.heap.size from HQ.out.size)
          have hpl12 := hid ZR.out.lt
          go_simp
          refine (op_any 4 0 0 _).mono ?_
          rintro e wp3 ⟨rfl, hb⟩
          replace ZR := hid (ZR.out.step hb); replace HQ := hid (below_then HQ.out hb)
          clear hb
          go_wp2_with fail
          clear hpre hpl12
          refine hK.out _ _ (hKP.out _ HQ.out) (fun hS' => ?_)
          clear hK K hS
          have hS := hS'
          clear hS'
          (try simp only [Act.put, List.setIfInBounds_toArray, List.set_cons_zero, List.set_cons_succ])
          revert hS; revert hlo12; revert HQ; revert ZR; revert ga12; revert wp3
          exact K4.out
         exact AllReadyH.nil
        ·skip
         intro Wm ga12 ZR HQ hlo12 hS
         refine rd1 (rs := [4]) (h := ?_)
         refine cs1 (h := fun K hK => ?_) (hs := ?_)
         ·skip
          have hpre := hid (show W2.heap.size ≤ Wm.heap.size from HQ.out.size)
          have hpl12 := hid ZR.out.lt
          go_simp
          refine (op_any 4 0 0 _).mono ?_
          rintro e wp4 ⟨rfl, hb⟩
          replace ZR := hid (ZR.out.step hb); replace HQ := hid (below_then HQ.out hb)
          clear hb
          go_wp2_with fail
          clear hpre hpl12
          refine hK.out _ _ (hKP.out _ HQ.out) (fun hS' => ?_)
          clear hK K hS
          have hS := hS'
          clear hS'
          (try simp only [Act.put, List.setIfInBounds_toArray, List.set_cons_zero, List.set_cons_succ])
          revert hS; revert hlo12; revert HQ; revert ZR; revert ga12; revert wp4
          exact K3.out
         exact AllReadyH.nil
        ·skip
         intro Wm ga12 ZR HQ hlo12 hS
         refine rd1 (rs := [5]) (h := ?_)
         refine cs1 (h := fun K hK => ?_) (hs := ?_)
         ·skip
          have hpre := hid (show W2.heap.size ≤ Wm.heap.size from HQ.out.size)
          have hpl12 := hid ZR.out.lt
          go_simp
          refine (op_any 4 1 0 _).mono ?_
          rintro e wp5 ⟨rfl, hb⟩
          replace ZR := hid (ZR.out.step hb); replace HQ := hid (below_then HQ.out hb)
          clear hb
          go_wp2_with fail
          clear hpre hpl12
          refine hK.out _ _ (hKP.out _ HQ.out) (fun hS' => ?_)
          clear hK K hS
          have hS := hS'
          clear hS'
          (try simp only [Act.put, List.setIfInBounds_toArray, List.set_cons_zero, List.set_cons_succ])
          revert hS; revert hlo12; revert HQ; revert ZR; revert ga12; revert wp5
          exact K2.out
         exact AllReadyH.nil
        ·skip
         intro Wm ga12 ZR HQ hlo12 hS
         refine rd1 (rs := [6]) (h := ?_)
         refine cs1 (h := fun K hK => ?_) (hs := ?_)
         ·skip
          have hpre := hid (show W2.heap.size ≤ Wm.heap.size from HQ.out.size)
          go_simp
          refine named_alloc ?_
          intro Wa6 hbk hb hsz
          replace ZR := hid (ZR.out.step hb); replace HQ := hid (below_then HQ.out hb)
          obtain ⟨ga6, hga⟩ : ∃ g, g = Wm.heap.size := ⟨_, rfl⟩
          rw [← hga] at hbk ⊢
          have hlo6 := hid (show W2.heap.size ≤ ga6 by have := hpre.out; omega)
          have PT := hid hbk
          clear hb hbk hsz hga hpre
          refine hK.out _ _ (hKP.out _ HQ.out) (fun hS' => ?_)
          clear hK K hS
          have hS := hS'
          clear hS'
          (try simp only [Act.put, List.setIfInBounds_toArray, List.set_cons_zero, List.set_cons_succ])
          revert hS; revert hlo12; revert hlo6; revert HQ; revert ZR; revert PT; revert ga12; revert ga6; revert Wa6
          exact K1.out
         exact AllReadyH.nil
        ·skip
         intro Wm ga6 ga12 PT ZR HQ hlo6 hlo12 hS
         refine rd1 (rs := [7]) (h := ?_)
         refine cs1 (h := fun K hK => ?_) (hs := ?_)
         ·skip
          have hpre := hid (show W2.heap.size ≤ Wm.heap.size from HQ.out.size)
          have hpl6 := hid PT.out.lt
          have hpl12 := hid ZR.out.lt
          go_simp
          refine (wk_run (L := T2) (some ⟨_, 0, none⟩) 5 5 _ (XR.out.step HQ.out) HQ1.out (PT.out.smO (xs := T2) rfl (by intro k hk j hj; have hk' : k < 5 := hk; have hj' : j < 3 := hj; match k, hk', j, hj' with | 0, _, 0, _ => rfl | 0, _, 1, _ => rfl | 0, _, 2, _ => rfl | 1, _, 0, _ => rfl | 1, _, 1, _ => rfl | 1, _, 2, _ => rfl | 2, _, 0, _ => rfl | 2, _, 1, _ => rfl | 2, _, 2, _ => rfl | 3, _, 0, _ => rfl | 3, _, 1, _ => rfl | 3, _, 2, _ => rfl | 4, _, 0, _ => rfl | 4, _, 1, _ => rfl | 4, _, 2, _ => rfl)) (by omega) G2.out).mono ?_
          rintro e wpl ⟨a9, es9, R9, kr9, rfl, hq9, hr9, ho9, hb⟩
          replace PT := hid (PT.out.step hb); replace ZR := hid (ZR.out.step hb); replace HQ := hid (below_then HQ.out hb)
          clear hb
          have RO := hid (ho9.mono (show W2.heap.size ≤ _ by have := HQ.out.size; have := hpre.out; have := hpl6.out; have := hpl12.out; have := hlo6.out; have := PT.out.lt; have := hlo12.out; have := ZR.out.lt; omega))
          have RQ := hid hq9
          have RS := hid hr9.rcr
          have RT := hid (hr9.mono (q := fun i => i = ga12) (fun i hi => by subst hi; exact hpl12.out))
          clear hr9 ho9 hq9
          go_wp2_with fail
          clear hpre hpl6 hpl12
          refine hK.out _ _ (hKP.out _ HQ.out) (fun hS' => ?_)
          clear hK K hS
          have hS := hS'
          clear hS'
          (try simp only [Act.put, List.setIfInBounds_toArray, List.set_cons_zero, List.set_cons_succ])
          refine tk1 (i := 8) (v := ?_) (hy := Or.inl ⟨by rfl, ?_⟩) (hS := hS) (h := ?_)
          rotate_left
          · intro w' hSw; (try dsimp only at hSw); go_split_ands; go_simp; (try with_reducible rfl)
          (try simp only [Act.put, List.setIfInBounds_toArray, List.set_cons_zero, List.set_cons_succ])
          refine tk1 (i := 9) (v := ?_) (hy := Or.inl ⟨by rfl, ?_⟩) (hS := hS) (h := ?_)
          rotate_left
          · intro w' hSw; (try dsimp only at hSw); go_split_ands; go_simp; (try with_reducible rfl)
          (try simp only [Act.put, List.setIfInBounds_toArray, List.set_cons_zero, List.set_cons_succ])
          refine tk1 (i := 10) (v := ?_) (hy := Or.inl ⟨by rfl, ?_⟩) (hS := hS) (h := ?_)
          rotate_left
          · intro w' hSw; (try dsimp only at hSw); go_split_ands; go_simp; (try with_reducible rfl)
          (try simp only [Act.put, List.setIfInBounds_toArray, List.set_cons_zero, List.set_cons_succ])
          refine tk1 (i := 11) (v := ?_) (hy := Or.inl ⟨by rfl, ?_⟩) (hS := hS) (h := ?_)
          rotate_left
          · intro w' hSw; (try dsimp only at hSw); go_split_ands; go_simp; (try with_reducible rfl)
          (try simp only [Act.put, List.setIfInBounds_toArray, List.set_cons_zero, List.set_cons_succ])
          revert hS; revert hlo12; revert hlo6; revert RT; revert RQ; revert HQ; revert ZR; revert RS; revert RO; revert PT; revert ga12; revert kr9; revert R9; revert es9; revert a9; revert ga6; revert wpl
          exact K0.out
         exact AllReadyH.nil
        ·skip
         intro Wm ga6 a9 es9 R9 kr9 ga12 PT RO RS ZR HQ RQ RT hlo6 hlo12 hS
         refine rd1 (rs := [13]) (h := ?_)
         refine cs1 (h := fun K hK => ?_) (hs := ?_)
         ·skip
          have hpre := hid (show W2.heap.size ≤ Wm.heap.size from HQ.out.size)
          obtain ⟨y00, y01, y02, y03, y04, y05, y06, y07, yf0⟩ := ZR.out.cells8
          go_simp
          clear y00 y01 y02 y03 y04 y05 y06 y07 yf0
          refine named_store_8_8_0 ZR.out ?_
          intro Ws13 hbk hgr hsz
          clear hsz
          replace RO := hid (RO.out.keptR ZR.out (by decide) hgr)
          replace HQ := hid (HQ.out.grown hgr HQ.out.size (fun r e => by cases e; have := HQ.out.size; have := hlo6.out; have := PT.out.lt; have := hlo12.out; have := ZR.out.lt; omega))
          replace RS := hid (RT.out.turn hgr rfl).rcr
          clear RT
          replace ZR := hid hbk
          clear hbk hgr hpre
          refine hK.out _ _ (hKP.out _ HQ.out) (fun hS' => ?_)
          clear hK K hS
          have hS := hS'
          clear hS'
          (try simp only [Act.put, List.setIfInBounds_toArray, List.set_cons_zero, List.set_cons_succ])
          refine tk1 (i := 14) (v := ?_) (hy := Or.inl ⟨by rfl, ?_⟩) (hS := hS) (h := ?_)
          rotate_left
          · intro w' hSw; (try dsimp only at hSw); go_split_ands; go_simp; (try with_reducible rfl)
          (try simp only [Act.put, List.setIfInBounds_toArray, List.set_cons_zero, List.set_cons_succ])
          refine tk1 (i := 15) (v := ?_) (hy := Or.inl ⟨by rfl, ?_⟩) (hS := hS) (h := ?_)
          rotate_left
          · intro w' hSw; (try dsimp only at hSw); go_split_ands; go_simp; (try with_reducible rfl)
          (try simp only [Act.put, List.setIfInBounds_toArray, List.set_cons_zero, List.set_cons_succ])
          refine wpAnyH_done (by kernel_rfl) ?_ _
          refine NoPanic.normal ?_
          clear hS
          go_wp2_with fail
          go_meet
          exact ⟨_, _, _, rfl, rfl, ZR.out, RS.out, RQ.out, HQ.out, hlo12.out⟩
         exact AllReadyH.nil
    case rest =>
      obtain ⟨g6, a6, es6, rfl, rfl, h1, h2, h3, h4, h5⟩ := hcut
      rename World => W3
      have P6 := hid h1; have S6 := hid h2
      replace HB := hid (below_then HB.out h4); replace XP := hid (XP.out.step h4); replace XR := hid (XR.out.step h4); replace EL := hid (EL.out.step h4)
      have HK6 := hid (show RcGood s1 g1 (ql es6) by rw [h3]; exact HG1.out)
      have G4 := hid (show (opsA s1 g1 (ql es6) [] [(5, 0, 0)]).1 = 4 by rw [h3]; exact F4.out)
      have G5 := hid (show opsA s1 g1 (ql es6) [] T3 = (0, s3, g3, q3, [7]) by rw [h3]; exact F5.out)
      have N6 := hid (show wN (ql es6) = 1 by rw [h3]; exact F3.out)
      clear h1 h2 h3 h4 h5 HQ F3 F4 F5 HG1 G1 G2
      have HQ := hid (Below.refl W3.heap.size W3)
      go_upto_region 4 with fail
      go_cut [9, 10, 11] (fun s9 s10 s11 wx => s11 = .int .i64 4 ∧ Below W3.heap.size W3 wx)
      case first =>
          have hKP := hid (show ∀ W' : World, Below W3.heap.size W3 W' → (fun W' : World => W'.cell? ⟨g6, 0, none⟩ = some (.int .i64 s1.1) ∧ W'.cell? ⟨g6, 1, none⟩ = some (.slice a6.A a6.n a6.k) ∧ W'.cell? ⟨g6, 2, none⟩ = some (.slice a6.B a6.m a6.d) ∧ W'.cell? ⟨g6, 3, none⟩ = some (.int .i64 g1.dn) ∧ W'.cell? ⟨g6, 4, none⟩ = some (.int .i64 g1.ak) ∧ W'.cell? ⟨g6, 5, none⟩ = some (.bool g1.on) ∧ W'.cell? ⟨g6, 6, none⟩ = some (.slice a6.D g1.nd.length a6.kd) ∧ W'.cell? ⟨g6, 7, none⟩ = some (.slice a6.Q a6.nq a6.kq)) W' from fun W' hb => ⟨(P6.out.step hb).cells8.1, (P6.out.step hb).cells8.2.1, (P6.out.step hb).cells8.2.2.1, (P6.out.step hb).cells8.2.2.2.1, (P6.out.step hb).cells8.2.2.2.2.1, (P6.out.step hb).cells8.2.2.2.2.2.1, (P6.out.step hb).cells8.2.2.2.2.2.2.1, (P6.out.step hb).cells8.2.2.2.2.2.2.2.1⟩)
          refine' merge_by (fun K0 => ?_) ?_
          rotate_left
          refine' merge_by (fun K1 => ?_) ?_
          rotate_left
          ·skip
           have bx := (Below.refl W3.heap.size W3).drew
           replace HQ := hid (below_then HQ.out bx)
           clear bx
           refine wp_region_noPanic ?_
           refine wp_region_held_drew (S := (fun W' : World => W'.cell? ⟨g6, 0, none⟩ = some (.int .i64 s1.1) ∧ W'.cell? ⟨g6, 1, none⟩ = some (.slice a6.A a6.n a6.k) ∧ W'.cell? ⟨g6, 2, none⟩ = some (.slice a6.B a6.m a6.d) ∧ W'.cell? ⟨g6, 3, none⟩ = some (.int .i64 g1.dn) ∧ W'.cell? ⟨g6, 4, none⟩ = some (.int .i64 g1.ak) ∧ W'.cell? ⟨g6, 5, none⟩ = some (.bool g1.on) ∧ W'.cell? ⟨g6, 6, none⟩ = some (.slice a6.D g1.nd.length a6.kd) ∧ W'.cell? ⟨g6, 7, none⟩ = some (.slice a6.Q a6.nq a6.kq))) (by kernel_rfl) (hKP.out _ HQ.out) (fun hS => ?_)
           generalize W3.drew = Wd at *
           refine tk1 (i := 0) (v := ?_) (hy := Or.inl ⟨by rfl, ?_⟩) (hS := hS) (h := ?_)
           rotate_left
           · intro w' hSw; (try dsimp only at hSw); go_split_ands; go_simp; (try with_reducible rfl)
           (try simp only [Act.put, List.setIfInBounds_toArray, List.set_cons_zero, List.set_cons_succ])
           refine rd1 (rs := [1, 7]) (h := ?_)
           refine cs1 (h := fun K hK => ?_) (hs := ?_)
           ·skip
            have hpre := hid (show W3.heap.size ≤ Wd.heap.size from HQ.out.size)
            go_simp
            refine (op_any 5 0 0 _).mono ?_
            rintro e wp1 ⟨rfl, hb⟩
            replace HQ := hid (below_then HQ.out hb)
            clear hb
            go_wp2_with fail
            clear hpre
            refine hK.out _ _ (hKP.out _ HQ.out) (fun hS' => ?_)
            clear hK K hS
            have hS := hS'
            clear hS'
            (try simp only [Act.put, List.setIfInBounds_toArray, List.set_cons_zero, List.set_cons_succ])
            refine rd1 (rs := [2, 7]) (h := ?_)
            refine cs1 (h := fun K hK => ?_) (hs := ?_)
            ·skip
             have hpre := hid (show W3.heap.size ≤ wp1.heap.size from HQ.out.size)
             go_simp
             refine (wk_no (o := (5, 0, 0)) _ (S6.out.step HQ.out) HK6.out G4.out (by decide)).mono ?_
             rintro e wp2 ⟨⟨a9, rfl⟩, hb⟩
             replace HQ := hid (below_then HQ.out hb)
             clear hb
             go_wp2_with fail
             clear hpre
             refine hK.out _ _ (hKP.out _ HQ.out) (fun hS' => ?_)
             clear hK K hS
             have hS := hS'
             clear hS'
             (try simp only [Act.put, List.setIfInBounds_toArray, List.set_cons_zero, List.set_cons_succ])
             refine tk1 (i := 3) (v := ?_) (hy := Or.inl ⟨by rfl, ?_⟩) (hS := hS) (h := ?_)
             rotate_left
             · intro w' hSw; (try dsimp only at hSw); go_split_ands; go_simp; (try with_reducible rfl)
             (try simp only [Act.put, List.setIfInBounds_toArray, List.set_cons_zero, List.set_cons_succ])
             refine tk1 (i := 4) (v := ?_) (hy := Or.inl ⟨by rfl, ?_⟩) (hS := hS) (h := ?_)
             rotate_left
             · intro w' hSw; (try dsimp only at hSw); go_split_ands; go_simp; (try with_reducible rfl)
             (try simp only [Act.put, List.setIfInBounds_toArray, List.set_cons_zero, List.set_cons_succ])
             refine tk1 (i := 5) (v := ?_) (hy := Or.inl ⟨by rfl, ?_⟩) (hS := hS) (h := ?_)
             rotate_left
             · intro w' hSw; (try dsimp only at hSw); go_split_ands; go_simp; (try with_reducible rfl)
             (try simp only [Act.put, List.setIfInBounds_toArray, List.set_cons_zero, List.set_cons_succ])
             refine tk1 (i := 6) (v := ?_) (hy := Or.inl ⟨by rfl, ?_⟩) (hS := hS) (h := ?_)
             rotate_left
             · intro w' hSw; (try dsimp only at hSw); go_split_ands; go_simp; (try with_reducible rfl)
             (try simp only [Act.put, List.setIfInBounds_toArray, List.set_cons_zero, List.set_cons_succ])
             refine rd1 (rs := [7]) (h := ?_)
             refine cs1 (h := fun K hK => ?_) (hs := ?_)
             ·skip
              have hpre := hid (show W3.heap.size ≤ wp2.heap.size from HQ.out.size)
              go_simp
              refine named_alloc ?_
              intro Wa7 hbk hb hsz
              replace HQ := hid (below_then HQ.out hb)
              obtain ⟨ga7, hga⟩ : ∃ g, g = wp2.heap.size := ⟨_, rfl⟩
              rw [← hga] at hbk ⊢
              have hlo7 := hid (show W3.heap.size ≤ ga7 by have := hpre.out; omega)
              have ZR := hid hbk
              clear hb hbk hsz hga hpre
              refine hK.out _ _ (hKP.out _ HQ.out) (fun hS' => ?_)
              clear hK K hS
              have hS := hS'
              clear hS'
              (try simp only [Act.put, List.setIfInBounds_toArray, List.set_cons_zero, List.set_cons_succ])
              revert hS; revert hlo7; revert HQ; revert ZR; revert ga7; revert a9; revert Wa7
              exact K0.out
             exact AllReadyH.nil
            refine cs1 (h := fun K hK => ?_) (hs := ?_)
            ·skip
             have hpre := hid (show W3.heap.size ≤ wp1.heap.size from HQ.out.size)
             go_simp
             refine named_alloc ?_
             intro Wa7 hbk hb hsz
             replace HQ := hid (below_then HQ.out hb)
             obtain ⟨ga7, hga⟩ : ∃ g, g = wp1.heap.size := ⟨_, rfl⟩
             rw [← hga] at hbk ⊢
             have hlo7 := hid (show W3.heap.size ≤ ga7 by have := hpre.out; omega)
             have ZR := hid hbk
             clear hb hbk hsz hga hpre
             refine hK.out _ _ (hKP.out _ HQ.out) (fun hS' => ?_)
             clear hK K hS
             have hS := hS'
             clear hS'
             (try simp only [Act.put, List.setIfInBounds_toArray, List.set_cons_zero, List.set_cons_succ])
             revert hS; revert hlo7; revert HQ; revert ZR; revert ga7; revert Wa7
             exact K1.out
            exact AllReadyH.nil
           refine cs1 (h := fun K hK => ?_) (hs := ?_)
           ·skip
            have hpre := hid (show W3.heap.size ≤ Wd.heap.size from HQ.out.size)
            go_simp
            refine named_alloc ?_
            intro Wa7 hbk hb hsz
            replace HQ := hid (below_then HQ.out hb)
            obtain ⟨ga7, hga⟩ : ∃ g, g = Wd.heap.size := ⟨_, rfl⟩
            rw [← hga] at hbk ⊢
            have hlo7 := hid (show W3.heap.size ≤ ga7 by have := hpre.out; omega)
            have ZR := hid hbk
            clear hb hbk hsz hga hpre
            refine hK.out _ _ (hKP.out _ HQ.out) (fun hS' => ?_)
            clear hK K hS
            have hS := hS'
            clear hS'
            (try simp only [Act.put, List.setIfInBounds_toArray, List.set_cons_zero, List.set_cons_succ])
            refine rd1 (rs := [1]) (h := ?_)
            refine cs1 (h := fun K hK => ?_) (hs := ?_)
            ·skip
             have hpre := hid (show W3.heap.size ≤ Wa7.heap.size from HQ.out.size)
             have hpl7 := hid ZR.out.lt
             go_simp
             refine (op_any 5 0 0 _).mono ?_
             rintro e wp1 ⟨rfl, hb⟩
             replace ZR := hid (ZR.out.step hb); replace HQ := hid (below_then HQ.out hb)
             clear hb
             go_wp2_with fail
             clear hpre hpl7
             refine hK.out _ _ (hKP.out _ HQ.out) (fun hS' => ?_)
             clear hK K hS
             have hS := hS'
             clear hS'
             (try simp only [Act.put, List.setIfInBounds_toArray, List.set_cons_zero, List.set_cons_succ])
             revert hS; revert hlo7; revert HQ; revert ZR; revert ga7; revert wp1
             exact K1.out
            exact AllReadyH.nil
           exact AllReadyH.nil
          ·skip
           intro Wm ga7 ZR HQ hlo7 hS
           refine rd1 (rs := [2]) (h := ?_)
           refine cs1 (h := fun K hK => ?_) (hs := ?_)
           ·skip
            have hpre := hid (show W3.heap.size ≤ Wm.heap.size from HQ.out.size)
            have hpl7 := hid ZR.out.lt
            go_simp
            refine (wk_no (o := (5, 0, 0)) _ (S6.out.step HQ.out) HK6.out G4.out (by decide)).mono ?_
            rintro e wp2 ⟨⟨a9, rfl⟩, hb⟩
            replace ZR := hid (ZR.out.step hb); replace HQ := hid (below_then HQ.out hb)
            clear hb
            go_wp2_with fail
            clear hpre hpl7
            refine hK.out _ _ (hKP.out _ HQ.out) (fun hS' => ?_)
            clear hK K hS
            have hS := hS'
            clear hS'
            (try simp only [Act.put, List.setIfInBounds_toArray, List.set_cons_zero, List.set_cons_succ])
            refine tk1 (i := 3) (v := ?_) (hy := Or.inl ⟨by rfl, ?_⟩) (hS := hS) (h := ?_)
            rotate_left
            · intro w' hSw; (try dsimp only at hSw); go_split_ands; go_simp; (try with_reducible rfl)
            (try simp only [Act.put, List.setIfInBounds_toArray, List.set_cons_zero, List.set_cons_succ])
            refine tk1 (i := 4) (v := ?_) (hy := Or.inl ⟨by rfl, ?_⟩) (hS := hS) (h := ?_)
            rotate_left
            · intro w' hSw; (try dsimp only at hSw); go_split_ands; go_simp; (try with_reducible rfl)
            (try simp only [Act.put, List.setIfInBounds_toArray, List.set_cons_zero, List.set_cons_succ])
            refine tk1 (i := 5) (v := ?_) (hy := Or.inl ⟨by rfl, ?_⟩) (hS := hS) (h := ?_)
            rotate_left
            · intro w' hSw; (try dsimp only at hSw); go_split_ands; go_simp; (try with_reducible rfl)
            (try simp only [Act.put, List.setIfInBounds_toArray, List.set_cons_zero, List.set_cons_succ])
            refine tk1 (i := 6) (v := ?_) (hy := Or.inl ⟨by rfl, ?_⟩) (hS := hS) (h := ?_)
            rotate_left
            · intro w' hSw; (try dsimp only at hSw); go_split_ands; go_simp; (try with_reducible rfl)
            (try simp only [Act.put, List.setIfInBounds_toArray, List.set_cons_zero, List.set_cons_succ])
            revert hS; revert hlo7; revert HQ; revert ZR; revert ga7; revert a9; revert wp2
            exact K0.out
           exact AllReadyH.nil
          ·skip
           intro Wm a9 ga7 ZR HQ hlo7 hS
           refine rd1 (rs := [8]) (h := ?_)
           refine cs1 (h := fun K hK => ?_) (hs := ?_)
           ·skip
            have hpre := hid (show W3.heap.size ≤ Wm.heap.size from HQ.out.size)
            obtain ⟨y00, y01, y02, y03, y04, y05, y06, y07, yf0⟩ := ZR.out.cells8
            go_simp
            clear y00 y01 y02 y03 y04 y05 y06 y07 yf0
            refine named_store_8_8_0 ZR.out ?_
            intro Ws8 hbk hgr hsz
            clear hsz
            replace HQ := hid (HQ.out.grown hgr HQ.out.size (fun r e => by cases e; have := HQ.out.size; have := hlo7.out; have := ZR.out.lt; omega))
            replace ZR := hid hbk
            clear hbk hgr hpre
            refine hK.out _ _ (hKP.out _ HQ.out) (fun hS' => ?_)
            clear hK K hS
            have hS := hS'
            clear hS'
            (try simp only [Act.put, List.setIfInBounds_toArray, List.set_cons_zero, List.set_cons_succ])
            refine tk1 (i := 9) (v := ?_) (hy := Or.inl ⟨by rfl, ?_⟩) (hS := hS) (h := ?_)
            rotate_left
            · intro w' hSw; (try dsimp only at hSw); go_split_ands; go_simp; (try with_reducible rfl)
            (try simp only [Act.put, List.setIfInBounds_toArray, List.set_cons_zero, List.set_cons_succ])
            refine tk1 (i := 10) (v := ?_) (hy := Or.inl ⟨by rfl, ?_⟩) (hS := hS) (h := ?_)
            rotate_left
            · intro w' hSw; (try dsimp only at hSw); go_split_ands; go_simp; (try with_reducible rfl)
            (try simp only [Act.put, List.setIfInBounds_toArray, List.set_cons_zero, List.set_cons_succ])
            refine wpAnyH_done (by kernel_rfl) ?_ _
            refine NoPanic.normal ?_
            clear hS
            go_wp2_with fail
            go_meet
            exact ⟨rfl, HQ.out⟩
           exact AllReadyH.nil
      case rest =>
        obtain ⟨rfl, h4⟩ := hcut
        rename World => W4
        replace HB := hid (below_then HB.out h4); replace XP := hid (XP.out.step h4); replace XR := hid (XR.out.step h4); replace EL := hid (EL.out.step h4); replace P6 := hid (P6.out.step h4); replace S6 := hid (S6.out.step h4)
        clear h4 HQ
        have HQ := hid (Below.refl W4.heap.size W4)
        go_upto_region 5 with fail
        go_cut [12, 13, 14] (fun s12 s13 s14 wx => ∃ E ke, s13 = .slice E 1 ke ∧ s14 = .int .i64 0 ∧ WkS W4 wx E ke [7])
        case first =>
            have hKP := hid (show ∀ W' : World, Below W4.heap.size W4 W' → (fun W' : World => W'.cell? ⟨g6, 0, none⟩ = some (.int .i64 s1.1) ∧ W'.cell? ⟨g6, 1, none⟩ = some (.slice a6.A a6.n a6.k) ∧ W'.cell? ⟨g6, 2, none⟩ = some (.slice a6.B a6.m a6.d) ∧ W'.cell? ⟨g6, 3, none⟩ = some (.int .i64 g1.dn) ∧ W'.cell? ⟨g6, 4, none⟩ = some (.int .i64 g1.ak) ∧ W'.cell? ⟨g6, 5, none⟩ = some (.bool g1.on) ∧ W'.cell? ⟨g6, 6, none⟩ = some (.slice a6.D g1.nd.length a6.kd) ∧ W'.cell? ⟨g6, 7, none⟩ = some (.slice a6.Q a6.nq a6.kq)) W' from fun W' hb => ⟨(P6.out.step hb).cells8.1, (P6.out.step hb).cells8.2.1, (P6.out.step hb).cells8.2.2.1, (P6.out.step hb).cells8.2.2.2.1, (P6.out.step hb).cells8.2.2.2.2.1, (P6.out.step hb).cells8.2.2.2.2.2.1, (P6.out.step hb).cells8.2.2.2.2.2.2.1, (P6.out.step hb).cells8.2.2.2.2.2.2.2.1⟩)
            refine' merge_by (fun K0 => ?_) ?_
            rotate_left
            refine' merge_by (fun K1 => ?_) ?_
            rotate_left
            refine' merge_by (fun K2 => ?_) ?_
            rotate_left
            refine' merge_by (fun K3 => ?_) ?_
            rotate_left
            refine' merge_by (fun K4 => ?_) ?_
            rotate_left
            ·skip
             have bx := (Below.refl W4.heap.size W4).drew
             replace HQ := hid (below_then HQ.out bx)
             clear bx
             refine wp_region_noPanic ?_
             refine wp_region_held_drew (S := (fun W' : World => W'.cell? ⟨g6, 0, none⟩ = some (.int .i64 s1.1) ∧ W'.cell? ⟨g6, 1, none⟩ = some (.slice a6.A a6.n a6.k) ∧ W'.cell? ⟨g6, 2, none⟩ = some (.slice a6.B a6.m a6.d) ∧ W'.cell? ⟨g6, 3, none⟩ = some (.int .i64 g1.dn) ∧ W'.cell? ⟨g6, 4, none⟩ = some (.int .i64 g1.ak) ∧ W'.cell? ⟨g6, 5, none⟩ = some (.bool g1.on) ∧ W'.cell? ⟨g6, 6, none⟩ = some (.slice a6.D g1.nd.length a6.kd) ∧ W'.cell? ⟨g6, 7, none⟩ = some (.slice a6.Q a6.nq a6.kq))) (by kernel_rfl) (hKP.out _ HQ.out) (fun hS => ?_)
             generalize W4.drew = Wd at *
             refine tk1 (i := 0) (v := ?_) (hy := Or.inl ⟨by rfl, ?_⟩) (hS := hS) (h := ?_)
             rotate_left
             · intro w' hSw; (try dsimp only at hSw); go_split_ands; go_simp; (try with_reducible rfl)
             (try simp only [Act.put, List.setIfInBounds_toArray, List.set_cons_zero, List.set_cons_succ])
             refine rd1 (rs := [1, 10]) (h := ?_)
             refine cs1 (h := fun K hK => ?_) (hs := ?_)
             ·skip
              have hpre := hid (show W4.heap.size ≤ Wd.heap.size from HQ.out.size)
              go_simp
              refine (op_any 2 1 0 _).mono ?_
              rintro e wp1 ⟨rfl, hb⟩
              replace HQ := hid (below_then HQ.out hb)
              clear hb
              go_wp2_with fail
              clear hpre
              refine hK.out _ _ (hKP.out _ HQ.out) (fun hS' => ?_)
              clear hK K hS
              have hS := hS'
              clear hS'
              (try simp only [Act.put, List.setIfInBounds_toArray, List.set_cons_zero, List.set_cons_succ])
              refine rd1 (rs := [2, 10]) (h := ?_)
              refine cs1 (h := fun K hK => ?_) (hs := ?_)
              ·skip
               have hpre := hid (show W4.heap.size ≤ wp1.heap.size from HQ.out.size)
               go_simp
               refine (op_any 4 1 0 _).mono ?_
               rintro e wp2 ⟨rfl, hb⟩
               replace HQ := hid (below_then HQ.out hb)
               clear hb
               go_wp2_with fail
               clear hpre
               refine hK.out _ _ (hKP.out _ HQ.out) (fun hS' => ?_)
               clear hK K hS
               have hS := hS'
               clear hS'
               (try simp only [Act.put, List.setIfInBounds_toArray, List.set_cons_zero, List.set_cons_succ])
               refine rd1 (rs := [3, 10]) (h := ?_)
               refine cs1 (h := fun K hK => ?_) (hs := ?_)
               ·skip
                have hpre := hid (show W4.heap.size ≤ wp2.heap.size from HQ.out.size)
                go_simp
                refine (op_any 5 0 0 _).mono ?_
                rintro e wp3 ⟨rfl, hb⟩
                replace HQ := hid (below_then HQ.out hb)
                clear hb
                go_wp2_with fail
                clear hpre
                refine hK.out _ _ (hKP.out _ HQ.out) (fun hS' => ?_)
                clear hK K hS
                have hS := hS'
                clear hS'
                (try simp only [Act.put, List.setIfInBounds_toArray, List.set_cons_zero, List.set_cons_succ])
                refine rd1 (rs := [4, 10]) (h := ?_)
                refine cs1 (h := fun K hK => ?_) (hs := ?_)
                ·skip
                 have hpre := hid (show W4.heap.size ≤ wp3.heap.size from HQ.out.size)
                 go_simp
                 refine named_alloc ?_
                 intro Wa4 hbk hb hsz
                 replace HQ := hid (below_then HQ.out hb)
                 obtain ⟨ga4, hga⟩ : ∃ g, g = wp3.heap.size := ⟨_, rfl⟩
                 rw [← hga] at hbk ⊢
                 have hlo4 := hid (show W4.heap.size ≤ ga4 by have := hpre.out; omega)
                 have PT := hid hbk
                 clear hb hbk hsz hga hpre
                 refine hK.out _ _ (hKP.out _ HQ.out) (fun hS' => ?_)
                 clear hK K hS
                 have hS := hS'
                 clear hS'
                 (try simp only [Act.put, List.setIfInBounds_toArray, List.set_cons_zero, List.set_cons_succ])
                 refine rd1 (rs := [5, 10]) (h := ?_)
                 refine cs1 (h := fun K hK => ?_) (hs := ?_)
                 ·skip
                  have hpre := hid (show W4.heap.size ≤ Wa4.heap.size from HQ.out.size)
                  have hpl4 := hid PT.out.lt
                  go_simp
                  refine (wk_run (L := T3) (some ⟨_, 0, none⟩) 3 3 _ (S6.out.step HQ.out) HK6.out (PT.out.smO (xs := T3) rfl (by intro k hk j hj; have hk' : k < 3 := hk; have hj' : j < 3 := hj; match k, hk', j, hj' with | 0, _, 0, _ => rfl | 0, _, 1, _ => rfl | 0, _, 2, _ => rfl | 1, _, 0, _ => rfl | 1, _, 1, _ => rfl | 1, _, 2, _ => rfl | 2, _, 0, _ => rfl | 2, _, 1, _ => rfl | 2, _, 2, _ => rfl)) (by omega) G5.out).mono ?_
                  rintro e wpl ⟨a9, es9, R9, kr9, rfl, hq9, hr9, ho9, hb⟩
                  replace PT := hid (PT.out.step hb); replace HQ := hid (below_then HQ.out hb)
                  clear hb
                  have RO := hid (ho9.mono (show W4.heap.size ≤ _ by have := HQ.out.size; have := hpre.out; have := hpl4.out; have := hlo4.out; have := PT.out.lt; omega))
                  clear hr9 ho9 hq9
                  go_wp2_with fail
                  clear hpre hpl4
                  refine hK.out _ _ (hKP.out _ HQ.out) (fun hS' => ?_)
                  clear hK K hS
                  have hS := hS'
                  clear hS'
                  (try simp only [Act.put, List.setIfInBounds_toArray, List.set_cons_zero, List.set_cons_succ])
                  refine tk1 (i := 6) (v := ?_) (hy := Or.inl ⟨by rfl, ?_⟩) (hS := hS) (h := ?_)
                  rotate_left
                  · intro w' hSw; (try dsimp only at hSw); go_split_ands; go_simp; (try with_reducible rfl)
                  (try simp only [Act.put, List.setIfInBounds_toArray, List.set_cons_zero, List.set_cons_succ])
                  refine tk1 (i := 7) (v := ?_) (hy := Or.inl ⟨by rfl, ?_⟩) (hS := hS) (h := ?_)
                  rotate_left
                  · intro w' hSw; (try dsimp only at hSw); go_split_ands; go_simp; (try with_reducible rfl)
                  (try simp only [Act.put, List.setIfInBounds_toArray, List.set_cons_zero, List.set_cons_succ])
                  refine tk1 (i := 8) (v := ?_) (hy := Or.inl ⟨by rfl, ?_⟩) (hS := hS) (h := ?_)
                  rotate_left
                  · intro w' hSw; (try dsimp only at hSw); go_split_ands; go_simp; (try with_reducible rfl)
                  (try simp only [Act.put, List.setIfInBounds_toArray, List.set_cons_zero, List.set_cons_succ])
                  refine tk1 (i := 9) (v := ?_) (hy := Or.inl ⟨by rfl, ?_⟩) (hS := hS) (h := ?_)
                  rotate_left
                  · intro w' hSw; (try dsimp only at hSw); go_split_ands; go_simp; (try with_reducible rfl)
                  (try simp only [Act.put, List.setIfInBounds_toArray, List.set_cons_zero, List.set_cons_succ])
                  refine rd1 (rs := [10]) (h := ?_)
                  refine cs1 (h := fun K hK => ?_) (hs := ?_)
                  ·skip
                   have hpre := hid (show W4.heap.size ≤ wpl.heap.size from HQ.out.size)
                   go_simp
                   refine named_alloc ?_
                   intro Wa10 hbk hb hsz
                   replace PT := hid (PT.out.step hb); replace RO := hid (RO.out.step hb); replace HQ := hid (below_then HQ.out hb)
                   obtain ⟨ga10, hga⟩ : ∃ g, g = wpl.heap.size := ⟨_, rfl⟩
                   rw [← hga] at hbk ⊢
                   have hlo10 := hid (show W4.heap.size ≤ ga10 by have := hpre.out; omega)
                   have ZR := hid hbk
                   clear hb hbk hsz hga hpre
                   refine hK.out _ _ (hKP.out _ HQ.out) (fun hS' => ?_)
                   clear hK K hS
                   have hS := hS'
                   clear hS'
                   (try simp only [Act.put, List.setIfInBounds_toArray, List.set_cons_zero, List.set_cons_succ])
                   revert hS; revert hlo10; revert hlo4; revert HQ; revert ZR; revert RO; revert PT; revert ga10; revert kr9; revert R9; revert a9; revert ga4; revert Wa10
                   exact K0.out
                  exact AllReadyH.nil
                 refine cs1 (h := fun K hK => ?_) (hs := ?_)
                 ·skip
                  have hpre := hid (show W4.heap.size ≤ Wa4.heap.size from HQ.out.size)
                  go_simp
                  refine named_alloc ?_
                  intro Wa10 hbk hb hsz
                  replace PT := hid (PT.out.step hb); replace HQ := hid (below_then HQ.out hb)
                  obtain ⟨ga10, hga⟩ : ∃ g, g = Wa4.heap.size := ⟨_, rfl⟩
                  rw [← hga] at hbk ⊢
                  have hlo10 := hid (show W4.heap.size ≤ ga10 by have := hpre.out; omega)
                  have ZR := hid hbk
                  clear hb hbk hsz hga hpre
                  refine hK.out _ _ (hKP.out _ HQ.out) (fun hS' => ?_)
                  clear hK K hS
                  have hS := hS'
                  clear hS'
                  (try simp only [Act.put, List.setIfInBounds_toArray, List.set_cons_zero, List.set_cons_succ])
                  revert hS; revert hlo10; revert hlo4; revert HQ; revert ZR; revert PT; revert ga10; revert ga4; revert Wa10
                  exact K1.out
                 exact AllReadyH.nil
                refine cs1 (h := fun K hK => ?_) (hs := ?_)
                ·skip
                 have hpre := hid (show W4.heap.size ≤ wp3.heap.size from HQ.out.size)
                 go_simp
                 refine named_alloc ?_
                 intro Wa10 hbk hb hsz
                 replace HQ := hid (below_then HQ.out hb)
                 obtain ⟨ga10, hga⟩ : ∃ g, g = wp3.heap.size := ⟨_, rfl⟩
                 rw [← hga] at hbk ⊢
                 have hlo10 := hid (show W4.heap.size ≤ ga10 by have := hpre.out; omega)
                 have ZR := hid hbk
                 clear hb hbk hsz hga hpre
                 refine hK.out _ _ (hKP.out _ HQ.out) (fun hS' => ?_)
                 clear hK K hS
                 have hS := hS'
                 clear hS'
                 (try simp only [Act.put, List.setIfInBounds_toArray, List.set_cons_zero, List.set_cons_succ])
                 revert hS; revert hlo10; revert HQ; revert ZR; revert ga10; revert Wa10
                 exact K2.out
                exact AllReadyH.nil
               refine cs1 (h := fun K hK => ?_) (hs := ?_)
               ·skip
                have hpre := hid (show W4.heap.size ≤ wp2.heap.size from HQ.out.size)
                go_simp
                refine named_alloc ?_
                intro Wa10 hbk hb hsz
                replace HQ := hid (below_then HQ.out hb)
                obtain ⟨ga10, hga⟩ : ∃ g, g = wp2.heap.size := ⟨_, rfl⟩
                rw [← hga] at hbk ⊢
                have hlo10 := hid (show W4.heap.size ≤ ga10 by have := hpre.out; omega)
                have ZR := hid hbk
                clear hb hbk hsz hga hpre
                refine hK.out _ _ (hKP.out _ HQ.out) (fun hS' => ?_)
                clear hK K hS
                have hS := hS'
                clear hS'
                (try simp only [Act.put, List.setIfInBounds_toArray, List.set_cons_zero, List.set_cons_succ])
                revert hS; revert hlo10; revert HQ; revert ZR; revert ga10; revert Wa10
                exact K3.out
               exact AllReadyH.nil
              refine cs1 (h := fun K hK => ?_) (hs := ?_)
              ·skip
               have hpre := hid (show W4.heap.size ≤ wp1.heap.size from HQ.out.size)
               go_simp
               refine named_alloc ?_
               intro Wa10 hbk hb hsz
               replace HQ := hid (below_then HQ.out hb)
               obtain ⟨ga10, hga⟩ : ∃ g, g = wp1.heap.size := ⟨_, rfl⟩
               rw [← hga] at hbk ⊢
               have hlo10 := hid (show W4.heap.size ≤ ga10 by have := hpre.out; omega)
               have ZR := hid hbk
               clear hb hbk hsz hga hpre
               refine hK.out _ _ (hKP.out _ HQ.out) (fun hS' => ?_)
               clear hK K hS
               have hS := hS'
               clear hS'
               (try simp only [Act.put, List.setIfInBounds_toArray, List.set_cons_zero, List.set_cons_succ])
               revert hS; revert hlo10; revert HQ; revert ZR; revert ga10; revert Wa10
               exact K4.out
              exact AllReadyH.nil
             refine cs1 (h := fun K hK => ?_) (hs := ?_)
             ·skip
              have hpre := hid (show W4.heap.size ≤ Wd.heap.size from HQ.out.size)
              go_simp
              refine named_alloc ?_
              intro Wa10 hbk hb hsz
              replace HQ := hid (below_then HQ.out hb)
              obtain ⟨ga10, hga⟩ : ∃ g, g = Wd.heap.size := ⟨_, rfl⟩
              rw [← hga] at hbk ⊢
              have hlo10 := hid (show W4.heap.size ≤ ga10 by have := hpre.out; omega)
              have ZR := hid hbk
              clear hb hbk hsz hga hpre
              refine hK.out _ _ (hKP.out _ HQ.out) (fun hS' => ?_)
              clear hK K hS
              have hS := hS'
              clear hS'
              (try simp only [Act.put, List.setIfInBounds_toArray, List.set_cons_zero, List.set_cons_succ])
              refine rd1 (rs := [1]) (h := ?_)
              refine cs1 (h := fun K hK => ?_) (hs := ?_)
              ·skip
               have hpre := hid (show W4.heap.size ≤ Wa10.heap.size from HQ.out.size)
               have hpl10 := hid ZR.out.lt
               go_simp
               refine (op_any 2 1 0 _).mono ?_
               rintro e wp1 ⟨rfl, hb⟩
               replace ZR := hid (ZR.out.step hb); replace HQ := hid (below_then HQ.out hb)
               clear hb
               go_wp2_with fail
               clear hpre hpl10
               refine hK.out _ _ (hKP.out _ HQ.out) (fun hS' => ?_)
               clear hK K hS
               have hS := hS'
               clear hS'
               (try simp only [Act.put, List.setIfInBounds_toArray, List.set_cons_zero, List.set_cons_succ])
               revert hS; revert hlo10; revert HQ; revert ZR; revert ga10; revert wp1
               exact K4.out
              exact AllReadyH.nil
             exact AllReadyH.nil
            ·skip
             intro Wm ga10 ZR HQ hlo10 hS
             refine rd1 (rs := [2]) (h := ?_)
             refine cs1 (h := fun K hK => ?_) (hs := ?_)
             ·skip
              have hpre := hid (show W4.heap.size ≤ Wm.heap.size from HQ.out.size)
              have hpl10 := hid ZR.out.lt
              go_simp
              refine (op_any 4 1 0 _).mono ?_
              rintro e wp2 ⟨rfl, hb⟩
              replace ZR := hid (ZR.out.step hb); replace HQ := hid (below_then HQ.out hb)
              clear hb
              go_wp2_with fail
              clear hpre hpl10
              refine hK.out _ _ (hKP.out _ HQ.out) (fun hS' => ?_)
              clear hK K hS
              have hS := hS'
              clear hS'
              (try simp only [Act.put, List.setIfInBounds_toArray, List.set_cons_zero, List.set_cons_succ])
              revert hS; revert hlo10; revert HQ; revert ZR; revert ga10; revert wp2
              exact K3.out
             exact AllReadyH.nil
            ·skip
             intro Wm ga10 ZR HQ hlo10 hS
             refine rd1 (rs := [3]) (h := ?_)
             refine cs1 (h := fun K hK => ?_) (hs := ?_)
             ·skip
              have hpre := hid (show W4.heap.size ≤ Wm.heap.size from HQ.out.size)
              have hpl10 := hid ZR.out.lt
              go_simp
              refine (op_any 5 0 0 _).mono ?_
              rintro e wp3 ⟨rfl, hb⟩
              replace ZR := hid (ZR.out.step hb); replace HQ := hid (below_then HQ.out hb)
              clear hb
              go_wp2_with fail
              clear hpre hpl10
              refine hK.out _ _ (hKP.out _ HQ.out) (fun hS' => ?_)
              clear hK K hS
              have hS := hS'
              clear hS'
              (try simp only [Act.put, List.setIfInBounds_toArray, List.set_cons_zero, List.set_cons_succ])
              revert hS; revert hlo10; revert HQ; revert ZR; revert ga10; revert wp3
              exact K2.out
             exact AllReadyH.nil
            ·skip
             intro Wm ga10 ZR HQ hlo10 hS
             refine rd1 (rs := [4]) (h := ?_)
             refine cs1 (h := fun K hK => ?_) (hs := ?_)
             ·skip
              have hpre := hid (show W4.heap.size ≤ Wm.heap.size from HQ.out.size)
              go_simp
              refine named_alloc ?_
              intro Wa4 hbk hb hsz
              replace ZR := hid (ZR.out.step hb); replace HQ := hid (below_then HQ.out hb)
              obtain ⟨ga4, hga⟩ : ∃ g, g = Wm.heap.size := ⟨_, rfl⟩
              rw [← hga] at hbk ⊢
              have hlo4 := hid (show W4.heap.size ≤ ga4 by have := hpre.out; omega)
              have PT := hid hbk
              clear hb hbk hsz hga hpre
              refine hK.out _ _ (hKP.out _ HQ.out) (fun hS' => ?_)
              clear hK K hS
              have hS := hS'
              clear hS'
              (try simp only [Act.put, List.setIfInBounds_toArray, List.set_cons_zero, List.set_cons_succ])
              revert hS; revert hlo10; revert hlo4; revert HQ; revert ZR; revert PT; revert ga10; revert ga4; revert Wa4
              exact K1.out
             exact AllReadyH.nil
            ·skip
             intro Wm ga4 ga10 PT ZR HQ hlo4 hlo10 hS
             refine rd1 (rs := [5]) (h := ?_)
             refine cs1 (h := fun K hK => ?_) (hs := ?_)
             ·skip
              have hpre := hid (show W4.heap.size ≤ Wm.heap.size from HQ.out.size)
              have hpl4 := hid PT.out.lt
              have hpl10 := hid ZR.out.lt
              go_simp
              refine (wk_run (L := T3) (some ⟨_, 0, none⟩) 3 3 _ (S6.out.step HQ.out) HK6.out (PT.out.smO (xs := T3) rfl (by intro k hk j hj; have hk' : k < 3 := hk; have hj' : j < 3 := hj; match k, hk', j, hj' with | 0, _, 0, _ => rfl | 0, _, 1, _ => rfl | 0, _, 2, _ => rfl | 1, _, 0, _ => rfl | 1, _, 1, _ => rfl | 1, _, 2, _ => rfl | 2, _, 0, _ => rfl | 2, _, 1, _ => rfl | 2, _, 2, _ => rfl)) (by omega) G5.out).mono ?_
              rintro e wpl ⟨a9, es9, R9, kr9, rfl, hq9, hr9, ho9, hb⟩
              replace PT := hid (PT.out.step hb); replace ZR := hid (ZR.out.step hb); replace HQ := hid (below_then HQ.out hb)
              clear hb
              have RO := hid (ho9.mono (show W4.heap.size ≤ _ by have := HQ.out.size; have := hpre.out; have := hpl4.out; have := hpl10.out; have := hlo4.out; have := PT.out.lt; have := hlo10.out; have := ZR.out.lt; omega))
              clear hr9 ho9 hq9
              go_wp2_with fail
              clear hpre hpl4 hpl10
              refine hK.out _ _ (hKP.out _ HQ.out) (fun hS' => ?_)
              clear hK K hS
              have hS := hS'
              clear hS'
              (try simp only [Act.put, List.setIfInBounds_toArray, List.set_cons_zero, List.set_cons_succ])
              refine tk1 (i := 6) (v := ?_) (hy := Or.inl ⟨by rfl, ?_⟩) (hS := hS) (h := ?_)
              rotate_left
              · intro w' hSw; (try dsimp only at hSw); go_split_ands; go_simp; (try with_reducible rfl)
              (try simp only [Act.put, List.setIfInBounds_toArray, List.set_cons_zero, List.set_cons_succ])
              refine tk1 (i := 7) (v := ?_) (hy := Or.inl ⟨by rfl, ?_⟩) (hS := hS) (h := ?_)
              rotate_left
              · intro w' hSw; (try dsimp only at hSw); go_split_ands; go_simp; (try with_reducible rfl)
              (try simp only [Act.put, List.setIfInBounds_toArray, List.set_cons_zero, List.set_cons_succ])
              refine tk1 (i := 8) (v := ?_) (hy := Or.inl ⟨by rfl, ?_⟩) (hS := hS) (h := ?_)
              rotate_left
              · intro w' hSw; (try dsimp only at hSw); go_split_ands; go_simp; (try with_reducible rfl)
              (try simp only [Act.put, List.setIfInBounds_toArray, List.set_cons_zero, List.set_cons_succ])
              refine tk1 (i := 9) (v := ?_) (hy := Or.inl ⟨by rfl, ?_⟩) (hS := hS) (h := ?_)
              rotate_left
              · intro w' hSw; (try dsimp only at hSw); go_split_ands; go_simp; (try with_reducible rfl)
              (try simp only [Act.put, List.setIfInBounds_toArray, List.set_cons_zero, List.set_cons_succ])
              revert hS; revert hlo10; revert hlo4; revert HQ; revert ZR; revert RO; revert PT; revert ga10; revert kr9; revert R9; revert a9; revert ga4; revert wpl
              exact K0.out
             exact AllReadyH.nil
            ·skip
             intro Wm ga4 a9 R9 kr9 ga10 PT RO ZR HQ hlo4 hlo10 hS
             refine rd1 (rs := [11]) (h := ?_)
             refine cs1 (h := fun K hK => ?_) (hs := ?_)
             ·skip
              have hpre := hid (show W4.heap.size ≤ Wm.heap.size from HQ.out.size)
              obtain ⟨y00, y01, y02, y03, y04, y05, y06, y07, yf0⟩ := ZR.out.cells8
              go_simp
              clear y00 y01 y02 y03 y04 y05 y06 y07 yf0
              refine named_store_8_8_0 ZR.out ?_
              intro Ws11 hbk hgr hsz
              clear hsz
              replace RO := hid (RO.out.keptR ZR.out (by decide) hgr)
              replace HQ := hid (HQ.out.grown hgr HQ.out.size (fun r e => by cases e; have := HQ.out.size; have := hlo4.out; have := PT.out.lt; have := hlo10.out; have := ZR.out.lt; omega))
              replace ZR := hid hbk
              clear hbk hgr hpre
              refine hK.out _ _ (hKP.out _ HQ.out) (fun hS' => ?_)
              clear hK K hS
              have hS := hS'
              clear hS'
              (try simp only [Act.put, List.setIfInBounds_toArray, List.set_cons_zero, List.set_cons_succ])
              refine tk1 (i := 12) (v := ?_) (hy := Or.inl ⟨by rfl, ?_⟩) (hS := hS) (h := ?_)
              rotate_left
              · intro w' hSw; (try dsimp only at hSw); go_split_ands; go_simp; (try with_reducible rfl)
              (try simp only [Act.put, List.setIfInBounds_toArray, List.set_cons_zero, List.set_cons_succ])
              refine tk1 (i := 13) (v := ?_) (hy := Or.inl ⟨by rfl, ?_⟩) (hS := hS) (h := ?_)
              rotate_left
              · intro w' hSw; (try dsimp only at hSw); go_split_ands; go_simp; (try with_reducible rfl)
              (try simp only [Act.put, List.setIfInBounds_toArray, List.set_cons_zero, List.set_cons_succ])
              refine wpAnyH_done (by kernel_rfl) ?_ _
              refine NoPanic.normal ?_
              clear hS
              go_wp2_with fail
              go_meet
              exact ⟨_, _, rfl, rfl, RO.out, HQ.out⟩
             exact AllReadyH.nil
        case rest =>
          obtain ⟨E5, ke5, rfl, rfl, h1, h2⟩ := hcut
          rename World => W5
          have EM := hid h1
          replace HB := hid (below_then HB.out h2); replace XP := hid (XP.out.step h2); replace XR := hid (XR.out.step h2); replace EL := hid (EL.out.step h2); replace P6 := hid (P6.out.step h2); replace S6 := hid (S6.out.step h2)
          clear h1 h2 HQ G4 G5
          obtain ⟨y00, y01, y02, y03, y04, y05, y06, y07, yf0⟩ := P6.out.cells8
          go_wp2_with fail
          clear y00 y01 y02 y03 y04 y05 y06 y07 yf0
          refine (rsettle_open s1 g1 es6 a6 _ S6.out (rcOk_iff.2 HK6.out) F2.out).mono ?_
          rintro e W6 ⟨a7, R7, nr7, kr7, rfl, _, hb⟩
          replace XP := hid (XP.out.step hb); replace XR := hid (XR.out.step hb); replace EL := hid (EL.out.step hb); replace P6 := hid (P6.out.step hb); replace S6 := hid (S6.out.step hb); replace EM := hid (EM.out.step hb); replace HB := hid (below_then HB.out hb)
          clear hb
          dsimp only
          have zE : rcv (0, [], []) zGr a7 = .agg #[.int .i64 0, .slice a7.A a7.n a7.k, .slice a7.B a7.m a7.d, .int .i64 0, .int .i64 0, .bool false, .slice a7.D 0 a7.kd, .slice a7.Q a7.nq a7.kq] := rfl
          rw [zE]
          clear zE
          have bx := below_box W6 (.cells #[.int .i64 0, .slice a7.A a7.n a7.k, .slice a7.B a7.m a7.d, .int .i64 0, .int .i64 0, .bool false, .slice a7.D 0 a7.kd, .slice a7.Q a7.nq a7.kq] 30)
          replace XP := hid (XP.out.step bx); replace XR := hid (XR.out.step bx); replace EL := hid (EL.out.step bx); replace P6 := hid (P6.out.step bx); replace S6 := hid (S6.out.step bx); replace EM := hid (EM.out.step bx); replace HB := hid (below_then HB.out bx)
          clear bx
          go_upto_region 7 with fail
          generalize W6.alloc (.cells #[.int .i64 0, .slice a7.A a7.n a7.k, .slice a7.B a7.m a7.d, .int .i64 0, .int .i64 0, .bool false, .slice a7.D 0 a7.kd, .slice a7.Q a7.nq a7.kq] 30) = W7 at *
          go_wp2_with fail
          have bx := below_box W7 (.cells #[.int .u64 7] 38)
          replace XP := hid (XP.out.step bx); replace XR := hid (XR.out.step bx); replace EL := hid (EL.out.step bx); replace P6 := hid (P6.out.step bx); replace S6 := hid (S6.out.step bx); replace EM := hid (EM.out.step bx); replace HB := hid (below_then HB.out bx)
          clear bx
          have B1 := hid (Blk.new W7 38 #[.int .u64 7])
          generalize W7.alloc (.cells #[.int .u64 7] 38) = W8 at *
          refine (equal_u64 E2 _ 1 ke2 1 1 0 _ 0 _ [7] [7] _ ((EL.out.sl (d := 0)).mono (Nat.zero_le _) (Nat.le_refl _)) ((B1.out.ow (enc := u64v) (xs := [7]) (lo := 0) (n := 1) rfl rfl (Nat.zero_le _) (by simp [maxLen])).sl (d := 0)) (by omega) (by omega)).mono ?_
          rintro e W9 ⟨rfl, hb⟩
          replace XP := hid (XP.out.step hb); replace XR := hid (XR.out.step hb); replace EL := hid (EL.out.step hb); replace P6 := hid (P6.out.step hb); replace S6 := hid (S6.out.step hb); replace EM := hid (EM.out.step hb); replace B1 := hid (B1.out.step hb); replace HB := hid (below_then HB.out hb)
          clear hb
          rw [show decide (([7] : List Int) = [7]) = true by decide]
          go_wp2_with fail
          refine (equal_u64 E5 E2 1 ke5 1 ke2 0 _ 0 _ [7] [7] _ ((EM.out.sl (d := 0)).mono (Nat.zero_le _) (Nat.le_refl _)) ((EL.out.sl (d := 0)).mono (Nat.zero_le _) (Nat.le_refl _)) (by omega) (by omega)).mono ?_
          rintro e W10 ⟨rfl, hb⟩
          replace XP := hid (XP.out.step hb); replace XR := hid (XR.out.step hb); replace EL := hid (EL.out.step hb); replace P6 := hid (P6.out.step hb); replace S6 := hid (S6.out.step hb); replace EM := hid (EM.out.step hb); replace B1 := hid (B1.out.step hb); replace HB := hid (below_then HB.out hb)
          clear hb
          rw [show decide (([7] : List Int) = [7]) = true by decide]
          obtain ⟨y00, y01, y02, y03, y04, y05, y06, y07, yf0⟩ := P6.out.cells8
          go_wp2_with fail
          clear y00 y01 y02 y03 y04 y05 y06 y07 yf0
          refine (rwaiting_any s1 g1 es6 a6 _ S6.out).mono ?_
          rintro e W11 ⟨rfl, hb⟩
          replace XP := hid (XP.out.step hb); replace XR := hid (XR.out.step hb); replace EL := hid (EL.out.step hb); replace P6 := hid (P6.out.step hb); replace S6 := hid (S6.out.step hb); replace EM := hid (EM.out.step hb); replace B1 := hid (B1.out.step hb); replace HB := hid (below_then HB.out hb)
          clear hb
          rw [if_pos (rcOk_iff.2 HK6.out), N6.out]
          obtain ⟨y00, y01, y02, y03, y04, y05, y06, y07, yf0⟩ := XP.out.cells8
          go_wp2_with fail
          clear y00 y01 y02 y03 y04 y05 y06 y07 yf0
          refine (ridle_any (nSt 2) (nGr 2) (List.replicate 2 zQe) a _ XR.out).mono ?_
          rintro e W12 ⟨rfl, hb⟩
          replace XP := hid (XP.out.step hb); replace XR := hid (XR.out.step hb); replace EL := hid (EL.out.step hb); replace P6 := hid (P6.out.step hb); replace S6 := hid (S6.out.step hb); replace EM := hid (EM.out.step hb); replace B1 := hid (B1.out.step hb); replace HB := hid (below_then HB.out hb)
          clear hb
          rw [show (decide (RcOk (nSt 2) (nGr 2) (List.replicate 2 zQe)) && idleB (nSt 2) (nGr 2) (ql (List.replicate 2 zQe))) = true by rw [decide_eq_true (rcOk_iff.2 HQ1.out), ql_rep, Bool.true_and]; decide +kernel]
          obtain ⟨y00, y01, y02, y03, y04, y05, y06, y07, yf0⟩ := P6.out.cells8
          go_wp2_with fail
          clear y00 y01 y02 y03 y04 y05 y06 y07 yf0
          refine (ridle_any s1 g1 es6 a6 _ S6.out).mono ?_
          rintro e W13 ⟨rfl, hb⟩
          replace XP := hid (XP.out.step hb); replace XR := hid (XR.out.step hb); replace EL := hid (EL.out.step hb); replace P6 := hid (P6.out.step hb); replace S6 := hid (S6.out.step hb); replace EM := hid (EM.out.step hb); replace B1 := hid (B1.out.step hb); replace HB := hid (below_then HB.out hb)
          clear hb
          rw [show (decide (RcOk s1 g1 es6) && idleB s1 g1 (ql es6)) = false by unfold idleB; rw [F2.out, Bool.false_and, Bool.and_false]]
          go_wp2_with fail
          refine bodyPost_ret (v := .bool true) (by simp [results, Try.results5, go_sem]) rfl ⟨rfl, HB.out⟩
end Go.Proofs.Ytfipdoofgbjbjaa
