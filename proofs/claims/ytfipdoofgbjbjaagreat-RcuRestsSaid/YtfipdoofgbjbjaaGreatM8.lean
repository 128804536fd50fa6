/- Walks and plain laws for this claim, part 8. No condition but sizes. -/
import Derived.Test.YtfipdoofgbjbjaaGreatM7
import Derived.Test.YtfipdoofgbjbjaaGreatM1
import Derived.Test.YtfipdoofgbjbjaaGreatM3
import Derived.Laws.StructEq
import Derived.Test.YtfipdoofgbjbjaaGreatM6
import Derived.BigQuiet
import Derived.ChangeKeysEq
import Derived.Test.YtfipdoofgbjbjaaGreatM4
/- afterglowlaw14.wakes. No condition. -/
namespace Go.Proofs.YtfipdoofgbjbjaaGreat
open Go.RowKit
attribute [local go_sem] Oper.semAt_some
theorem RcP.mono {p q : Nat → Prop} {w : World} {s : St} {g : Gr} {es : List Qe} {a : Ra} (h : RcP p w s g es a) (hq : ∀ i, q i → p i) : RcP q w s g es a := fun w' k => h w' (k.mono hq)
/-- words that were run, and the error -/
def WkS (w0 wx : World) (E : Option Addr) (ke : Nat) (ran : List Int) : Prop := Ow u64v wx w0.heap.size 35 E ran.length ke ran ∧ Below w0.heap.size w0 wx
/-- all of it in a box -/
def WkB (w0 wx : World) (g6 : Nat) (a : Ra) (s1 : St) (g1 : Gr) (es : List Qe) (q1 : Qs) : Prop := Blk wx g6 30 (rcells s1 g1 a) ∧ RcR wx s1 g1 es a ∧ ql es = q1 ∧ Below w0.heap.size w0 wx ∧ w0.heap.size ≤ g6
set_option maxRecDepth 100000 in
set_option maxHeartbeats 8000000 in
theorem rcwakes_any (w : World) : Calls Tryz.prog 6 #[] w fun x w' => x = .returned (.bool true) ∧ Below w.heap.size w w' := by
  obtain ⟨s1, g1, q1, hf1, hf2, hf3, hf4, ⟨s3, g3, q3, hf5⟩, ⟨s4, g4, q4, hf6⟩⟩ := wk_facts
  have F1 := hid hf1; have F2 := hid hf2; have F3 := hid hf3; have F4 := hid hf4; have F5 := hid hf5; have F6 := hid hf6
  have HNG := hid (nGood (n := 2) (by omega) (by omega))
  have HG1 := hid (show RcGood s1 g1 q1 by have := good_opsA (L := T2) (ran := []) HNG.out (by rw [hf1]); rw [hf1] at this; exact this)
  clear hf1 hf2 hf3 hf4 hf5 hf6
  have HB := hid (Below.refl w.heap.size w)
  go_enter Tryz.func6, Tryz.ntmps6
  go_wp2_with fail
  refine (rnew_ok 2 w (by omega) (by omega)).mono ?_
  rintro e w1 ⟨a, rfl, hnq, ht, hb⟩
  have RT := hid ht; have HNQ := hid hnq
  replace HB := hid (below_then HB.out hb)
  clear hb ht hnq
  have bx := below_box w1 (.cells (rcells (nSt 2) (nGr 2) a) 30)
  replace RT := hid (RT.out.step bx); replace HB := hid (below_then HB.out bx)
  clear bx
  have P1 := hid (Blk.new w1 30 (rcells (nSt 2) (nGr 2) a))
  go_upto_region 2 with fail
  generalize w1.alloc (.cells (rcells (nSt 2) (nGr 2) a) 30) = W0 at *
  have RR := hid (show RcR W0 (nSt 2) (nGr 2) (List.replicate 2 zQe) a from RT.out.rcr (by decide) (by decide) (by rw [HNQ.out]; decide) (fun x hx => by obtain rfl := (List.mem_replicate.1 hx).2; decide))
  have HQ1 := hid (show RcGood (nSt 2) (nGr 2) (ql (List.replicate 2 zQe)) by rw [ql_rep]; exact HNG.out)
  have G1 := hid (show opsA (nSt 2) (nGr 2) (ql (List.replicate 2 zQe)) [] T1 = (0, s4, g4, q4, [7]) by rw [ql_rep]; exact F6.out)
  have G2 := hid (show opsA (nSt 2) (nGr 2) (ql (List.replicate 2 zQe)) [] T2 = (0, s1, g1, q1, []) by rw [ql_rep]; exact F1.out)
  clear RT HNQ F1 F6 HNG
  have HQ := hid (Below.refl W0.heap.size W0)
  have XP := P1; have XR := RR
  clear P1 RR
  go_cut [3, 4, 5] (fun s3 s4 s5 wx => ∃ E ke, s4 = .slice E 1 ke ∧ s5 = .int .i64 0 ∧ WkS W0 wx E ke [7])
  case first =>
      have hKP := hid (show ∀ W' : World, Below W0.heap.size W0 W' → (fun W' : World => W'.cell? ⟨w1.heap.size, 0, none⟩ = some (.int .i64 (nSt 2).1) ∧ W'.cell? ⟨w1.heap.size, 1, none⟩ = some (.slice a.A a.n a.k) ∧ W'.cell? ⟨w1.heap.size, 2, none⟩ = some (.slice a.B a.m a.d) ∧ W'.cell? ⟨w1.heap.size, 3, none⟩ = some (.int .i64 (nGr 2).dn) ∧ W'.cell? ⟨w1.heap.size, 4, none⟩ = some (.int .i64 (nGr 2).ak) ∧ W'.cell? ⟨w1.heap.size, 5, none⟩ = some (.bool (nGr 2).on) ∧ W'.cell? ⟨w1.heap.size, 6, none⟩ = some (.slice a.D (nGr 2).nd.length a.kd) ∧ W'.cell? ⟨w1.heap.size, 7, none⟩ = some (.slice a.Q a.nq a.kq)) W' from fun W' hb => ⟨(XP.out.step hb).cells8.1, (XP.out.step hb).cells8.2.1, (XP.out.step hb).cells8.2.2.1, (XP.out.step hb).cells8.2.2.2.1, (XP.out.step hb).cells8.2.2.2.2.1, (XP.out.step hb).cells8.2.2.2.2.2.1, (XP.out.step hb).cells8.2.2.2.2.2.2.1, (XP.out.step hb).cells8.2.2.2.2.2.2.2.1⟩)
      refine' merge_by (fun K0 => ?_) ?_
      rotate_left
      refine' merge_by (fun K1 => ?_) ?_
      rotate_left
      refine' merge_by (fun K2 => ?_) ?_
      rotate_left
      refine' merge_by (fun K3 => ?_) ?_
      rotate_left
      refine' merge_by (fun K4 => ?_) ?_
      rotate_left
      refine' merge_by (fun K5 => ?_) ?_
      rotate_left
      refine' merge_by (fun K6 => ?_) ?_
      rotate_left
      ·skip
       have bx := (Below.refl W0.heap.size W0).drew
       replace HQ := hid (below_then HQ.out bx)
       clear bx
       refine wp_region_noPanic ?_
       refine wp_region_held_drew (S := (fun W' : World => W'.cell? ⟨w1.heap.size, 0, none⟩ = some (.int .i64 (nSt 2).1) ∧ W'.cell? ⟨w1.heap.size, 1, none⟩ = some (.slice a.A a.n a.k) ∧ W'.cell? ⟨w1.heap.size, 2, none⟩ = some (.slice a.B a.m a.d) ∧ W'.cell? ⟨w1.heap.size, 3, none⟩ = some (.int .i64 (nGr 2).dn) ∧ W'.cell? ⟨w1.heap.size, 4, none⟩ = some (.int .i64 (nGr 2).ak) ∧ W'.cell? ⟨w1.heap.size, 5, none⟩ = some (.bool (nGr 2).on) ∧ W'.cell? ⟨w1.heap.size, 6, none⟩ = some (.slice a.D (nGr 2).nd.length a.kd) ∧ W'.cell? ⟨w1.heap.size, 7, none⟩ = some (.slice a.Q a.nq a.kq))) (by kernel_rfl) (hKP.out _ HQ.out) (fun hS => ?_)
       generalize W0.drew = Wd at *
       refine tk 0 hS ?_
       refine rdy [1, 12] (csy (fun K hK => ?_) (csy (fun K hK => ?_) AllReadyH.nil))
       ·skip
        have hpre := hid (show W0.heap.size ≤ Wd.heap.size from HQ.out.size)
        go_simp
        refine (op_any 3 0 7 _).mono ?_
        rintro e wp1 ⟨rfl, hb⟩
        replace HQ := hid (below_then HQ.out hb)
        clear hb
        go_wp2_with fail
        clear hpre
        clear hS
        refine ky hK (hKP.out _ HQ.out) fun hS => ?_
        clear hK K
        refine rdy [2, 12] (csy (fun K hK => ?_) (csy (fun K hK => ?_) AllReadyH.nil))
        ·skip
         have hpre := hid (show W0.heap.size ≤ wp1.heap.size from HQ.out.size)
         go_simp
         refine (op_any 4 0 0 _).mono ?_
         rintro e wp2 ⟨rfl, hb⟩
         replace HQ := hid (below_then HQ.out hb)
         clear hb
         go_wp2_with fail
         clear hpre
         clear hS
         refine ky hK (hKP.out _ HQ.out) fun hS => ?_
         clear hK K
         refine rdy [3, 12] (csy (fun K hK => ?_) (csy (fun K hK => ?_) AllReadyH.nil))
         ·skip
          have hpre := hid (show W0.heap.size ≤ wp2.heap.size from HQ.out.size)
          go_simp
          refine (op_any 4 0 0 _).mono ?_
          rintro e wp3 ⟨rfl, hb⟩
          replace HQ := hid (below_then HQ.out hb)
          clear hb
          go_wp2_with fail
          clear hpre
          clear hS
          refine ky hK (hKP.out _ HQ.out) fun hS => ?_
          clear hK K
          refine rdy [4, 12] (csy (fun K hK => ?_) (csy (fun K hK => ?_) AllReadyH.nil))
          ·skip
           have hpre := hid (show W0.heap.size ≤ wp3.heap.size from HQ.out.size)
           go_simp
           refine (op_any 4 1 0 _).mono ?_
           rintro e wp4 ⟨rfl, hb⟩
           replace HQ := hid (below_then HQ.out hb)
           clear hb
           go_wp2_with fail
           clear hpre
           clear hS
           refine ky hK (hKP.out _ HQ.out) fun hS => ?_
           clear hK K
           refine rdy [5, 12] (csy (fun K hK => ?_) (csy (fun K hK => ?_) AllReadyH.nil))
           ·skip
            have hpre := hid (show W0.heap.size ≤ wp4.heap.size from HQ.out.size)
            go_simp
            refine (op_any 5 0 0 _).mono ?_
            rintro e wp5 ⟨rfl, hb⟩
            replace HQ := hid (below_then HQ.out hb)
            clear hb
            go_wp2_with fail
            clear hpre
            clear hS
            refine ky hK (hKP.out _ HQ.out) fun hS => ?_
            clear hK K
            refine rdy [6, 12] (csy (fun K hK => ?_) (csy (fun K hK => ?_) AllReadyH.nil))
            ·skip
             have hpre := hid (show W0.heap.size ≤ wp5.heap.size from HQ.out.size)
             go_simp
             refine named_alloc ?_
             intro Wa6 hbk hb hsz
             replace HQ := hid (below_then HQ.out hb)
             obtain ⟨ga6, hga⟩ : ∃ g, g = wp5.heap.size := ⟨_, rfl⟩
             rw [← hga] at hbk ⊢
             have hlo6 := hid (show W0.heap.size ≤ ga6 by have := hpre.out; omega)
             have PT := hid hbk
             clear hb hbk hsz hga hpre
             clear hS
             refine ky hK (hKP.out _ HQ.out) fun hS => ?_
             clear hK K
             refine rdy [7, 12] (csy (fun K hK => ?_) (csy (fun K hK => ?_) AllReadyH.nil))
             ·skip
              have hpre := hid (show W0.heap.size ≤ Wa6.heap.size from HQ.out.size)
              have hpl6 := hid PT.out.lt
              go_simp
              refine (wk_run (L := T1) (some ⟨_, 0, none⟩) 5 5 _ (XR.out.step HQ.out) HQ1.out (PT.out.smO (xs := T1) rfl (by intro k hk j hj; have hk' : k < 5 := hk; have hj' : j < 3 := hj; match k, hk', j, hj' with | 0, _, 0, _ => rfl | 0, _, 1, _ => rfl | 0, _, 2, _ => rfl | 1, _, 0, _ => rfl | 1, _, 1, _ => rfl | 1, _, 2, _ => rfl | 2, _, 0, _ => rfl | 2, _, 1, _ => rfl | 2, _, 2, _ => rfl | 3, _, 0, _ => rfl | 3, _, 1, _ => rfl | 3, _, 2, _ => rfl | 4, _, 0, _ => rfl | 4, _, 1, _ => rfl | 4, _, 2, _ => rfl)) (by omega) G1.out).mono ?_
              rintro e wpl ⟨a9, es9, R9, kr9, rfl, hq9, hr9, ho9, hb⟩
              replace PT := hid (PT.out.step hb); replace HQ := hid (below_then HQ.out hb)
              clear hb
              have RO := hid (ho9.mono (show W0.heap.size ≤ _ by have := HQ.out.size; have := hpre.out; have := hpl6.out; have := hlo6.out; have := PT.out.lt; omega))
              clear hr9 ho9 hq9
              go_wp2_with fail
              clear hpre hpl6
              clear hS
              refine ky hK (hKP.out _ HQ.out) fun hS => ?_
              clear hK K
              refine tk 8 hS ?_
              refine tk 9 hS ?_
              refine tk 10 hS ?_
              refine tk 11 hS ?_
              refine rdy [12] (csy (fun K hK => ?_) AllReadyH.nil)
              have hpre := hid (show W0.heap.size ≤ wpl.heap.size from HQ.out.size)
              go_simp
              refine named_alloc ?_
              intro Wa12 hbk hb hsz
              replace PT := hid (PT.out.step hb); replace RO := hid (RO.out.step hb); replace HQ := hid (below_then HQ.out hb)
              obtain ⟨ga12, hga⟩ : ∃ g, g = wpl.heap.size := ⟨_, rfl⟩
              rw [← hga] at hbk ⊢
              have hlo12 := hid (show W0.heap.size ≤ ga12 by have := hpre.out; omega)
              have ZR := hid hbk
              clear hb hbk hsz hga hpre
              clear hS
              refine ky hK (hKP.out _ HQ.out) fun hS => ?_
              clear hK K
              revert hS; revert hlo12; revert hlo6; revert HQ; revert ZR; revert RO; revert PT; revert ga12; revert kr9; revert R9; revert a9; revert ga6; revert Wa12
              exact K0.out
             ·skip
              have hpre := hid (show W0.heap.size ≤ Wa6.heap.size from HQ.out.size)
              go_simp
              refine named_alloc ?_
              intro Wa12 hbk hb hsz
              replace PT := hid (PT.out.step hb); replace HQ := hid (below_then HQ.out hb)
              obtain ⟨ga12, hga⟩ : ∃ g, g = Wa6.heap.size := ⟨_, rfl⟩
              rw [← hga] at hbk ⊢
              have hlo12 := hid (show W0.heap.size ≤ ga12 by have := hpre.out; omega)
              have ZR := hid hbk
              clear hb hbk hsz hga hpre
              clear hS
              refine ky hK (hKP.out _ HQ.out) fun hS => ?_
              clear hK K
              revert hS; revert hlo12; revert hlo6; revert HQ; revert ZR; revert PT; revert ga12; revert ga6; revert Wa12
              exact K1.out
            ·skip
             have hpre := hid (show W0.heap.size ≤ wp5.heap.size from HQ.out.size)
             go_simp
             refine named_alloc ?_
             intro Wa12 hbk hb hsz
             replace HQ := hid (below_then HQ.out hb)
             obtain ⟨ga12, hga⟩ : ∃ g, g = wp5.heap.size := ⟨_, rfl⟩
             rw [← hga] at hbk ⊢
             have hlo12 := hid (show W0.heap.size ≤ ga12 by have := hpre.out; omega)
             have ZR := hid hbk
             clear hb hbk hsz hga hpre
             clear hS
             refine ky hK (hKP.out _ HQ.out) fun hS => ?_
             clear hK K
             revert hS; revert hlo12; revert HQ; revert ZR; revert ga12; revert Wa12
             exact K2.out
           ·skip
            have hpre := hid (show W0.heap.size ≤ wp4.heap.size from HQ.out.size)
            go_simp
            refine named_alloc ?_
            intro Wa12 hbk hb hsz
            replace HQ := hid (below_then HQ.out hb)
            obtain ⟨ga12, hga⟩ : ∃ g, g = wp4.heap.size := ⟨_, rfl⟩
            rw [← hga] at hbk ⊢
            have hlo12 := hid (show W0.heap.size ≤ ga12 by have := hpre.out; omega)
            have ZR := hid hbk
            clear hb hbk hsz hga hpre
            clear hS
            refine ky hK (hKP.out _ HQ.out) fun hS => ?_
            clear hK K
            revert hS; revert hlo12; revert HQ; revert ZR; revert ga12; revert Wa12
            exact K3.out
          ·skip
           have hpre := hid (show W0.heap.size ≤ wp3.heap.size from HQ.out.size)
           go_simp
           refine named_alloc ?_
           intro Wa12 hbk hb hsz
           replace HQ := hid (below_then HQ.out hb)
           obtain ⟨ga12, hga⟩ : ∃ g, g = wp3.heap.size := ⟨_, rfl⟩
           rw [← hga] at hbk ⊢
           have hlo12 := hid (show W0.heap.size ≤ ga12 by have := hpre.out; omega)
           have ZR := hid hbk
           clear hb hbk hsz hga hpre
           clear hS
           refine ky hK (hKP.out _ HQ.out) fun hS => ?_
           clear hK K
           revert hS; revert hlo12; revert HQ; revert ZR; revert ga12; revert Wa12
           exact K4.out
         ·skip
          have hpre := hid (show W0.heap.size ≤ wp2.heap.size from HQ.out.size)
          go_simp
          refine named_alloc ?_
          intro Wa12 hbk hb hsz
          replace HQ := hid (below_then HQ.out hb)
          obtain ⟨ga12, hga⟩ : ∃ g, g = wp2.heap.size := ⟨_, rfl⟩
          rw [← hga] at hbk ⊢
          have hlo12 := hid (show W0.heap.size ≤ ga12 by have := hpre.out; omega)
          have ZR := hid hbk
          clear hb hbk hsz hga hpre
          clear hS
          refine ky hK (hKP.out _ HQ.out) fun hS => ?_
          clear hK K
          revert hS; revert hlo12; revert HQ; revert ZR; revert ga12; revert Wa12
          exact K5.out
        ·skip
         have hpre := hid (show W0.heap.size ≤ wp1.heap.size from HQ.out.size)
         go_simp
         refine named_alloc ?_
         intro Wa12 hbk hb hsz
         replace HQ := hid (below_then HQ.out hb)
         obtain ⟨ga12, hga⟩ : ∃ g, g = wp1.heap.size := ⟨_, rfl⟩
         rw [← hga] at hbk ⊢
         have hlo12 := hid (show W0.heap.size ≤ ga12 by have := hpre.out; omega)
         have ZR := hid hbk
         clear hb hbk hsz hga hpre
         clear hS
         refine ky hK (hKP.out _ HQ.out) fun hS => ?_
         clear hK K
         revert hS; revert hlo12; revert HQ; revert ZR; revert ga12; revert Wa12
         exact K6.out
       ·skip
        have hpre := hid (show W0.heap.size ≤ Wd.heap.size from HQ.out.size)
        go_simp
        refine named_alloc ?_
        intro Wa12 hbk hb hsz
        replace HQ := hid (below_then HQ.out hb)
        obtain ⟨ga12, hga⟩ : ∃ g, g = Wd.heap.size := ⟨_, rfl⟩
        rw [← hga] at hbk ⊢
        have hlo12 := hid (show W0.heap.size ≤ ga12 by have := hpre.out; omega)
        have ZR := hid hbk
        clear hb hbk hsz hga hpre
        clear hS
        refine ky hK (hKP.out _ HQ.out) fun hS => ?_
        clear hK K
        refine rdy [1] (csy (fun K hK => ?_) AllReadyH.nil)
        have hpre := hid (show W0.heap.size ≤ Wa12.heap.size from HQ.out.size)
        have hpl12 := hid ZR.out.lt
        go_simp
        refine (op_any 3 0 7 _).mono ?_
        rintro e wp1 ⟨rfl, hb⟩
        replace ZR := hid (ZR.out.step hb); replace HQ := hid (below_then HQ.out hb)
        clear hb
        go_wp2_with fail
        clear hpre hpl12
        clear hS
        refine ky hK (hKP.out _ HQ.out) fun hS => ?_
        clear hK K
        revert hS; revert hlo12; revert HQ; revert ZR; revert ga12; revert wp1
        exact K6.out
      ·skip
       intro Wm ga12 ZR HQ hlo12 hS
       refine rdy [2] (csy (fun K hK => ?_) AllReadyH.nil)
       have hpre := hid (show W0.heap.size ≤ Wm.heap.size from HQ.out.size)
       have hpl12 := hid ZR.out.lt
       go_simp
       refine (op_any 4 0 0 _).mono ?_
       rintro e wp2 ⟨rfl, hb⟩
       replace ZR := hid (ZR.out.step hb); replace HQ := hid (below_then HQ.out hb)
       clear hb
       go_wp2_with fail
       clear hpre hpl12
       clear hS
       refine ky hK (hKP.out _ HQ.out) fun hS => ?_
       clear hK K
       revert hS; revert hlo12; revert HQ; revert ZR; revert ga12; revert wp2
       exact K5.out
      ·skip
       intro Wm ga12 ZR HQ hlo12 hS
       refine rdy [3] (csy (fun K hK => ?_) AllReadyH.nil)
       have hpre := hid (show W0.heap.size ≤ Wm.heap.size from HQ.out.size)
       have hpl12 := hid ZR.out.lt
       go_simp
       refine (op_any 4 0 0 _).mono ?_
       rintro e wp3 ⟨rfl, hb⟩
       replace ZR := hid (ZR.out.step hb); replace HQ := hid (below_then HQ.out hb)
       clear hb
       go_wp2_with fail
       clear hpre hpl12
       clear hS
       refine ky hK (hKP.out _ HQ.out) fun hS => ?_
       clear hK K
       revert hS; revert hlo12; revert HQ; revert ZR; revert ga12; revert wp3
       exact K4.out
      ·skip
       intro Wm ga12 ZR HQ hlo12 hS
       refine rdy [4] (csy (fun K hK => ?_) AllReadyH.nil)
       have hpre := hid (show W0.heap.size ≤ Wm.heap.size from HQ.out.size)
       have hpl12 := hid ZR.out.lt
       go_simp
       refine (op_any 4 1 0 _).mono ?_
       rintro e wp4 ⟨rfl, hb⟩
       replace ZR := hid (ZR.out.step hb); replace HQ := hid (below_then HQ.out hb)
       clear hb
       go_wp2_with fail
       clear hpre hpl12
       clear hS
       refine ky hK (hKP.out _ HQ.out) fun hS => ?_
       clear hK K
       revert hS; revert hlo12; revert HQ; revert ZR; revert ga12; revert wp4
       exact K3.out
      ·skip
       intro Wm ga12 ZR HQ hlo12 hS
       refine rdy [5] (csy (fun K hK => ?_) AllReadyH.nil)
       have hpre := hid (show W0.heap.size ≤ Wm.heap.size from HQ.out.size)
       have hpl12 := hid ZR.out.lt
       go_simp
       refine (op_any 5 0 0 _).mono ?_
       rintro e wp5 ⟨rfl, hb⟩
       replace ZR := hid (ZR.out.step hb); replace HQ := hid (below_then HQ.out hb)
       clear hb
       go_wp2_with fail
       clear hpre hpl12
       clear hS
       refine ky hK (hKP.out _ HQ.out) fun hS => ?_
       clear hK K
       revert hS; revert hlo12; revert HQ; revert ZR; revert ga12; revert wp5
       exact K2.out
      ·skip
       intro Wm ga12 ZR HQ hlo12 hS
       refine rdy [6] (csy (fun K hK => ?_) AllReadyH.nil)
       have hpre := hid (show W0.heap.size ≤ Wm.heap.size from HQ.out.size)
       go_simp
       refine named_alloc ?_
       intro Wa6 hbk hb hsz
       replace ZR := hid (ZR.out.step hb); replace HQ := hid (below_then HQ.out hb)
       obtain ⟨ga6, hga⟩ : ∃ g, g = Wm.heap.size := ⟨_, rfl⟩
       rw [← hga] at hbk ⊢
       have hlo6 := hid (show W0.heap.size ≤ ga6 by have := hpre.out; omega)
       have PT := hid hbk
       clear hb hbk hsz hga hpre
       clear hS
       refine ky hK (hKP.out _ HQ.out) fun hS => ?_
       clear hK K
       revert hS; revert hlo12; revert hlo6; revert HQ; revert ZR; revert PT; revert ga12; revert ga6; revert Wa6
       exact K1.out
      ·skip
       intro Wm ga6 ga12 PT ZR HQ hlo6 hlo12 hS
       refine rdy [7] (csy (fun K hK => ?_) AllReadyH.nil)
       have hpre := hid (show W0.heap.size ≤ Wm.heap.size from HQ.out.size)
       have hpl6 := hid PT.out.lt
       have hpl12 := hid ZR.out.lt
       go_simp
       refine (wk_run (L := T1) (some ⟨_, 0, none⟩) 5 5 _ (XR.out.step HQ.out) HQ1.out (PT.out.smO (xs := T1) rfl (by intro k hk j hj; have hk' : k < 5 := hk; have hj' : j < 3 := hj; match k, hk', j, hj' with | 0, _, 0, _ => rfl | 0, _, 1, _ => rfl | 0, _, 2, _ => rfl | 1, _, 0, _ => rfl | 1, _, 1, _ => rfl | 1, _, 2, _ => rfl | 2, _, 0, _ => rfl | 2, _, 1, _ => rfl | 2, _, 2, _ => rfl | 3, _, 0, _ => rfl | 3, _, 1, _ => rfl | 3, _, 2, _ => rfl | 4, _, 0, _ => rfl | 4, _, 1, _ => rfl | 4, _, 2, _ => rfl)) (by omega) G1.out).mono ?_
       rintro e wpl ⟨a9, es9, R9, kr9, rfl, hq9, hr9, ho9, hb⟩
       replace PT := hid (PT.out.step hb); replace ZR := hid (ZR.out.step hb); replace HQ := hid (below_then HQ.out hb)
       clear hb
       have RO := hid (ho9.mono (show W0.heap.size ≤ _ by have := HQ.out.size; have := hpre.out; have := hpl6.out; have := hpl12.out; have := hlo6.out; have := PT.out.lt; have := hlo12.out; have := ZR.out.lt; omega))
       clear hr9 ho9 hq9
       go_wp2_with fail
       clear hpre hpl6 hpl12
       clear hS
       refine ky hK (hKP.out _ HQ.out) fun hS => ?_
       clear hK K
       refine tk 8 hS ?_
       refine tk 9 hS ?_
       refine tk 10 hS ?_
       refine tk 11 hS ?_
       revert hS; revert hlo12; revert hlo6; revert HQ; revert ZR; revert RO; revert PT; revert ga12; revert kr9; revert R9; revert a9; revert ga6; revert wpl
       exact K0.out
      ·skip
       intro Wm ga6 a9 R9 kr9 ga12 PT RO ZR HQ hlo6 hlo12 hS
       refine rdy [13] (csy (fun K hK => ?_) AllReadyH.nil)
       have hpre := hid (show W0.heap.size ≤ Wm.heap.size from HQ.out.size)
       obtain ⟨y00, y01, y02, y03, y04, y05, y06, y07, yf0⟩ := ZR.out.cells8
       go_simp
       clear y00 y01 y02 y03 y04 y05 y06 y07 yf0
       refine named_store_8_8_0 ZR.out ?_
       intro Ws13 hbk hgr hsz
       clear hsz
       replace RO := hid (RO.out.keptR ZR.out (by decide) hgr)
       replace HQ := hid (HQ.out.grown hgr HQ.out.size (fun r e => by cases e; have := HQ.out.size; have := hlo6.out; have := PT.out.lt; have := hlo12.out; have := ZR.out.lt; omega))
       replace ZR := hid hbk
       clear hbk hgr hpre
       clear hS
       refine ky hK (hKP.out _ HQ.out) fun hS => ?_
       clear hK K
       refine tk 14 hS ?_
       refine tk 15 hS ?_
       refine wpAnyH_done (by kernel_rfl) ?_ _
       refine NoPanic.normal ?_
       clear hS
       go_wp2_with fail
       go_meet
       exact ⟨_, _, rfl, rfl, RO.out, HQ.out⟩
  case rest =>
    obtain ⟨E2, ke2, rfl, rfl, h1, h2⟩ := hcut
    rename World => W2
    have EL := hid h1
    replace HB := hid (below_then HB.out h2); replace XP := hid (XP.out.step h2); replace XR := hid (XR.out.step h2)
    clear h1 h2 HQ
    have HQ := hid (Below.refl W2.heap.size W2)
    go_upto_region 3 with fail
    go_cut [6, 7, 8] (fun s6 s7 s8 wx => ∃ g6 a6 es6, s6 = ptr g6 ∧ s8 = .int .i64 0 ∧ WkB W2 wx g6 a6 s1 g1 es6 q1)
    case first =>
        have hKP := hid (show ∀ W' : World, Below W2.heap.size W2 W' → (fun W' : World => W'.cell? ⟨w1.heap.size, 0, none⟩ = some (.int .i64 (nSt 2).1) ∧ W'.cell? ⟨w1.heap.size, 1, none⟩ = some (.slice a.A a.n a.k) ∧ W'.cell? ⟨w1.heap.size, 2, none⟩ = some (.slice a.B a.m a.d) ∧ W'.cell? ⟨w1.heap.size, 3, none⟩ = some (.int .i64 (nGr 2).dn) ∧ W'.cell? ⟨w1.heap.size, 4, none⟩ = some (.int .i64 (nGr 2).ak) ∧ W'.cell? ⟨w1.heap.size, 5, none⟩ = some (.bool (nGr 2).on) ∧ W'.cell? ⟨w1.heap.size, 6, none⟩ = some (.slice a.D (nGr 2).nd.length a.kd) ∧ W'.cell? ⟨w1.heap.size, 7, none⟩ = some (.slice a.Q a.nq a.kq)) W' from fun W' hb => ⟨(XP.out.step hb).cells8.1, (XP.out.step hb).cells8.2.1, (XP.out.step hb).cells8.2.2.1, (XP.out.step hb).cells8.2.2.2.1, (XP.out.step hb).cells8.2.2.2.2.1, (XP.out.step hb).cells8.2.2.2.2.2.1, (XP.out.step hb).cells8.2.2.2.2.2.2.1, (XP.out.step hb).cells8.2.2.2.2.2.2.2.1⟩)
        refine' merge_by (fun K0 => ?_) ?_
        rotate_left
        refine' merge_by (fun K1 => ?_) ?_
        rotate_left
        refine' merge_by (fun K2 => ?_) ?_
        rotate_left
        refine' merge_by (fun K3 => ?_) ?_
        rotate_left
        refine' merge_by (fun K4 => ?_) ?_
        rotate_left
        refine' merge_by (fun K5 => ?_) ?_
        rotate_left
        refine' merge_by (fun K6 => ?_) ?_
        rotate_left
        ·skip
         have bx := (Below.refl W2.heap.size W2).drew
         replace HQ := hid (below_then HQ.out bx)
         clear bx
         refine wp_region_noPanic ?_
         refine wp_region_held_drew (S := (fun W' : World => W'.cell? ⟨w1.heap.size, 0, none⟩ = some (.int .i64 (nSt 2).1) ∧ W'.cell? ⟨w1.heap.size, 1, none⟩ = some (.slice a.A a.n a.k) ∧ W'.cell? ⟨w1.heap.size, 2, none⟩ = some (.slice a.B a.m a.d) ∧ W'.cell? ⟨w1.heap.size, 3, none⟩ = some (.int .i64 (nGr 2).dn) ∧ W'.cell? ⟨w1.heap.size, 4, none⟩ = some (.int .i64 (nGr 2).ak) ∧ W'.cell? ⟨w1.heap.size, 5, none⟩ = some (.bool (nGr 2).on) ∧ W'.cell? ⟨w1.heap.size, 6, none⟩ = some (.slice a.D (nGr 2).nd.length a.kd) ∧ W'.cell? ⟨w1.heap.size, 7, none⟩ = some (.slice a.Q a.nq a.kq))) (by kernel_rfl) (hKP.out _ HQ.out) (fun hS => ?_)
         generalize W2.drew = Wd at *
         refine tk 0 hS ?_
         refine rdy [1, 12] (csy (fun K hK => ?_) (csy (fun K hK => ?_) AllReadyH.nil))
         ·skip
          have hpre := hid (show W2.heap.size ≤ Wd.heap.size from HQ.out.size)
          go_simp
          refine (op_any 1 1 0 _).mono ?_
          rintro e wp1 ⟨rfl, hb⟩
          replace HQ := hid (below_then HQ.out hb)
          clear hb
          go_wp2_with fail
          clear hpre
          clear hS
          refine ky hK (hKP.out _ HQ.out) fun hS => ?_
          clear hK K
          refine rdy [2, 12] (csy (fun K hK => ?_) (csy (fun K hK => ?_) AllReadyH.nil))
          ·skip
           have hpre := hid (show W2.heap.size ≤ wp1.heap.size from HQ.out.size)
           go_simp
           refine (op_any 3 0 7 _).mono ?_
           rintro e wp2 ⟨rfl, hb⟩
           replace HQ := hid (below_then HQ.out hb)
           clear hb
           go_wp2_with fail
           clear hpre
           clear hS
           refine ky hK (hKP.out _ HQ.out) fun hS => ?_
           clear hK K
           refine rdy [3, 12] (csy (fun K hK => ?_) (csy (fun K hK => ?_) AllReadyH.nil))
           ·skip
            have hpre := hid (show W2.heap.size ≤ wp2.heap.size from HQ.out.size)
            go_simp
            refine (op_any 4 0 0 _).mono ?_
            rintro e wp3 ⟨rfl, hb⟩
            replace HQ := hid (below_then HQ.out hb)
            clear hb
            go_wp2_with fail
            clear hpre
            clear hS
            refine ky hK (hKP.out _ HQ.out) fun hS => ?_
            clear hK K
            refine rdy [4, 12] (csy (fun K hK => ?_) (csy (fun K hK => ?_) AllReadyH.nil))
            ·skip
             have hpre := hid (show W2.heap.size ≤ wp3.heap.size from HQ.out.size)
             go_simp
             refine (op_any 4 0 0 _).mono ?_
             rintro e wp4 ⟨rfl, hb⟩
             replace HQ := hid (below_then HQ.out hb)
             clear hb
             go_wp2_with fail
             clear hpre
             clear hS
             refine ky hK (hKP.out _ HQ.out) fun hS => ?_
             clear hK K
             refine rdy [5, 12] (csy (fun K hK => ?_) (csy (fun K hK => ?_) AllReadyH.nil))
             ·skip
              have hpre := hid (show W2.heap.size ≤ wp4.heap.size from HQ.out.size)
              go_simp
              refine (op_any 4 1 0 _).mono ?_
              rintro e wp5 ⟨rfl, hb⟩
              replace HQ := hid (below_then HQ.out hb)
              clear hb
              go_wp2_with fail
              clear hpre
              clear hS
              refine ky hK (hKP.out _ HQ.out) fun hS => ?_
              clear hK K
              refine rdy [6, 12] (csy (fun K hK => ?_) (csy (fun K hK => ?_) AllReadyH.nil))
              ·skip
               have hpre := hid (show W2.heap.size ≤ wp5.heap.size from HQ.out.size)
               go_simp
               refine named_alloc ?_
               intro Wa6 hbk hb hsz
               replace HQ := hid (below_then HQ.out hb)
               obtain ⟨ga6, hga⟩ : ∃ g, g = wp5.heap.size := ⟨_, rfl⟩
               rw [← hga] at hbk ⊢
               have hlo6 := hid (show W2.heap.size ≤ ga6 by have := hpre.out; omega)
               have PT := hid hbk
               clear hb hbk hsz hga hpre
               clear hS
               refine ky hK (hKP.out _ HQ.out) fun hS => ?_
               clear hK K
               refine rdy [7, 12] (csy (fun K hK => ?_) (csy (fun K hK => ?_) AllReadyH.nil))
               ·skip
                have hpre := hid (show W2.heap.size ≤ Wa6.heap.size from HQ.out.size)
                have hpl6 := hid PT.out.lt
                go_simp
                refine (wk_run (L := T2) (some ⟨_, 0, none⟩) 5 5 _ (XR.out.step HQ.out) HQ1.out (PT.out.smO (xs := T2) rfl (by intro k hk j hj; have hk' : k < 5 := hk; have hj' : j < 3 := hj; match k, hk', j, hj' with | 0, _, 0, _ => rfl | 0, _, 1, _ => rfl | 0, _, 2, _ => rfl | 1, _, 0, _ => rfl | 1, _, 1, _ => rfl | 1, _, 2, _ => rfl | 2, _, 0, _ => rfl | 2, _, 1, _ => rfl | 2, _, 2, _ => rfl | 3, _, 0, _ => rfl | 3, _, 1, _ => rfl | 3, _, 2, _ => rfl | 4, _, 0, _ => rfl | 4, _, 1, _ => rfl | 4, _, 2, _ => rfl)) (by omega) G2.out).mono ?_
                rintro e wpl ⟨a9, es9, R9, kr9, rfl, hq9, hr9, ho9, hb⟩
                replace PT := hid (PT.out.step hb); replace HQ := hid (below_then HQ.out hb)
                clear hb
                have RO := hid (ho9.mono (show W2.heap.size ≤ _ by have := HQ.out.size; have := hpre.out; have := hpl6.out; have := hlo6.out; have := PT.out.lt; omega))
                have RQ := hid hq9
                have RS := hid hr9.rcr
                clear hr9 ho9 hq9
                go_wp2_with fail
                clear hpre hpl6
                clear hS
                refine ky hK (hKP.out _ HQ.out) fun hS => ?_
                clear hK K
                refine tk 8 hS ?_
                refine tk 9 hS ?_
                refine tk 10 hS ?_
                refine tk 11 hS ?_
                refine rdy [12] (csy (fun K hK => ?_) AllReadyH.nil)
                have hpre := hid (show W2.heap.size ≤ wpl.heap.size from HQ.out.size)
                go_simp
                refine named_alloc ?_
                intro Wa12 hbk hb hsz
                have RT := hid ((RS.out.above.mono (q := fun i => i = wpl.heap.size) (fun i hi => by subst hi; exact Nat.le_refl _)).step hb)
                replace PT := hid (PT.out.step hb); replace RS := hid (RS.out.step hb); replace RO := hid (RO.out.step hb); replace HQ := hid (below_then HQ.out hb)
                obtain ⟨ga12, hga⟩ : ∃ g, g = wpl.heap.size := ⟨_, rfl⟩
                rw [← hga] at hbk ⊢
                rw [← hga] at RT
                have hlo12 := hid (show W2.heap.size ≤ ga12 by have := hpre.out; omega)
                have ZR := hid hbk
                clear hb hbk hsz hga hpre
                clear hS
                refine ky hK (hKP.out _ HQ.out) fun hS => ?_
                clear hK K
                revert hS; revert hlo12; revert hlo6; revert RT; revert RQ; revert HQ; revert ZR; revert RS; revert RO; revert PT; revert ga12; revert kr9; revert R9; revert es9; revert a9; revert ga6; revert Wa12
                exact K0.out
               ·skip
                have hpre := hid (show W2.heap.size ≤ Wa6.heap.size from HQ.out.size)
                go_simp
                refine named_alloc ?_
                intro Wa12 hbk hb hsz
                skip
                replace PT := hid (PT.out.step hb); replace HQ := hid (below_then HQ.out hb)
                obtain ⟨ga12, hga⟩ : ∃ g, g = Wa6.heap.size := ⟨_, rfl⟩
                rw [← hga] at hbk ⊢
                have hlo12 := hid (show W2.heap.size ≤ ga12 by have := hpre.out; omega)
                have ZR := hid hbk
                clear hb hbk hsz hga hpre
                clear hS
                refine ky hK (hKP.out _ HQ.out) fun hS => ?_
                clear hK K
                revert hS; revert hlo12; revert hlo6; revert HQ; revert ZR; revert PT; revert ga12; revert ga6; revert Wa12
                exact K1.out
              ·skip
               have hpre := hid (show W2.heap.size ≤ wp5.heap.size from HQ.out.size)
               go_simp
               refine named_alloc ?_
               intro Wa12 hbk hb hsz
               skip
               replace HQ := hid (below_then HQ.out hb)
               obtain ⟨ga12, hga⟩ : ∃ g, g = wp5.heap.size := ⟨_, rfl⟩
               rw [← hga] at hbk ⊢
               have hlo12 := hid (show W2.heap.size ≤ ga12 by have := hpre.out; omega)
               have ZR := hid hbk
               clear hb hbk hsz hga hpre
               clear hS
               refine ky hK (hKP.out _ HQ.out) fun hS => ?_
               clear hK K
               revert hS; revert hlo12; revert HQ; revert ZR; revert ga12; revert Wa12
               exact K2.out
             ·skip
              have hpre := hid (show W2.heap.size ≤ wp4.heap.size from HQ.out.size)
              go_simp
              refine named_alloc ?_
              intro Wa12 hbk hb hsz
              skip
              replace HQ := hid (below_then HQ.out hb)
              obtain ⟨ga12, hga⟩ : ∃ g, g = wp4.heap.size := ⟨_, rfl⟩
              rw [← hga] at hbk ⊢
              have hlo12 := hid (show W2.heap.size ≤ ga12 by have := hpre.out; omega)
              have ZR := hid hbk
              clear hb hbk hsz hga hpre
              clear hS
              refine ky hK (hKP.out _ HQ.out) fun hS => ?_
              clear hK K
              revert hS; revert hlo12; revert HQ; revert ZR; revert ga12; revert Wa12
              exact K3.out
            ·skip
             have hpre := hid (show W2.heap.size ≤ wp3.heap.size from HQ.out.size)
             go_simp
             refine named_alloc ?_
             intro Wa12 hbk hb hsz
             skip
             replace HQ := hid (below_then HQ.out hb)
             obtain ⟨ga12, hga⟩ : ∃ g, g = wp3.heap.size := ⟨_, rfl⟩
             rw [← hga] at hbk ⊢
             have hlo12 := hid (show W2.heap.size ≤ ga12 by have := hpre.out; omega)
             have ZR := hid hbk
             clear hb hbk hsz hga hpre
             clear hS
             refine ky hK (hKP.out _ HQ.out) fun hS => ?_
             clear hK K
             revert hS; revert hlo12; revert HQ; revert ZR; revert ga12; revert Wa12
             exact K4.out
           ·skip
            have hpre := hid (show W2.heap.size ≤ wp2.heap.size from HQ.out.size)
            go_simp
            refine named_alloc ?_
            intro Wa12 hbk hb hsz
            skip
            replace HQ := hid (below_then HQ.out hb)
            obtain ⟨ga12, hga⟩ : ∃ g, g = wp2.heap.size := ⟨_, rfl⟩
            rw [← hga] at hbk ⊢
            have hlo12 := hid (show W2.heap.size ≤ ga12 by have := hpre.out; omega)
            have ZR := hid hbk
            clear hb hbk hsz hga hpre
            clear hS
            refine ky hK (hKP.out _ HQ.out) fun hS => ?_
            clear hK K
            revert hS; revert hlo12; revert HQ; revert ZR; revert ga12; revert Wa12
            exact K5.out
          ·skip
           have hpre := hid (show W2.heap.size ≤ wp1.heap.size from HQ.out.size)
           go_simp
           refine named_alloc ?_
           intro Wa12 hbk hb hsz
           skip
           replace HQ := hid (below_then HQ.out hb)
           obtain ⟨ga12, hga⟩ : ∃ g, g = wp1.heap.size := ⟨_, rfl⟩
           rw [← hga] at hbk ⊢
           have hlo12 := hid (show W2.heap.size ≤ ga12 by have := hpre.out; omega)
           have ZR := hid hbk
           clear hb hbk hsz hga hpre
           clear hS
           refine ky hK (hKP.out _ HQ.out) fun hS => ?_
           clear hK K
           revert hS; revert hlo12; revert HQ; revert ZR; revert ga12; revert Wa12
           exact K6.out
         ·skip
          have hpre := hid (show W2.heap.size ≤ Wd.heap.size from HQ.out.size)
          go_simp
          refine named_alloc ?_
          intro Wa12 hbk hb hsz
          skip
          replace HQ := hid (below_then HQ.out hb)
          obtain ⟨ga12, hga⟩ : ∃ g, g = Wd.heap.size := ⟨_, rfl⟩
          rw [← hga] at hbk ⊢
          have hlo12 := hid (show W2.heap.size ≤ ga12 by have := hpre.out; omega)
          have ZR := hid hbk
          clear hb hbk hsz hga hpre
          clear hS
          refine ky hK (hKP.out _ HQ.out) fun hS => ?_
          clear hK K
          refine rdy [1] (csy (fun K hK => ?_) AllReadyH.nil)
          have hpre := hid (show W2.heap.size ≤ Wa12.heap.size from HQ.out.size)
          have hpl12 := hid ZR.out.lt
          go_simp
          refine (op_any 1 1 0 _).mono ?_
          rintro e wp1 ⟨rfl, hb⟩
          replace ZR := hid (ZR.out.step hb); replace HQ := hid (below_then HQ.out hb)
          clear hb
          go_wp2_with fail
          clear hpre hpl12
          clear hS
          refine ky hK (hKP.out _ HQ.out) fun hS => ?_
          clear hK K
          revert hS; revert hlo12; revert HQ; revert ZR; revert ga12; revert wp1
          exact K6.out
        ·skip
         intro Wm ga12 ZR HQ hlo12 hS
         refine rdy [2] (csy (fun K hK => ?_) AllReadyH.nil)
         have hpre := hid (show W2.heap.size ≤ Wm.heap.size from HQ.out.size)
         have hpl12 := hid ZR.out.lt
         go_simp
         refine (op_any 3 0 7 _).mono ?_
         rintro e wp2 ⟨rfl, hb⟩
         replace ZR := hid (ZR.out.step hb); replace HQ := hid (below_then HQ.out hb)
         clear hb
         go_wp2_with fail
         clear hpre hpl12
         clear hS
         refine ky hK (hKP.out _ HQ.out) fun hS => ?_
         clear hK K
         revert hS; revert hlo12; revert HQ; revert ZR; revert ga12; revert wp2
         exact K5.out
        ·skip
         intro Wm ga12 ZR HQ hlo12 hS
         refine rdy [3] (csy (fun K hK => ?_) AllReadyH.nil)
         have hpre := hid (show W2.heap.size ≤ Wm.heap.size from HQ.out.size)
         have hpl12 := hid ZR.out.lt
         go_simp
         refine (op_any 4 0 0 _).mono ?_
         rintro e wp3 ⟨rfl, hb⟩
         replace ZR := hid (ZR.out.step hb); replace HQ := hid (below_then HQ.out hb)
         clear hb
         go_wp2_with fail
         clear hpre hpl12
         clear hS
         refine ky hK (hKP.out _ HQ.out) fun hS => ?_
         clear hK K
         revert hS; revert hlo12; revert HQ; revert ZR; revert ga12; revert wp3
         exact K4.out
        ·skip
         intro Wm ga12 ZR HQ hlo12 hS
         refine rdy [4] (csy (fun K hK => ?_) AllReadyH.nil)
         have hpre := hid (show W2.heap.size ≤ Wm.heap.size from HQ.out.size)
         have hpl12 := hid ZR.out.lt
         go_simp
         refine (op_any 4 0 0 _).mono ?_
         rintro e wp4 ⟨rfl, hb⟩
         replace ZR := hid (ZR.out.step hb); replace HQ := hid (below_then HQ.out hb)
         clear hb
         go_wp2_with fail
         clear hpre hpl12
         clear hS
         refine ky hK (hKP.out _ HQ.out) fun hS => ?_
         clear hK K
         revert hS; revert hlo12; revert HQ; revert ZR; revert ga12; revert wp4
         exact K3.out
        ·skip
         intro Wm ga12 ZR HQ hlo12 hS
         refine rdy [5] (csy (fun K hK => ?_) AllReadyH.nil)
         have hpre := hid (show W2.heap.size ≤ Wm.heap.size from HQ.out.size)
         have hpl12 := hid ZR.out.lt
         go_simp
         refine (op_any 4 1 0 _).mono ?_
         rintro e wp5 ⟨rfl, hb⟩
         replace ZR := hid (ZR.out.step hb); replace HQ := hid (below_then HQ.out hb)
         clear hb
         go_wp2_with fail
         clear hpre hpl12
         clear hS
         refine ky hK (hKP.out _ HQ.out) fun hS => ?_
         clear hK K
         revert hS; revert hlo12; revert HQ; revert ZR; revert ga12; revert wp5
         exact K2.out
        ·skip
         intro Wm ga12 ZR HQ hlo12 hS
         refine rdy [6] (csy (fun K hK => ?_) AllReadyH.nil)
         have hpre := hid (show W2.heap.size ≤ Wm.heap.size from HQ.out.size)
         go_simp
         refine named_alloc ?_
         intro Wa6 hbk hb hsz
         replace ZR := hid (ZR.out.step hb); replace HQ := hid (below_then HQ.out hb)
         obtain ⟨ga6, hga⟩ : ∃ g, g = Wm.heap.size := ⟨_, rfl⟩
         rw [← hga] at hbk ⊢
         have hlo6 := hid (show W2.heap.size ≤ ga6 by have := hpre.out; omega)
         have PT := hid hbk
         clear hb hbk hsz hga hpre
         clear hS
         refine ky hK (hKP.out _ HQ.out) fun hS => ?_
         clear hK K
         revert hS; revert hlo12; revert hlo6; revert HQ; revert ZR; revert PT; revert ga12; revert ga6; revert Wa6
         exact K1.out
        ·skip
         intro Wm ga6 ga12 PT ZR HQ hlo6 hlo12 hS
         refine rdy [7] (csy (fun K hK => ?_) AllReadyH.nil)
         have hpre := hid (show W2.heap.size ≤ Wm.heap.size from HQ.out.size)
         have hpl6 := hid PT.out.lt
         have hpl12 := hid ZR.out.lt
         go_simp
         refine (wk_run (L := T2) (some ⟨_, 0, none⟩) 5 5 _ (XR.out.step HQ.out) HQ1.out (PT.out.smO (xs := T2) rfl (by intro k hk j hj; have hk' : k < 5 := hk; have hj' : j < 3 := hj; match k, hk', j, hj' with | 0, _, 0, _ => rfl | 0, _, 1, _ => rfl | 0, _, 2, _ => rfl | 1, _, 0, _ => rfl | 1, _, 1, _ => rfl | 1, _, 2, _ => rfl | 2, _, 0, _ => rfl | 2, _, 1, _ => rfl | 2, _, 2, _ => rfl | 3, _, 0, _ => rfl | 3, _, 1, _ => rfl | 3, _, 2, _ => rfl | 4, _, 0, _ => rfl | 4, _, 1, _ => rfl | 4, _, 2, _ => rfl)) (by omega) G2.out).mono ?_
         rintro e wpl ⟨a9, es9, R9, kr9, rfl, hq9, hr9, ho9, hb⟩
         replace PT := hid (PT.out.step hb); replace ZR := hid (ZR.out.step hb); replace HQ := hid (below_then HQ.out hb)
         clear hb
         have RO := hid (ho9.mono (show W2.heap.size ≤ _ by have := HQ.out.size; have := hpre.out; have := hpl6.out; have := hpl12.out; have := hlo6.out; have := PT.out.lt; have := hlo12.out; have := ZR.out.lt; omega))
         have RQ := hid hq9
         have RS := hid hr9.rcr
         have RT := hid (hr9.mono (q := fun i => i = ga12) (fun i hi => by subst hi; exact hpl12.out))
         clear hr9 ho9 hq9
         go_wp2_with fail
         clear hpre hpl6 hpl12
         clear hS
         refine ky hK (hKP.out _ HQ.out) fun hS => ?_
         clear hK K
         refine tk 8 hS ?_
         refine tk 9 hS ?_
         refine tk 10 hS ?_
         refine tk 11 hS ?_
         revert hS; revert hlo12; revert hlo6; revert RT; revert RQ; revert HQ; revert ZR; revert RS; revert RO; revert PT; revert ga12; revert kr9; revert R9; revert es9; revert a9; revert ga6; revert wpl
         exact K0.out
        ·skip
         intro Wm ga6 a9 es9 R9 kr9 ga12 PT RO RS ZR HQ RQ RT hlo6 hlo12 hS
         refine rdy [13] (csy (fun K hK => ?_) AllReadyH.nil)
         have hpre := hid (show W2.heap.size ≤ Wm.heap.size from HQ.out.size)
         obtain ⟨y00, y01, y02, y03, y04, y05, y06, y07, yf0⟩ := ZR.out.cells8
         go_simp
         clear y00 y01 y02 y03 y04 y05 y06 y07 yf0
         refine named_store_8_8_0 ZR.out ?_
         intro Ws13 hbk hgr hsz
         clear hsz
         replace RO := hid (RO.out.keptR ZR.out (by decide) hgr)
         replace HQ := hid (HQ.out.grown hgr HQ.out.size (fun r e => by cases e; have := HQ.out.size; have := hlo6.out; have := PT.out.lt; have := hlo12.out; have := ZR.out.lt; omega))
         replace RS := hid (RT.out.turn hgr rfl).rcr
         clear RT
         replace ZR := hid hbk
         clear hbk hgr hpre
         clear hS
         refine ky hK (hKP.out _ HQ.out) fun hS => ?_
         clear hK K
         refine tk 14 hS ?_
         refine tk 15 hS ?_
         refine wpAnyH_done (by kernel_rfl) ?_ _
         refine NoPanic.normal ?_
         clear hS
         go_wp2_with fail
         go_meet
         exact ⟨_, _, _, rfl, rfl, ZR.out, RS.out, RQ.out, HQ.out, hlo12.out⟩
    case rest =>
      obtain ⟨g6, a6, es6, rfl, rfl, h1, h2, h3, h4, h5⟩ := hcut
      rename World => W3
      have P6 := hid h1; have S6 := hid h2
      replace HB := hid (below_then HB.out h4); replace XP := hid (XP.out.step h4); replace XR := hid (XR.out.step h4); replace EL := hid (EL.out.step h4)
      have HK6 := hid (show RcGood s1 g1 (ql es6) by rw [h3]; exact HG1.out)
      have G4 := hid (show (opsA s1 g1 (ql es6) [] [(5, 0, 0)]).1 = 4 by rw [h3]; exact F4.out)
      have G5 := hid (show opsA s1 g1 (ql es6) [] T3 = (0, s3, g3, q3, [7]) by rw [h3]; exact F5.out)
      have N6 := hid (show wN (ql es6) = 1 by rw [h3]; exact F3.out)
      clear h1 h2 h3 h4 h5 HQ F3 F4 F5 HG1 G1 G2
      have HQ := hid (Below.refl W3.heap.size W3)
      go_upto_region 4 with fail
      go_cut [9, 10, 11] (fun s9 s10 s11 wx => s11 = .int .i64 4 ∧ Below W3.heap.size W3 wx)
      case first =>
          have hKP := hid (show ∀ W' : World, Below W3.heap.size W3 W' → (fun W' : World => W'.cell? ⟨g6, 0, none⟩ = some (.int .i64 s1.1) ∧ W'.cell? ⟨g6, 1, none⟩ = some (.slice a6.A a6.n a6.k) ∧ W'.cell? ⟨g6, 2, none⟩ = some (.slice a6.B a6.m a6.d) ∧ W'.cell? ⟨g6, 3, none⟩ = some (.int .i64 g1.dn) ∧ W'.cell? ⟨g6, 4, none⟩ = some (.int .i64 g1.ak) ∧ W'.cell? ⟨g6, 5, none⟩ = some (.bool g1.on) ∧ W'.cell? ⟨g6, 6, none⟩ = some (.slice a6.D g1.nd.length a6.kd) ∧ W'.cell? ⟨g6, 7, none⟩ = some (.slice a6.Q a6.nq a6.kq)) W' from fun W' hb => ⟨(P6.out.step hb).cells8.1, (P6.out.step hb).cells8.2.1, (P6.out.step hb).cells8.2.2.1, (P6.out.step hb).cells8.2.2.2.1, (P6.out.step hb).cells8.2.2.2.2.1, (P6.out.step hb).cells8.2.2.2.2.2.1, (P6.out.step hb).cells8.2.2.2.2.2.2.1, (P6.out.step hb).cells8.2.2.2.2.2.2.2.1⟩)
          refine' merge_by (fun K0 => ?_) ?_
          rotate_left
          refine' merge_by (fun K1 => ?_) ?_
          rotate_left
          ·skip
           have bx := (Below.refl W3.heap.size W3).drew
           replace HQ := hid (below_then HQ.out bx)
           clear bx
           refine wp_region_noPanic ?_
           refine wp_region_held_drew (S := (fun W' : World => W'.cell? ⟨g6, 0, none⟩ = some (.int .i64 s1.1) ∧ W'.cell? ⟨g6, 1, none⟩ = some (.slice a6.A a6.n a6.k) ∧ W'.cell? ⟨g6, 2, none⟩ = some (.slice a6.B a6.m a6.d) ∧ W'.cell? ⟨g6, 3, none⟩ = some (.int .i64 g1.dn) ∧ W'.cell? ⟨g6, 4, none⟩ = some (.int .i64 g1.ak) ∧ W'.cell? ⟨g6, 5, none⟩ = some (.bool g1.on) ∧ W'.cell? ⟨g6, 6, none⟩ = some (.slice a6.D g1.nd.length a6.kd) ∧ W'.cell? ⟨g6, 7, none⟩ = some (.slice a6.Q a6.nq a6.kq))) (by kernel_rfl) (hKP.out _ HQ.out) (fun hS => ?_)
           generalize W3.drew = Wd at *
           refine tk 0 hS ?_
           refine rdy [1, 7] (csy (fun K hK => ?_) (csy (fun K hK => ?_) AllReadyH.nil))
           ·skip
            have hpre := hid (show W3.heap.size ≤ Wd.heap.size from HQ.out.size)
            go_simp
            refine (op_any 5 0 0 _).mono ?_
            rintro e wp1 ⟨rfl, hb⟩
            replace HQ := hid (below_then HQ.out hb)
            clear hb
            go_wp2_with fail
            clear hpre
            clear hS
            refine ky hK (hKP.out _ HQ.out) fun hS => ?_
            clear hK K
            refine rdy [2, 7] (csy (fun K hK => ?_) (csy (fun K hK => ?_) AllReadyH.nil))
            ·skip
             have hpre := hid (show W3.heap.size ≤ wp1.heap.size from HQ.out.size)
             go_simp
             refine (wk_no (o := (5, 0, 0)) _ (S6.out.step HQ.out) HK6.out G4.out (by decide)).mono ?_
             rintro e wp2 ⟨⟨a9, rfl⟩, hb⟩
             replace HQ := hid (below_then HQ.out hb)
             clear hb
             go_wp2_with fail
             clear hpre
             clear hS
             refine ky hK (hKP.out _ HQ.out) fun hS => ?_
             clear hK K
             refine tk 3 hS ?_
             refine tk 4 hS ?_
             refine tk 5 hS ?_
             refine tk 6 hS ?_
             refine rdy [7] (csy (fun K hK => ?_) AllReadyH.nil)
             have hpre := hid (show W3.heap.size ≤ wp2.heap.size from HQ.out.size)
             go_simp
             refine named_alloc ?_
             intro Wa7 hbk hb hsz
             replace HQ := hid (below_then HQ.out hb)
             obtain ⟨ga7, hga⟩ : ∃ g, g = wp2.heap.size := ⟨_, rfl⟩
             rw [← hga] at hbk ⊢
             have hlo7 := hid (show W3.heap.size ≤ ga7 by have := hpre.out; omega)
             have ZR := hid hbk
             clear hb hbk hsz hga hpre
             clear hS
             refine ky hK (hKP.out _ HQ.out) fun hS => ?_
             clear hK K
             revert hS; revert hlo7; revert HQ; revert ZR; revert ga7; revert a9; revert Wa7
             exact K0.out
            ·skip
             have hpre := hid (show W3.heap.size ≤ wp1.heap.size from HQ.out.size)
             go_simp
             refine named_alloc ?_
             intro Wa7 hbk hb hsz
             replace HQ := hid (below_then HQ.out hb)
             obtain ⟨ga7, hga⟩ : ∃ g, g = wp1.heap.size := ⟨_, rfl⟩
             rw [← hga] at hbk ⊢
             have hlo7 := hid (show W3.heap.size ≤ ga7 by have := hpre.out; omega)
             have ZR := hid hbk
             clear hb hbk hsz hga hpre
             clear hS
             refine ky hK (hKP.out _ HQ.out) fun hS => ?_
             clear hK K
             revert hS; revert hlo7; revert HQ; revert ZR; revert ga7; revert Wa7
             exact K1.out
           ·skip
            have hpre := hid (show W3.heap.size ≤ Wd.heap.size from HQ.out.size)
            go_simp
            refine named_alloc ?_
            intro Wa7 hbk hb hsz
            replace HQ := hid (below_then HQ.out hb)
            obtain ⟨ga7, hga⟩ : ∃ g, g = Wd.heap.size := ⟨_, rfl⟩
            rw [← hga] at hbk ⊢
            have hlo7 := hid (show W3.heap.size ≤ ga7 by have := hpre.out; omega)
            have ZR := hid hbk
            clear hb hbk hsz hga hpre
            clear hS
            refine ky hK (hKP.out _ HQ.out) fun hS => ?_
            clear hK K
            refine rdy [1] (csy (fun K hK => ?_) AllReadyH.nil)
            have hpre := hid (show W3.heap.size ≤ Wa7.heap.size from HQ.out.size)
            have hpl7 := hid ZR.out.lt
            go_simp
            refine (op_any 5 0 0 _).mono ?_
            rintro e wp1 ⟨rfl, hb⟩
            replace ZR := hid (ZR.out.step hb); replace HQ := hid (below_then HQ.out hb)
            clear hb
            go_wp2_with fail
            clear hpre hpl7
            clear hS
            refine ky hK (hKP.out _ HQ.out) fun hS => ?_
            clear hK K
            revert hS; revert hlo7; revert HQ; revert ZR; revert ga7; revert wp1
            exact K1.out
          ·skip
           intro Wm ga7 ZR HQ hlo7 hS
           refine rdy [2] (csy (fun K hK => ?_) AllReadyH.nil)
           have hpre := hid (show W3.heap.size ≤ Wm.heap.size from HQ.out.size)
           have hpl7 := hid ZR.out.lt
           go_simp
           refine (wk_no (o := (5, 0, 0)) _ (S6.out.step HQ.out) HK6.out G4.out (by decide)).mono ?_
           rintro e wp2 ⟨⟨a9, rfl⟩, hb⟩
           replace ZR := hid (ZR.out.step hb); replace HQ := hid (below_then HQ.out hb)
           clear hb
           go_wp2_with fail
           clear hpre hpl7
           clear hS
           refine ky hK (hKP.out _ HQ.out) fun hS => ?_
           clear hK K
           refine tk 3 hS ?_
           refine tk 4 hS ?_
           refine tk 5 hS ?_
           refine tk 6 hS ?_
           revert hS; revert hlo7; revert HQ; revert ZR; revert ga7; revert a9; revert wp2
           exact K0.out
          ·skip
           intro Wm a9 ga7 ZR HQ hlo7 hS
           refine rdy [8] (csy (fun K hK => ?_) AllReadyH.nil)
           have hpre := hid (show W3.heap.size ≤ Wm.heap.size from HQ.out.size)
           obtain ⟨y00, y01, y02, y03, y04, y05, y06, y07, yf0⟩ := ZR.out.cells8
           go_simp
           clear y00 y01 y02 y03 y04 y05 y06 y07 yf0
           refine named_store_8_8_0 ZR.out ?_
           intro Ws8 hbk hgr hsz
           clear hsz
           replace HQ := hid (HQ.out.grown hgr HQ.out.size (fun r e => by cases e; have := HQ.out.size; have := hlo7.out; have := ZR.out.lt; omega))
           replace ZR := hid hbk
           clear hbk hgr hpre
           clear hS
           refine ky hK (hKP.out _ HQ.out) fun hS => ?_
           clear hK K
           refine tk 9 hS ?_
           refine tk 10 hS ?_
           refine wpAnyH_done (by kernel_rfl) ?_ _
           refine NoPanic.normal ?_
           clear hS
           go_wp2_with fail
           go_meet
           exact ⟨rfl, HQ.out⟩
      case rest =>
        obtain ⟨rfl, h4⟩ := hcut
        rename World => W4
        replace HB := hid (below_then HB.out h4); replace XP := hid (XP.out.step h4); replace XR := hid (XR.out.step h4); replace EL := hid (EL.out.step h4); replace P6 := hid (P6.out.step h4); replace S6 := hid (S6.out.step h4)
        clear h4 HQ
        have HQ := hid (Below.refl W4.heap.size W4)
        go_upto_region 5 with fail
        go_cut [12, 13, 14] (fun s12 s13 s14 wx => ∃ E ke, s13 = .slice E 1 ke ∧ s14 = .int .i64 0 ∧ WkS W4 wx E ke [7])
        case first =>
            have hKP := hid (show ∀ W' : World, Below W4.heap.size W4 W' → (fun W' : World => W'.cell? ⟨g6, 0, none⟩ = some (.int .i64 s1.1) ∧ W'.cell? ⟨g6, 1, none⟩ = some (.slice a6.A a6.n a6.k) ∧ W'.cell? ⟨g6, 2, none⟩ = some (.slice a6.B a6.m a6.d) ∧ W'.cell? ⟨g6, 3, none⟩ = some (.int .i64 g1.dn) ∧ W'.cell? ⟨g6, 4, none⟩ = some (.int .i64 g1.ak) ∧ W'.cell? ⟨g6, 5, none⟩ = some (.bool g1.on) ∧ W'.cell? ⟨g6, 6, none⟩ = some (.slice a6.D g1.nd.length a6.kd) ∧ W'.cell? ⟨g6, 7, none⟩ = some (.slice a6.Q a6.nq a6.kq)) W' from fun W' hb => ⟨(P6.out.step hb).cells8.1, (P6.out.step hb).cells8.2.1, (P6.out.step hb).cells8.2.2.1, (P6.out.step hb).cells8.2.2.2.1, (P6.out.step hb).cells8.2.2.2.2.1, (P6.out.step hb).cells8.2.2.2.2.2.1, (P6.out.step hb).cells8.2.2.2.2.2.2.1, (P6.out.step hb).cells8.2.2.2.2.2.2.2.1⟩)
            refine' merge_by (fun K0 => ?_) ?_
            rotate_left
            refine' merge_by (fun K1 => ?_) ?_
            rotate_left
            refine' merge_by (fun K2 => ?_) ?_
            rotate_left
            refine' merge_by (fun K3 => ?_) ?_
            rotate_left
            refine' merge_by (fun K4 => ?_) ?_
            rotate_left
            ·skip
             have bx := (Below.refl W4.heap.size W4).drew
             replace HQ := hid (below_then HQ.out bx)
             clear bx
             refine wp_region_noPanic ?_
             refine wp_region_held_drew (S := (fun W' : World => W'.cell? ⟨g6, 0, none⟩ = some (.int .i64 s1.1) ∧ W'.cell? ⟨g6, 1, none⟩ = some (.slice a6.A a6.n a6.k) ∧ W'.cell? ⟨g6, 2, none⟩ = some (.slice a6.B a6.m a6.d) ∧ W'.cell? ⟨g6, 3, none⟩ = some (.int .i64 g1.dn) ∧ W'.cell? ⟨g6, 4, none⟩ = some (.int .i64 g1.ak) ∧ W'.cell? ⟨g6, 5, none⟩ = some (.bool g1.on) ∧ W'.cell? ⟨g6, 6, none⟩ = some (.slice a6.D g1.nd.length a6.kd) ∧ W'.cell? ⟨g6, 7, none⟩ = some (.slice a6.Q a6.nq a6.kq))) (by kernel_rfl) (hKP.out _ HQ.out) (fun hS => ?_)
             generalize W4.drew = Wd at *
             refine tk 0 hS ?_
             refine rdy [1, 10] (csy (fun K hK => ?_) (csy (fun K hK => ?_) AllReadyH.nil))
             ·skip
              have hpre := hid (show W4.heap.size ≤ Wd.heap.size from HQ.out.size)
              go_simp
              refine (op_any 2 1 0 _).mono ?_
              rintro e wp1 ⟨rfl, hb⟩
              replace HQ := hid (below_then HQ.out hb)
              clear hb
              go_wp2_with fail
              clear hpre
              clear hS
              refine ky hK (hKP.out _ HQ.out) fun hS => ?_
              clear hK K
              refine rdy [2, 10] (csy (fun K hK => ?_) (csy (fun K hK => ?_) AllReadyH.nil))
              ·skip
               have hpre := hid (show W4.heap.size ≤ wp1.heap.size from HQ.out.size)
               go_simp
               refine (op_any 4 1 0 _).mono ?_
               rintro e wp2 ⟨rfl, hb⟩
               replace HQ := hid (below_then HQ.out hb)
               clear hb
               go_wp2_with fail
               clear hpre
               clear hS
               refine ky hK (hKP.out _ HQ.out) fun hS => ?_
               clear hK K
               refine rdy [3, 10] (csy (fun K hK => ?_) (csy (fun K hK => ?_) AllReadyH.nil))
               ·skip
                have hpre := hid (show W4.heap.size ≤ wp2.heap.size from HQ.out.size)
                go_simp
                refine (op_any 5 0 0 _).mono ?_
                rintro e wp3 ⟨rfl, hb⟩
                replace HQ := hid (below_then HQ.out hb)
                clear hb
                go_wp2_with fail
                clear hpre
                clear hS
                refine ky hK (hKP.out _ HQ.out) fun hS => ?_
                clear hK K
                refine rdy [4, 10] (csy (fun K hK => ?_) (csy (fun K hK => ?_) AllReadyH.nil))
                ·skip
                 have hpre := hid (show W4.heap.size ≤ wp3.heap.size from HQ.out.size)
                 go_simp
                 refine named_alloc ?_
                 intro Wa4 hbk hb hsz
                 replace HQ := hid (below_then HQ.out hb)
                 obtain ⟨ga4, hga⟩ : ∃ g, g = wp3.heap.size := ⟨_, rfl⟩
                 rw [← hga] at hbk ⊢
                 have hlo4 := hid (show W4.heap.size ≤ ga4 by have := hpre.out; omega)
                 have PT := hid hbk
                 clear hb hbk hsz hga hpre
                 clear hS
                 refine ky hK (hKP.out _ HQ.out) fun hS => ?_
                 clear hK K
                 refine rdy [5, 10] (csy (fun K hK => ?_) (csy (fun K hK => ?_) AllReadyH.nil))
                 ·skip
                  have hpre := hid (show W4.heap.size ≤ Wa4.heap.size from HQ.out.size)
                  have hpl4 := hid PT.out.lt
                  go_simp
                  refine (wk_run (L := T3) (some ⟨_, 0, none⟩) 3 3 _ (S6.out.step HQ.out) HK6.out (PT.out.smO (xs := T3) rfl (by intro k hk j hj; have hk' : k < 3 := hk; have hj' : j < 3 := hj; match k, hk', j, hj' with | 0, _, 0, _ => rfl | 0, _, 1, _ => rfl | 0, _, 2, _ => rfl | 1, _, 0, _ => rfl | 1, _, 1, _ => rfl | 1, _, 2, _ => rfl | 2, _, 0, _ => rfl | 2, _, 1, _ => rfl | 2, _, 2, _ => rfl)) (by omega) G5.out).mono ?_
                  rintro e wpl ⟨a9, es9, R9, kr9, rfl, hq9, hr9, ho9, hb⟩
                  replace PT := hid (PT.out.step hb); replace HQ := hid (below_then HQ.out hb)
                  clear hb
                  have RO := hid (ho9.mono (show W4.heap.size ≤ _ by have := HQ.out.size; have := hpre.out; have := hpl4.out; have := hlo4.out; have := PT.out.lt; omega))
                  clear hr9 ho9 hq9
                  go_wp2_with fail
                  clear hpre hpl4
                  clear hS
                  refine ky hK (hKP.out _ HQ.out) fun hS => ?_
                  clear hK K
                  refine tk 6 hS ?_
                  refine tk 7 hS ?_
                  refine tk 8 hS ?_
                  refine tk 9 hS ?_
                  refine rdy [10] (csy (fun K hK => ?_) AllReadyH.nil)
                  have hpre := hid (show W4.heap.size ≤ wpl.heap.size from HQ.out.size)
                  go_simp
                  refine named_alloc ?_
                  intro Wa10 hbk hb hsz
                  replace PT := hid (PT.out.step hb); replace RO := hid (RO.out.step hb); replace HQ := hid (below_then HQ.out hb)
                  obtain ⟨ga10, hga⟩ : ∃ g, g = wpl.heap.size := ⟨_, rfl⟩
                  rw [← hga] at hbk ⊢
                  have hlo10 := hid (show W4.heap.size ≤ ga10 by have := hpre.out; omega)
                  have ZR := hid hbk
                  clear hb hbk hsz hga hpre
                  clear hS
                  refine ky hK (hKP.out _ HQ.out) fun hS => ?_
                  clear hK K
                  revert hS; revert hlo10; revert hlo4; revert HQ; revert ZR; revert RO; revert PT; revert ga10; revert kr9; revert R9; revert a9; revert ga4; revert Wa10
                  exact K0.out
                 ·skip
                  have hpre := hid (show W4.heap.size ≤ Wa4.heap.size from HQ.out.size)
                  go_simp
                  refine named_alloc ?_
                  intro Wa10 hbk hb hsz
                  replace PT := hid (PT.out.step hb); replace HQ := hid (below_then HQ.out hb)
                  obtain ⟨ga10, hga⟩ : ∃ g, g = Wa4.heap.size := ⟨_, rfl⟩
                  rw [← hga] at hbk ⊢
                  have hlo10 := hid (show W4.heap.size ≤ ga10 by have := hpre.out; omega)
                  have ZR := hid hbk
                  clear hb hbk hsz hga hpre
                  clear hS
                  refine ky hK (hKP.out _ HQ.out) fun hS => ?_
                  clear hK K
                  revert hS; revert hlo10; revert hlo4; revert HQ; revert ZR; revert PT; revert ga10; revert ga4; revert Wa10
                  exact K1.out
                ·skip
                 have hpre := hid (show W4.heap.size ≤ wp3.heap.size from HQ.out.size)
                 go_simp
                 refine named_alloc ?_
                 intro Wa10 hbk hb hsz
                 replace HQ := hid (below_then HQ.out hb)
                 obtain ⟨ga10, hga⟩ : ∃ g, g = wp3.heap.size := ⟨_, rfl⟩
                 rw [← hga] at hbk ⊢
                 have hlo10 := hid (show W4.heap.size ≤ ga10 by have := hpre.out; omega)
                 have ZR := hid hbk
                 clear hb hbk hsz hga hpre
                 clear hS
                 refine ky hK (hKP.out _ HQ.out) fun hS => ?_
                 clear hK K
                 revert hS; revert hlo10; revert HQ; revert ZR; revert ga10; revert Wa10
                 exact K2.out
               ·skip
                have hpre := hid (show W4.heap.size ≤ wp2.heap.size from HQ.out.size)
                go_simp
                refine named_alloc ?_
                intro Wa10 hbk hb hsz
                replace HQ := hid (below_then HQ.out hb)
                obtain ⟨ga10, hga⟩ : ∃ g, g = wp2.heap.size := ⟨_, rfl⟩
                rw [← hga] at hbk ⊢
                have hlo10 := hid (show W4.heap.size ≤ ga10 by have := hpre.out; omega)
                have ZR := hid hbk
                clear hb hbk hsz hga hpre
                clear hS
                refine ky hK (hKP.out _ HQ.out) fun hS => ?_
                clear hK K
                revert hS; revert hlo10; revert HQ; revert ZR; revert ga10; revert Wa10
                exact K3.out
              ·skip
               have hpre := hid (show W4.heap.size ≤ wp1.heap.size from HQ.out.size)
               go_simp
               refine named_alloc ?_
               intro Wa10 hbk hb hsz
               replace HQ := hid (below_then HQ.out hb)
               obtain ⟨ga10, hga⟩ : ∃ g, g = wp1.heap.size := ⟨_, rfl⟩
               rw [← hga] at hbk ⊢
               have hlo10 := hid (show W4.heap.size ≤ ga10 by have := hpre.out; omega)
               have ZR := hid hbk
               clear hb hbk hsz hga hpre
               clear hS
               refine ky hK (hKP.out _ HQ.out) fun hS => ?_
               clear hK K
               revert hS; revert hlo10; revert HQ; revert ZR; revert ga10; revert Wa10
               exact K4.out
             ·skip
              have hpre := hid (show W4.heap.size ≤ Wd.heap.size from HQ.out.size)
              go_simp
              refine named_alloc ?_
              intro Wa10 hbk hb hsz
              replace HQ := hid (below_then HQ.out hb)
              obtain ⟨ga10, hga⟩ : ∃ g, g = Wd.heap.size := ⟨_, rfl⟩
              rw [← hga] at hbk ⊢
              have hlo10 := hid (show W4.heap.size ≤ ga10 by have := hpre.out; omega)
              have ZR := hid hbk
              clear hb hbk hsz hga hpre
              clear hS
              refine ky hK (hKP.out _ HQ.out) fun hS => ?_
              clear hK K
              refine rdy [1] (csy (fun K hK => ?_) AllReadyH.nil)
              have hpre := hid (show W4.heap.size ≤ Wa10.heap.size from HQ.out.size)
              have hpl10 := hid ZR.out.lt
              go_simp
              refine (op_any 2 1 0 _).mono ?_
              rintro e wp1 ⟨rfl, hb⟩
              replace ZR := hid (ZR.out.step hb); replace HQ := hid (below_then HQ.out hb)
              clear hb
              go_wp2_with fail
              clear hpre hpl10
              clear hS
              refine ky hK (hKP.out _ HQ.out) fun hS => ?_
              clear hK K
              revert hS; revert hlo10; revert HQ; revert ZR; revert ga10; revert wp1
              exact K4.out
            ·skip
             intro Wm ga10 ZR HQ hlo10 hS
             refine rdy [2] (csy (fun K hK => ?_) AllReadyH.nil)
             have hpre := hid (show W4.heap.size ≤ Wm.heap.size from HQ.out.size)
             have hpl10 := hid ZR.out.lt
             go_simp
             refine (op_any 4 1 0 _).mono ?_
             rintro e wp2 ⟨rfl, hb⟩
             replace ZR := hid (ZR.out.step hb); replace HQ := hid (below_then HQ.out hb)
             clear hb
             go_wp2_with fail
             clear hpre hpl10
             clear hS
             refine ky hK (hKP.out _ HQ.out) fun hS => ?_
             clear hK K
             revert hS; revert hlo10; revert HQ; revert ZR; revert ga10; revert wp2
             exact K3.out
            ·skip
             intro Wm ga10 ZR HQ hlo10 hS
             refine rdy [3] (csy (fun K hK => ?_) AllReadyH.nil)
             have hpre := hid (show W4.heap.size ≤ Wm.heap.size from HQ.out.size)
             have hpl10 := hid ZR.out.lt
             go_simp
             refine (op_any 5 0 0 _).mono ?_
             rintro e wp3 ⟨rfl, hb⟩
             replace ZR := hid (ZR.out.step hb); replace HQ := hid (below_then HQ.out hb)
             clear hb
             go_wp2_with fail
             clear hpre hpl10
             clear hS
             refine ky hK (hKP.out _ HQ.out) fun hS => ?_
             clear hK K
             revert hS; revert hlo10; revert HQ; revert ZR; revert ga10; revert wp3
             exact K2.out
            ·skip
             intro Wm ga10 ZR HQ hlo10 hS
             refine rdy [4] (csy (fun K hK => ?_) AllReadyH.nil)
             have hpre := hid (show W4.heap.size ≤ Wm.heap.size from HQ.out.size)
             go_simp
             refine named_alloc ?_
             intro Wa4 hbk hb hsz
             replace ZR := hid (ZR.out.step hb); replace HQ := hid (below_then HQ.out hb)
             obtain ⟨ga4, hga⟩ : ∃ g, g = Wm.heap.size := ⟨_, rfl⟩
             rw [← hga] at hbk ⊢
             have hlo4 := hid (show W4.heap.size ≤ ga4 by have := hpre.out; omega)
             have PT := hid hbk
             clear hb hbk hsz hga hpre
             clear hS
             refine ky hK (hKP.out _ HQ.out) fun hS => ?_
             clear hK K
             revert hS; revert hlo10; revert hlo4; revert HQ; revert ZR; revert PT; revert ga10; revert ga4; revert Wa4
             exact K1.out
            ·skip
             intro Wm ga4 ga10 PT ZR HQ hlo4 hlo10 hS
             refine rdy [5] (csy (fun K hK => ?_) AllReadyH.nil)
             have hpre := hid (show W4.heap.size ≤ Wm.heap.size from HQ.out.size)
             have hpl4 := hid PT.out.lt
             have hpl10 := hid ZR.out.lt
             go_simp
             refine (wk_run (L := T3) (some ⟨_, 0, none⟩) 3 3 _ (S6.out.step HQ.out) HK6.out (PT.out.smO (xs := T3) rfl (by intro k hk j hj; have hk' : k < 3 := hk; have hj' : j < 3 := hj; match k, hk', j, hj' with | 0, _, 0, _ => rfl | 0, _, 1, _ => rfl | 0, _, 2, _ => rfl | 1, _, 0, _ => rfl | 1, _, 1, _ => rfl | 1, _, 2, _ => rfl | 2, _, 0, _ => rfl | 2, _, 1, _ => rfl | 2, _, 2, _ => rfl)) (by omega) G5.out).mono ?_
             rintro e wpl ⟨a9, es9, R9, kr9, rfl, hq9, hr9, ho9, hb⟩
             replace PT := hid (PT.out.step hb); replace ZR := hid (ZR.out.step hb); replace HQ := hid (below_then HQ.out hb)
             clear hb
             have RO := hid (ho9.mono (show W4.heap.size ≤ _ by have := HQ.out.size; have := hpre.out; have := hpl4.out; have := hpl10.out; have := hlo4.out; have := PT.out.lt; have := hlo10.out; have := ZR.out.lt; omega))
             clear hr9 ho9 hq9
             go_wp2_with fail
             clear hpre hpl4 hpl10
             clear hS
             refine ky hK (hKP.out _ HQ.out) fun hS => ?_
             clear hK K
             refine tk 6 hS ?_
             refine tk 7 hS ?_
             refine tk 8 hS ?_
             refine tk 9 hS ?_
             revert hS; revert hlo10; revert hlo4; revert HQ; revert ZR; revert RO; revert PT; revert ga10; revert kr9; revert R9; revert a9; revert ga4; revert wpl
             exact K0.out
            ·skip
             intro Wm ga4 a9 R9 kr9 ga10 PT RO ZR HQ hlo4 hlo10 hS
             refine rdy [11] (csy (fun K hK => ?_) AllReadyH.nil)
             have hpre := hid (show W4.heap.size ≤ Wm.heap.size from HQ.out.size)
             obtain ⟨y00, y01, y02, y03, y04, y05, y06, y07, yf0⟩ := ZR.out.cells8
             go_simp
             clear y00 y01 y02 y03 y04 y05 y06 y07 yf0
             refine named_store_8_8_0 ZR.out ?_
             intro Ws11 hbk hgr hsz
             clear hsz
             replace RO := hid (RO.out.keptR ZR.out (by decide) hgr)
             replace HQ := hid (HQ.out.grown hgr HQ.out.size (fun r e => by cases e; have := HQ.out.size; have := hlo4.out; have := PT.out.lt; have := hlo10.out; have := ZR.out.lt; omega))
             replace ZR := hid hbk
             clear hbk hgr hpre
             clear hS
             refine ky hK (hKP.out _ HQ.out) fun hS => ?_
             clear hK K
             refine tk 12 hS ?_
             refine tk 13 hS ?_
             refine wpAnyH_done (by kernel_rfl) ?_ _
             refine NoPanic.normal ?_
             clear hS
             go_wp2_with fail
             go_meet
             exact ⟨_, _, rfl, rfl, RO.out, HQ.out⟩
        case rest =>
          obtain ⟨E5, ke5, rfl, rfl, h1, h2⟩ := hcut
          rename World => W5
          have EM := hid h1
          replace HB := hid (below_then HB.out h2); replace XP := hid (XP.out.step h2); replace XR := hid (XR.out.step h2); replace EL := hid (EL.out.step h2); replace P6 := hid (P6.out.step h2); replace S6 := hid (S6.out.step h2)
          clear h1 h2 HQ G4 G5
          obtain ⟨y00, y01, y02, y03, y04, y05, y06, y07, yf0⟩ := P6.out.cells8
          go_wp2_with fail
          clear y00 y01 y02 y03 y04 y05 y06 y07 yf0
          refine (rsettle_open s1 g1 es6 a6 _ S6.out (rcOk_iff.2 HK6.out) F2.out).mono ?_
          rintro e W6 ⟨a7, R7, nr7, kr7, rfl, _, hb⟩
          replace XP := hid (XP.out.step hb); replace XR := hid (XR.out.step hb); replace EL := hid (EL.out.step hb); replace P6 := hid (P6.out.step hb); replace S6 := hid (S6.out.step hb); replace EM := hid (EM.out.step hb); replace HB := hid (below_then HB.out hb)
          clear hb
          dsimp only
          have zE : rcv (0, [], []) zGr a7 = .agg #[.int .i64 0, .slice a7.A a7.n a7.k, .slice a7.B a7.m a7.d, .int .i64 0, .int .i64 0, .bool false, .slice a7.D 0 a7.kd, .slice a7.Q a7.nq a7.kq] := rfl
          rw [zE]
          clear zE
          have bx := below_box W6 (.cells #[.int .i64 0, .slice a7.A a7.n a7.k, .slice a7.B a7.m a7.d, .int .i64 0, .int .i64 0, .bool false, .slice a7.D 0 a7.kd, .slice a7.Q a7.nq a7.kq] 30)
          replace XP := hid (XP.out.step bx); replace XR := hid (XR.out.step bx); replace EL := hid (EL.out.step bx); replace P6 := hid (P6.out.step bx); replace S6 := hid (S6.out.step bx); replace EM := hid (EM.out.step bx); replace HB := hid (below_then HB.out bx)
          clear bx
          go_upto_region 7 with fail
          generalize W6.alloc (.cells #[.int .i64 0, .slice a7.A a7.n a7.k, .slice a7.B a7.m a7.d, .int .i64 0, .int .i64 0, .bool false, .slice a7.D 0 a7.kd, .slice a7.Q a7.nq a7.kq] 30) = W7 at *
          go_wp2_with fail
          have bx := below_box W7 (.cells #[.int .u64 7] 35)
          replace XP := hid (XP.out.step bx); replace XR := hid (XR.out.step bx); replace EL := hid (EL.out.step bx); replace P6 := hid (P6.out.step bx); replace S6 := hid (S6.out.step bx); replace EM := hid (EM.out.step bx); replace HB := hid (below_then HB.out bx)
          clear bx
          have B1 := hid (Blk.new W7 35 #[.int .u64 7])
          generalize W7.alloc (.cells #[.int .u64 7] 35) = W8 at *
          refine (equal_u64 E2 _ 1 ke2 1 1 0 _ 0 _ [7] [7] _ ((EL.out.sl (d := 0)).mono (Nat.zero_le _) (Nat.le_refl _)) ((B1.out.ow (enc := u64v) (xs := [7]) (lo := 0) (n := 1) rfl rfl (Nat.zero_le _) (by simp [maxLen])).sl (d := 0)) (by omega) (by omega)).mono ?_
          rintro e W9 ⟨rfl, hb⟩
          replace XP := hid (XP.out.step hb); replace XR := hid (XR.out.step hb); replace EL := hid (EL.out.step hb); replace P6 := hid (P6.out.step hb); replace S6 := hid (S6.out.step hb); replace EM := hid (EM.out.step hb); replace B1 := hid (B1.out.step hb); replace HB := hid (below_then HB.out hb)
          clear hb
          rw [show decide (([7] : List Int) = [7]) = true by decide]
          go_wp2_with fail
          refine (equal_u64 E5 E2 1 ke5 1 ke2 0 _ 0 _ [7] [7] _ ((EM.out.sl (d := 0)).mono (Nat.zero_le _) (Nat.le_refl _)) ((EL.out.sl (d := 0)).mono (Nat.zero_le _) (Nat.le_refl _)) (by omega) (by omega)).mono ?_
          rintro e W10 ⟨rfl, hb⟩
          replace XP := hid (XP.out.step hb); replace XR := hid (XR.out.step hb); replace EL := hid (EL.out.step hb); replace P6 := hid (P6.out.step hb); replace S6 := hid (S6.out.step hb); replace EM := hid (EM.out.step hb); replace B1 := hid (B1.out.step hb); replace HB := hid (below_then HB.out hb)
          clear hb
          rw [show decide (([7] : List Int) = [7]) = true by decide]
          obtain ⟨y00, y01, y02, y03, y04, y05, y06, y07, yf0⟩ := P6.out.cells8
          go_wp2_with fail
          clear y00 y01 y02 y03 y04 y05 y06 y07 yf0
          refine (rwaiting_any s1 g1 es6 a6 _ S6.out).mono ?_
          rintro e W11 ⟨rfl, hb⟩
          replace XP := hid (XP.out.step hb); replace XR := hid (XR.out.step hb); replace EL := hid (EL.out.step hb); replace P6 := hid (P6.out.step hb); replace S6 := hid (S6.out.step hb); replace EM := hid (EM.out.step hb); replace B1 := hid (B1.out.step hb); replace HB := hid (below_then HB.out hb)
          clear hb
          rw [if_pos (rcOk_iff.2 HK6.out), N6.out]
          obtain ⟨y00, y01, y02, y03, y04, y05, y06, y07, yf0⟩ := XP.out.cells8
          go_wp2_with fail
          clear y00 y01 y02 y03 y04 y05 y06 y07 yf0
          refine (ridle_any (nSt 2) (nGr 2) (List.replicate 2 zQe) a _ XR.out).mono ?_
          rintro e W12 ⟨rfl, hb⟩
          replace XP := hid (XP.out.step hb); replace XR := hid (XR.out.step hb); replace EL := hid (EL.out.step hb); replace P6 := hid (P6.out.step hb); replace S6 := hid (S6.out.step hb); replace EM := hid (EM.out.step hb); replace B1 := hid (B1.out.step hb); replace HB := hid (below_then HB.out hb)
          clear hb
          rw [show (decide (RcOk (nSt 2) (nGr 2) (List.replicate 2 zQe)) && idleB (nSt 2) (nGr 2) (ql (List.replicate 2 zQe))) = true by rw [decide_eq_true (rcOk_iff.2 HQ1.out), ql_rep, Bool.true_and]; decide +kernel]
          obtain ⟨y00, y01, y02, y03, y04, y05, y06, y07, yf0⟩ := P6.out.cells8
          go_wp2_with fail
          clear y00 y01 y02 y03 y04 y05 y06 y07 yf0
          refine (ridle_any s1 g1 es6 a6 _ S6.out).mono ?_
          rintro e W13 ⟨rfl, hb⟩
          replace XP := hid (XP.out.step hb); replace XR := hid (XR.out.step hb); replace EL := hid (EL.out.step hb); replace P6 := hid (P6.out.step hb); replace S6 := hid (S6.out.step hb); replace EM := hid (EM.out.step hb); replace B1 := hid (B1.out.step hb); replace HB := hid (below_then HB.out hb)
          clear hb
          rw [show (decide (RcOk s1 g1 es6) && idleB s1 g1 (ql es6)) = false by unfold idleB; rw [F2.out, Bool.false_and, Bool.and_false]]
          go_wp2_with fail
          refine bodyPost_ret (v := .bool true) (by simp [results, Tryz.results6, go_sem]) rfl ⟨rfl, HB.out⟩
end Go.Proofs.YtfipdoofgbjbjaaGreat

/- afterglowref12: Needed, Right, Same. No condition but sizes. -/
namespace Go.Proofs.YtfipdoofgbjbjaaGreat
open Go.RowKit
attribute [local go_sem] Oper.semAt_some
/-- how many CPUs are needed -/
def ndN (nd : List Bool) : Nat := nd.countP id
instance {g : Gr} : Decidable (GrOk g) := by unfold GrOk; infer_instance
/-- the same graces -/
def sameG (g h : Gr) : Bool := decide (g.dn = h.dn ∧ g.ak = h.ak ∧ g.on = h.on ∧ g.nd = h.nd)
end Go.Proofs.YtfipdoofgbjbjaaGreat

/- afterglowref12: Report, Begin, Pick. No condition but sizes. -/
namespace Go.Proofs.YtfipdoofgbjbjaaGreat
open Go.RowKit
attribute [local go_sem] Oper.semAt_some
/-- what comes of it: a grace of its own row -/
def GmPost (w : World) (g : Gr) (x : Ending) (w' : World) : Prop := ∃ D k, x = .returned (gv g D g.nd.length k) ∧ Ow blv w' w.heap.size 4 D g.nd.length k g.nd ∧ Below w.heap.size w w'
/-- behind a pick: a row of its own, or all as it was -/
def GkPost (w : World) (g0 g : Gr) (D0 : Option Addr) (k0 : Nat) (x : Ending) (w' : World) : Prop := ∃ D k, x = .returned (gv g D g.nd.length k) ∧ (Ow blv w' w.heap.size 4 D g.nd.length k g.nd ∨ (g = g0 ∧ D = D0 ∧ k = k0)) ∧ Below w.heap.size w w'
end Go.Proofs.YtfipdoofgbjbjaaGreat

/- package rcu: settling, plainly: a turn, that turns come to an end, and what they come to. No condition. -/
namespace Go.Proofs.YtfipdoofgbjbjaaGreat
open Go.RowKit
/-- what settling goes through: the grace, the queues, what was run, whose turn it is -/
structure Sv where
  g : Gr
  qs : Qs
  ran : List Int
  k : Nat
abbrev qAt (qs : Qs) (k : Nat) : List Cb × Int := qs[k]?.getD ([], 0)
def drN (qs : Qs) (k : Nat) : Nat := doneN (qAt qs k).2 (qAt qs k).1
/-- queues behind a CPU's first j are run, and what is run -/
def drQ (qs : Qs) (k j : Nat) : Qs := qs.set k ((qAt qs k).1.drop j, (qAt qs k).2)
def drR (qs : Qs) (k j : Nat) : List Int := ((qAt qs k).1.take j).map Prod.snd
def pkQ (t : Sv) : Qs := overs t.g.dn (gPick t.g t.k true).dn t.qs
def turnF (t : Sv) : Sv := ⟨gPick t.g t.k true, drQ (pkQ t) t.k (drN (pkQ t) t.k), t.ran ++ drR (pkQ t) t.k (drN (pkQ t) t.k), (t.k + 1) % t.qs.length⟩
def SvOk (s : St) (t : Sv) : Prop := RcGood s t.g t.qs ∧ quietB s = true ∧ t.k < t.qs.length
theorem sum_map_le (f h : Nat → Nat) : ∀ l : List Nat, (∀ j ∈ l, f j ≤ h j) → (l.map f).sum ≤ (l.map h).sum
  | [], _ => Nat.le_refl _
  | x :: l, hl => by
    have h1 := hl x List.mem_cons_self
    have h2 := sum_map_le f h l (fun j hj => hl j (List.mem_cons_of_mem _ hj))
    simp only [List.map_cons, List.sum_cons]; omega
theorem sum_map_lt (f h : Nat → Nat) : ∀ l : List Nat, (∀ j ∈ l, f j ≤ h j) → (∃ j ∈ l, f j < h j) → (l.map f).sum < (l.map h).sum
  | [], _, ⟨_, hj, _⟩ => by cases hj
  | x :: l, hl, ⟨j, hj, hlt⟩ => by
    have h1 := hl x List.mem_cons_self
    have h2 := sum_map_le f h l (fun j hj => hl j (List.mem_cons_of_mem _ hj))
    simp only [List.map_cons, List.sum_cons]
    rcases List.mem_cons.1 hj with rfl | hj
    · omega
    · have h3 := sum_map_lt f h l (fun j hj => hl j (List.mem_cons_of_mem _ hj)) ⟨j, hj, hlt⟩
      omega
/-- how far those are off, together -/
def dist (n k : Nat) (p : Nat → Bool) : Nat := ((List.range n).map fun j => if p j then 1 + (j + n - k) % n else 0).sum
theorem sum_map_bd (f : Nat → Nat) (b : Nat) : ∀ l : List Nat, (∀ j ∈ l, f j ≤ b) → (l.map f).sum ≤ l.length * b
  | [], _ => by simp
  | x :: l, hl => by
    have h1 := hl x List.mem_cons_self
    have h2 := sum_map_bd f b l (fun j hj => hl j (List.mem_cons_of_mem _ hj))
    simp only [List.map_cons, List.sum_cons, List.length_cons, Nat.succ_mul]; omega
theorem dist_le (n k : Nat) (p : Nat → Bool) (h1 : 1 ≤ n) (h8 : n ≤ 8) : dist n k p ≤ 64 := by
  have h := sum_map_bd (fun j => if p j then 1 + (j + n - k) % n else 0) 8 (List.range n) (fun j hj => by
    show (if p j then 1 + (j + n - k) % n else 0) ≤ 8
    have := Nat.mod_lt (j + n - k) h1
    split <;> omega)
  rw [List.length_range] at h
  unfold dist
  omega
theorem next_mod {n j k : Nat} (hj : j < n) (hk : k < n) (hne : j ≠ k) : (j + n - (k + 1) % n) % n + 1 = (j + n - k) % n := by
  have e1 : (k + 1) % n = if k + 1 = n then 0 else k + 1 := by
    split
    · rename_i e; rw [e, Nat.mod_self]
    · exact Nat.mod_eq_of_lt (by omega)
  have md : ∀ x, x < 2 * n → x % n = if x < n then x else x - n := fun x hx => by
    split
    · rename_i h; exact Nat.mod_eq_of_lt h
    · rename_i h; rw [Nat.mod_eq_sub_mod (by omega), Nat.mod_eq_of_lt (by omega)]
  rw [e1]
  by_cases hkn : k + 1 = n
  · rw [if_pos hkn, md _ (by omega), md (j + n - k) (by omega)]
    split <;> split <;> omega
  · rw [if_neg hkn, md _ (by omega), md (j + n - k) (by omega)]
    split <;> split <;> omega
theorem dist_next {n k : Nat} {p q : Nat → Bool} (hk : k < n) (hq : ∀ j, j < n → q j = true → p j = true) (hqk : q k = false) (hp : ∃ j, j < n ∧ p j = true) : dist n ((k + 1) % n) q < dist n k p := by
  have key : ∀ j, j < n → (if q j then 1 + (j + n - (k + 1) % n) % n else 0) ≤ (if p j then 1 + (j + n - k) % n else 0) ∧ (p j = true → (if q j then 1 + (j + n - (k + 1) % n) % n else 0) < (if p j then 1 + (j + n - k) % n else 0)) := fun j hj => by
    by_cases e : j = k
    · subst e
      rw [if_neg (by rw [hqk]; decide)]
      exact ⟨Nat.zero_le _, fun h => by rw [if_pos h]; omega⟩
    · have hm := next_mod hj hk e
      by_cases hqj : q j = true
      · rw [if_pos hqj, if_pos (hq j hj hqj)]
        exact ⟨by omega, fun _ => by omega⟩
      · rw [if_neg hqj]
        exact ⟨Nat.zero_le _, fun h => by rw [if_pos h]; omega⟩
  obtain ⟨j, hj, hpj⟩ := hp
  exact sum_map_lt _ _ _ (fun i hi => (key i (List.mem_range.1 hi)).1) ⟨j, List.mem_range.2 hj, (key j hj).2 hpj⟩
def mu (t : Sv) : Nat :=
  (t.g.ak - t.g.dn).toNat * 1000 + (if t.g.on then dist t.qs.length t.k (fun j => t.g.nd[j]?.getD false) else if t.g.dn < t.g.ak then 100 else 0) +
    (if t.g.dn < t.g.ak then 100 else dist t.qs.length t.k (fun j => !(qAt t.qs j).1.isEmpty))
theorem drQ_len (qs : Qs) (k j : Nat) : (drQ qs k j).length = qs.length := List.length_set
theorem overs_len (d d' : Int) (qs : Qs) : (overs d d' qs).length = qs.length := by unfold overs; split <;> simp
theorem turn_len (t : Sv) : (turnF t).qs.length = t.qs.length := by show (drQ _ _ _).length = _; rw [drQ_len]; exact overs_len _ _ _
theorem qAt_mem {qs : Qs} {k : Nat} (hk : k < qs.length) : qAt qs k ∈ qs := by unfold qAt; rw [List.getElem?_eq_getElem hk]; exact List.getElem_mem _
theorem quiet_at {s : St} (h : quietB s = true) (k : Nat) : decide (s.2.1[k]?.getD 0 = 0) = true := by
  rw [decide_eq_true_eq]
  unfold quietB at h
  rw [List.all_eq_true] at h
  rcases Nat.lt_or_ge k s.2.1.length with hk | hk
  · rw [List.getElem?_eq_getElem hk]
    exact of_decide_eq_true (h _ (List.getElem_mem hk))
  · rw [List.getElem?_eq_none hk]; rfl
/-- queues of which some first ones were run may be -/
theorem good_drain {s : St} {g : Gr} {qs : Qs} (h : RcGood s g qs) (k j : Nat) (hk : k < qs.length) : RcGood s g (drQ qs k j) := by
  obtain ⟨h1, h2, h3⟩ := h
  refine ⟨h1, by rw [drQ_len]; exact h2, fun y hy => ?_⟩
  rcases List.mem_or_eq_of_mem_set hy with hy | rfl
  · exact h3 y hy
  · obtain ⟨q1, q2, q3⟩ := h3 _ (qAt_mem hk)
    exact ⟨qg_drop q1 j, q2, fun z hz => q3 z (List.mem_of_mem_drop hz)⟩
theorem good_pick {s : St} {t : Sv} (h : SvOk s t) : RcGood s (gPick t.g t.k true) (pkQ t) := by
  obtain ⟨h1, h2, h3⟩ := h
  have e := opF_lt (s := s) (g := t.g) (qs := t.qs) (k := 4) (cp := t.k) (x := 0) (by omega) h3
  rw [if_neg (by decide), if_neg (by decide), if_pos rfl, quiet_at h2] at e
  have hg := good_opF (o := (4, (t.k : Int), 0)) h1 (by rw [e])
  rw [e] at hg
  exact hg
theorem pk_len (t : Sv) : (pkQ t).length = t.qs.length := overs_len _ _ _
theorem turn_ok {s : St} {t : Sv} (h : SvOk s t) : SvOk s (turnF t) := by
  refine ⟨good_drain (good_pick h) _ _ (by rw [pk_len]; exact h.2.2), h.2.1, ?_⟩
  rw [turn_len]
  exact Nat.mod_lt _ (by have := h.2.2; omega)
theorem done_all {o : Int} : ∀ {xs : List Cb}, (∀ c ∈ xs, c.1 ≤ o) → doneN o xs = xs.length
  | [], _ => rfl
  | x :: xs, h => by
    have ih := done_all (o := o) (xs := xs) fun c hc => h c (List.mem_cons_of_mem _ hc)
    unfold doneN at ih ⊢
    rw [List.takeWhile_cons, if_pos (decide_eq_true (h x List.mem_cons_self)), List.length_cons, List.length_cons, ih]
theorem wN_pos : ∀ {qs : Qs}, wN qs ≠ 0 → ∃ j, j < qs.length ∧ (qAt qs j).1.isEmpty = false
  | [], h => absurd rfl h
  | q :: qs, h => by
    by_cases hq : q.1.isEmpty = false
    · exact ⟨0, by simp, hq⟩
    · have hn : q.1 = [] := by simpa using hq
      obtain ⟨j, hj, h1⟩ := wN_pos (qs := qs) (fun e => h (by unfold wN at e ⊢; rw [List.map_cons, List.sum_cons, hn, e]; rfl))
      exact ⟨j + 1, by simpa using hj, by simpa [qAt] using h1⟩
/-- a turn brings the end nearer -/
theorem mu_turn {s : St} {t : Sv} (h : SvOk s t) (hi : idleB s t.g t.qs = false) : mu (turnF t) < mu t := by
  have hok := h
  obtain ⟨⟨⟨b1, b2, b3⟩, hlen, hq⟩, hqt, hk⟩ := h
  have hgo := b2
  obtain ⟨g1, g2, g3, g4, g5, g6, g7⟩ := b2
  have hn1 : 1 ≤ t.qs.length := by omega
  have hn8 : t.qs.length ≤ 8 := by omega
  have hd := fun k p => dist_le t.qs.length k p hn1 hn8
  unfold mu
  rw [turn_len]
  have eg : (turnF t).g = gPick t.g t.k true := rfl
  have ek : (turnF t).k = (t.k + 1) % t.qs.length := rfl
  rw [eg, ek]
  by_cases hon : t.g.on = true
  · have hp : gPick t.g t.k true = gReport t.g t.k := by unfold gPick; rw [hon]; rfl
    rw [hp]
    rw [hon] at g4
    simp only [if_true] at g4
    unfold gReport
    split
    · rename_i hid
      dsimp only
      have h1 := hd ((t.k + 1) % t.qs.length) (fun j => !(qAt (turnF t).qs j).1.isEmpty)
      rw [if_neg (by decide)]
      split <;> split <;> omega
    · rename_i hid
      dsimp only
      have hlt : t.g.dn < t.g.ak := by omega
      repeat rw [if_pos hlt]
      have h1 := dist_next (n := t.qs.length) (k := t.k) (p := fun j => t.g.nd[j]?.getD false) (q := fun j => (t.g.nd.set t.k false)[j]?.getD false) hk (fun j hj hj2 => by
        by_cases e : j = t.k
        · subst e
          rw [List.getElem?_set_self (by omega)] at hj2
          cases hj2
        · rw [List.getElem?_set_ne (Ne.symm e)] at hj2
          exact hj2) (by rw [List.getElem?_set_self (by omega)]; rfl) (by
        have hni : gIdle t.g.nd = false := by rw [hon] at g7; simpa using g7.symm
        unfold gIdle at hni
        rw [List.all_eq_false] at hni
        obtain ⟨x, hx, hx2⟩ := hni
        obtain ⟨j, hj, rfl⟩ := List.mem_iff_getElem.1 hx
        exact ⟨j, by omega, by rw [List.getElem?_eq_getElem hj]; simpa using hx2⟩)
      omega
  · have hof : t.g.on = false := by simpa using hon
    rw [hof] at g4
    simp only [Bool.false_eq_true, if_false] at g4
    by_cases hlt : t.g.dn < t.g.ak
    · have hp : gPick t.g t.k true = gBegin t.g := by unfold gPick; rw [hof, decide_eq_true hlt]; rfl
      rw [hp]
      have h1 := hd ((t.k + 1) % t.qs.length) (fun j => (gBegin t.g).nd[j]?.getD false)
      rw [if_pos (show (gBegin t.g).on = true from rfl), hof, if_neg (show ¬ (false = true) by decide), if_pos (show (gBegin t.g).dn < (gBegin t.g).ak from hlt)]
      repeat rw [if_pos hlt]
      show (t.g.ak - t.g.dn).toNat * 1000 + _ + _ < _
      omega
    · have hp : gPick t.g t.k true = t.g := by unfold gPick; rw [hof, decide_eq_false hlt]; rfl
      rw [hp, hof]
      repeat rw [if_neg (show ¬ (false = true) by decide)]
      repeat rw [if_neg hlt]
      have epk : pkQ t = t.qs := by unfold pkQ overs; rw [hp, if_neg (by omega)]
      have eq : (turnF t).qs = drQ t.qs t.k (drN t.qs t.k) := by show drQ (pkQ t) t.k (drN (pkQ t) t.k) = _; rw [epk]
      rw [eq]
      have hqk := hq _ (qAt_mem hk)
      have hdn : drN t.qs t.k = (qAt t.qs t.k).1.length := done_all fun c hc => by have := hqk.2.2 c hc; have := hqk.2.1; omega
      have hat : ∀ j, (qAt (drQ t.qs t.k (drN t.qs t.k)) j).1 = if j = t.k then [] else (qAt t.qs j).1 := fun j => by
        unfold qAt drQ
        by_cases e : j = t.k
        · subst e
          rw [if_pos rfl, List.getElem?_set_self hk, hdn]
          exact List.drop_length
        · rw [if_neg e, List.getElem?_set_ne (Ne.symm e)]
      have h1 := dist_next (n := t.qs.length) (k := t.k) (p := fun j => !(qAt t.qs j).1.isEmpty) (q := fun j => !(qAt (drQ t.qs t.k (drN t.qs t.k)) j).1.isEmpty) hk (fun j _ hj2 => by
        rw [hat] at hj2
        split at hj2
        · cases hj2
        · exact hj2) (by rw [hat, if_pos rfl]; rfl) (by
        have hw : wN t.qs ≠ 0 := fun e => by
          unfold idleB at hi
          rw [hqt, hof, decide_eq_true e, decide_eq_true (show t.g.ak = t.g.dn by omega)] at hi
          cases hi
        obtain ⟨j, hj, hj2⟩ := wN_pos hw
        exact ⟨j, hj, by rw [hj2]; rfl⟩)
      omega
def setN (s : St) : Nat → Sv → Sv
  | 0, t => t
  | n + 1, t => if idleB s t.g t.qs then t else setN s n (turnF t)
/-- settled -/
def setF (s : St) (t : Sv) : Sv := setN s (mu t) t
theorem setN_idle {s : St} {t : Sv} (h : idleB s t.g t.qs = true) : ∀ n, setN s n t = t
  | 0 => rfl
  | n + 1 => if_pos h
theorem setN_eq {s : St} : ∀ (m n : Nat) (t : Sv), SvOk s t → mu t ≤ m → mu t ≤ n → setN s m t = setN s n t := by
  intro m
  induction m with
  | zero =>
    intro n t h hm hn
    by_cases hi : idleB s t.g t.qs = true
    · rw [setN_idle hi, setN_idle hi]
    · have hlt := mu_turn h (by simpa using hi)
      omega
  | succ m ih =>
    intro n t h hm hn
    by_cases hi : idleB s t.g t.qs = true
    · rw [setN_idle hi, setN_idle hi]
    · have hlt := mu_turn h (by simpa using hi)
      cases n with
      | zero => omega
      | succ n =>
        unfold setN
        rw [if_neg hi, if_neg hi]
        exact ih n _ (turn_ok h) (by omega) (by omega)
theorem setF_idle {s : St} {t : Sv} (h : idleB s t.g t.qs = true) : setF s t = t := setN_idle h _
theorem setF_step {s : St} {t : Sv} (h : SvOk s t) (hi : idleB s t.g t.qs = false) : setF s t = setF s (turnF t) := by
  have hlt := mu_turn h hi
  unfold setF
  obtain ⟨m, hm⟩ : ∃ m, mu t = m + 1 := ⟨mu t - 1, by omega⟩
  rw [hm]
  show (if idleB s t.g t.qs then t else setN s m (turnF t)) = _
  rw [if_neg (by rw [hi]; decide)]
  exact setN_eq _ _ _ (turn_ok h) (by omega) (Nat.le_refl _)
/-- what holds at first, and outlives turns, holds at the end, where it is idle -/
theorem setF_ind {s : St} (P : Sv → Prop) (hs : ∀ t, SvOk s t → P t → idleB s t.g t.qs = false → P (turnF t)) : ∀ (n : Nat) (t : Sv), mu t ≤ n → SvOk s t → P t → P (setF s t) ∧ SvOk s (setF s t) ∧ idleB s (setF s t).g (setF s t).qs = true := by
  intro n
  induction n with
  | zero =>
    intro t hn h hp
    by_cases hi : idleB s t.g t.qs = true
    · rw [setF_idle hi]; exact ⟨hp, h, hi⟩
    · have hlt := mu_turn h (by simpa using hi)
      omega
  | succ n ih =>
    intro t hn h hp
    by_cases hi : idleB s t.g t.qs = true
    · rw [setF_idle hi]; exact ⟨hp, h, hi⟩
    · have hi' : idleB s t.g t.qs = false := by simpa using hi
      have hlt := mu_turn h hi'
      rw [setF_step h hi']
      exact ih _ (by omega) (turn_ok h) (hs t h hp hi')
end Go.Proofs.YtfipdoofgbjbjaaGreat

/- package rcu: Step and own, as the laws use them: what is handed back outlives stores to the laws' own boxes; a callback queued, plainly. No condition but sizes, and that numbers are of their kinds. -/
namespace Go.Proofs.YtfipdoofgbjbjaaGreat
open Go.RowKit
/-- new blocks besides -/
theorem RcP.fresh {p : Nat → Prop} {w : World} {s : St} {g : Gr} {es : List Qe} {a : Ra} (h : RcP p w s g es a) : RcP (fun i => p i ∨ w.heap.size ≤ i) w s g es a := fun w' k =>
  h w' ⟨k.os, k.tape, k.output, k.size, fun i hi hp => k.block i hi (fun hq => by rcases hq with hq | hq; exact hp hq; omega)⟩
theorem CX.rcr0 {w : World} {l gc : Nat} {s : St} {g : Gr} {es : List Qe} {ran : List Int} {a : Ra} {R : Option Addr} {nr kr : Nat} (h : CX w l gc s g es ran a R nr kr) (gl : g.nd.length ≤ 1000) (gi : g.dn ≤ 9223372036854775807 ∧ g.ak ≤ 9223372036854775807) (ql : a.nq ≤ 1000) : RcR w s g es a :=
  ⟨h.ro.rds, (h.gd.sl (d := false)).mono (Nat.zero_le _) (Nat.le_refl _), gl, gi, (h.qs.sm (d := zQe)).mono (Nat.zero_le _) (Nat.le_refl _), ql, fun x hx => ⟨((h.qe x hx).1.mono (Nat.zero_le _)).sm, (h.qe x hx).2.1, (h.qe x hx).2.2.1, (h.qe x hx).2.2.2.1.1, (h.qe x hx).2.2.2.1.2⟩⟩
/-- what Step hands back -/
def StP (r : Int × St × Gr × Qs × List Int) (w : World) (x : Ending) (w' : World) : Prop :=
  ∃ a es, x = .returned (.tuple #[rcv r.2.1 r.2.2.1 a, .int .u64 (lastO r.2.2.2.2), .int .i64 r.1]) ∧ ql es = r.2.2.2.1 ∧ a.nq = es.length ∧ RcP (fun i => i < w.heap.size) w' r.2.1 r.2.2.1 es a ∧ Below w.heap.size w w'
/-- what own hands back -/
def LoP (s : St) (g : Gr) (es : List Qe) (w : World) (e : Ending) (w' : World) : Prop :=
  ∃ a' es', e = .returned (rcv (cutS s) (cutG g) a') ∧ ql es' = cutQ es ∧ a'.nq = es'.length ∧ RcP (fun i => i < w.heap.size) w' (cutS s) (cutG g) es' a' ∧ RcT w' w.heap.size (cutS s) (cutG g) es' a' ∧ Below w.heap.size w w'
theorem RcT.lowP {w w' : World} {l : Nat} {s : St} {g : Gr} {es : List Qe} {a : Ra} {p : Nat → Prop} (h : RcT w l s g es a) (k : GrownP p w w') (hp : ∀ i, p i → i < l) : RcT w' l s g es a :=
  ⟨h.ro.keptP k (fun a ha hq => by
      have := hp _ hq
      rcases ha with ha | ha
      · have := (h.ro.oa.blk a ha).1; omega
      · have := (h.ro.ob.blk a ha).1; omega),
   h.gd.keptP k (fun a ha hq => by have := hp _ hq; have := (h.gd.blk a ha).1; omega), om_keptP h.qs k (fun a ha hq => by have := hp _ hq; have := (h.qs.blk a ha).1; omega), fun x hx => by
    obtain ⟨k1, k2⟩ := h.qe x hx
    exact ⟨om_keptP k1 k (fun a ha hq => by have := hp _ hq; have := (k1.blk a ha).1; omega), k2⟩⟩
theorem ownP_any (s : St) (g : Gr) (es : List Qe) (a : Ra) (w : World) (h : RcIn w s g es a) : Calls Tryz.prog 7 #[rcv s g a] w (LoP s g es w) := by
  refine (lown_any s g es a w h).mono ?_
  rintro x w' ⟨a', es', rfl, h1, h2, hb⟩
  have hl : a'.nq = es'.length := h2.qs.len.symm
  have h9 : es'.length ≤ 9 := by
    have := congrArg List.length h1
    rw [ql_len] at this
    unfold cutQ at this
    rw [List.length_map, List.length_take] at this
    omega
  have ho : ∀ x ∈ es', 0 ≤ x.o ∧ x.o ≤ 18446744073709551615 := fun x hx => by
    have hm := ql_mem hx
    rw [h1] at hm
    obtain ⟨y, hy, e⟩ := List.mem_map.1 hm
    have := (h.qe y (List.mem_of_mem_take hy)).2.2
    simp only [Prod.mk.injEq] at e
    omega
  have hd : (cutG g).nd.length ≤ 1000 := by
    show (g.nd.take 9).length ≤ 1000
    rw [List.length_take]; omega
  exact ⟨a', es', rfl, h1, hl, fun w2 k => (h2.lowP k (fun i hi => hi)).rcr hd h.gi (by omega) ho, h2, hb⟩
end Go.Proofs.YtfipdoofgbjbjaaGreat

/- afterglowref14: with; what its functions are handed, and hand back: it can be read whatever is done to certain blocks. No condition but sizes. -/
namespace Go.Proofs.YtfipdoofgbjbjaaGreat
open Go.RowKit
attribute [local go_sem] Oper.semAt_some
/-- a queue that can be read, whatever is done to those blocks -/
def QeP (p : Nat → Prop) (w : World) (x : Qe) : Prop := ∀ w', GrownP p w w' → QeR w' x
theorem QeP.step {p : Nat → Prop} {w w' : World} {x : Qe} (h : QeP p w x) (hb : Below w.heap.size w w') : QeP p w' x := fun w2 k => h w2 ((GrownP.ofBelow hb).trans k)
theorem QeP.fresh {p : Nat → Prop} {w : World} {x : Qe} (h : QeP p w x) : QeP (fun i => p i ∨ w.heap.size ≤ i) w x := fun w' k =>
  h w' ⟨k.os, k.tape, k.output, k.size, fun i hi hp => k.block i hi (fun hq => by rcases hq with hq | hq; exact hp hq; omega)⟩
theorem QeP.mono {p q : Nat → Prop} {w : World} {x : Qe} (h : QeP p w x) (hq : ∀ i, q i → p i) : QeP q w x := fun w' k => h w' (k.mono hq)
theorem QeP.turn {p : Nat → Prop} {w w' : World} {x : Qe} {r : Nat} (h : QeP p w x) (hg : w.grownBy w' (some r)) (hq : p r) : QeP p w' x := fun w2 k => h w2 ((GrownP.ofGrown hg hq).trans k)
/-- what a function of the document hands back -/
def R14 (p : Nat → Prop) (w : World) (s : St) (g : Gr) (qs : Qs) (x : Ending) (w' : World) : Prop :=
  ∃ a es, x = .returned (rcv s g a) ∧ ql es = qs ∧ a.nq = es.length ∧ RcP p w' s g es a ∧ Below w.heap.size w w'
end Go.Proofs.YtfipdoofgbjbjaaGreat

/- afterglowref14: pick. No condition but sizes. -/
namespace Go.Proofs.YtfipdoofgbjbjaaGreat
open Go.RowKit
attribute [local go_sem] Oper.semAt_some
/-- the first j queues are of that period -/
def ovN (d : Int) (qs : Qs) (j : Nat) : Qs := (qs.take j).map (fun x => (x.1, d)) ++ qs.drop j
end Go.Proofs.YtfipdoofgbjbjaaGreat

/- afterglowref14: Quiet, Waiting, Idle. No condition but sizes, and that numbers are of their kinds. -/
namespace Go.Proofs.YtfipdoofgbjbjaaGreat
open Go.RowKit
attribute [local go_sem] Oper.semAt_some
def quietR (s : St) : Bool := s.2.1.all fun n => decide (n ≤ 0)
def idleR (s : St) (g : Gr) (qs : Qs) : Bool := quietR s && (decide (wN qs = 0) && (!g.on && decide (g.ak = g.dn)))
end Go.Proofs.YtfipdoofgbjbjaaGreat

/- afterglowref13: Right, Same. No condition but sizes. -/
namespace Go.Proofs.YtfipdoofgbjbjaaGreat
open Go.RowKit
theorem neq_cb (a b c d : Int) : ∀ W, (binOp .neq 60 (.agg #[.int .u64 a, .int .u64 b]) (.agg #[.int .u64 c, .int .u64 d])).run Tryz.prog W = .ok (.bool (decide (¬ (a, b) = (c, d)))) W := by
  intro W
  have u3 := Tryz.underlying35
  have a3 := Tryz.isAgg35
  have z3 := Tryz.sizeOf35
  have hS : Tryz.prog.underlying 60 = some (.struct (Tryz.prog.fieldsOf 60)) := by kernel_rfl
  have hp : Tryz.prog.stoodInHeld 60 = false := by kernel_rfl
  rw [run_neq_struct, show (10000 : Nat) = 9999 + 1 from rfl, run_equalIn_agg W 9999 60 _ _ hS hp]
  simp only [Program.fieldsOf, Tryz.underlying60]
  go_simp
  by_cases h1 : a = c <;> by_cases h2 : b = d <;> simp [h1, h2]
def sameQ (o : Int) (xs : List Cb) (o' : Int) (ys : List Cb) : Bool := decide (o = o' ∧ xs = ys)
end Go.Proofs.YtfipdoofgbjbjaaGreat

/- afterglowref13: Put. No condition but sizes. -/
namespace Go.Proofs.YtfipdoofgbjbjaaGreat
open Go.RowKit
end Go.Proofs.YtfipdoofgbjbjaaGreat

/- afterglowref13: Drain. No condition but sizes. -/
namespace Go.Proofs.YtfipdoofgbjbjaaGreat
open Go.RowKit
def RdPost (W : World) (r : Int × List Cb × List Int × Int) (e : Ending) (W' : World) : Prop :=
  ∃ A n c B m d, e = .returned (.tuple #[qv A n c r.1, .slice B m d]) ∧ Qown W' W.heap.size A n r.2.1 ∧ Ow u64v W' W.heap.size 35 B m d r.2.2.1 ∧ Below W.heap.size W W' ∧ n ≤ c
end Go.Proofs.YtfipdoofgbjbjaaGreat

/- afterglowref14: Step, a run. No condition but sizes. -/
namespace Go.Proofs.YtfipdoofgbjbjaaGreat
open Go.RowKit
attribute [local go_sem] Oper.semAt_some
def zSt : St := (0, [], [])
def zRa : Ra := ⟨none, 0, 0, none, 0, 0, none, 0, none, 0, 0⟩
theorem RcP.zero (p : Nat → Prop) (w : World) : RcP p w zSt zGr [] zRa := fun w' _ =>
  ⟨⟨Sl.nil _ _ _ _, Sl.nil _ _ _ _, Nat.le_refl _, Nat.le_refl _, by show 0 ≤ 1000; omega, by show 0 ≤ 1000; omega⟩, Sl.nil _ _ _ _, by show 0 ≤ 1000; omega, ⟨by show (0 : Int) ≤ _; omega, by show (0 : Int) ≤ _; omega⟩, Sm.nil _ _ _ _, by show 0 ≤ 1000; omega, fun x hx => by cases hx⟩
/-- what Step hands back -/
def RS14 (p : Nat → Prop) (w : World) (s : St) (g : Gr) (qs : Qs) (what : Int) (ran : Bool) (c : Int) (x : Ending) (w' : World) : Prop :=
  ∃ a es, x = .returned (.tuple #[rcv s g a, .int .u64 what, .bool ran, .int .i64 c]) ∧ ql es = qs ∧ a.nq = es.length ∧ RcP p w' s g es a ∧ Below w.heap.size w w'
/-- what a run hands back -/
def RunP (p : Nat → Prop) (w : World) (s : St) (g : Gr) (qs : Qs) (cp : Nat) (x : Ending) (w' : World) : Prop :=
  if 0 < drN qs cp then RS14 p w s g (drQ qs cp 1) ((drR qs cp 1)[0]?.getD 0) true 0 x w' else RS14 p w zSt zGr [] 0 false 4 x w'
theorem RunP.no {p : Nat → Prop} {w : World} {s : St} {g : Gr} {qs : Qs} {cp : Nat} {x : Ending} {w' : World} (h : ¬ 0 < drN qs cp) (k : RS14 p w zSt zGr [] 0 false 4 x w') : RunP p w s g qs cp x w' := by unfold RunP; rw [if_neg h]; exact k
end Go.Proofs.YtfipdoofgbjbjaaGreat

/- package rcu: what settling ran: all that waited, each CPU's in its order. No condition. -/
namespace Go.Proofs.YtfipdoofgbjbjaaGreat
open Go.RowKit
/-- the words of all that waits -/
def wAll (qs : Qs) : List Int := (qs.map fun q => q.1.map Prod.snd).flatten
theorem wAll_len : ∀ qs : Qs, (wAll qs).length = wN qs
  | [] => rfl
  | q :: qs => by
    have ih := wAll_len qs
    unfold wAll wN at ih ⊢
    simp only [List.map_cons, List.flatten_cons, List.length_append, List.length_map, List.sum_cons, ih]
theorem wAll_overs (d d' : Int) (qs : Qs) : wAll (overs d d' qs) = wAll qs := by
  unfold overs wAll
  split
  · rw [List.map_map]; rfl
  · rfl
theorem at_overs (d d' : Int) (qs : Qs) (j : Nat) : (qAt (overs d d' qs) j).1 = (qAt qs j).1 := by
  unfold overs qAt
  split
  · rw [List.getElem?_map]; cases qs[j]? <;> rfl
  · rfl
theorem wAll_drain : ∀ (qs : Qs) (k j : Nat), k < qs.length → (drR qs k j ++ wAll (drQ qs k j)).Perm (wAll qs)
  | q :: qs, 0, j, _ => by
    show ((q.1.take j).map Prod.snd ++ ((q.1.drop j).map Prod.snd ++ wAll qs)).Perm (q.1.map Prod.snd ++ wAll qs)
    rw [← List.append_assoc, ← List.map_append, List.take_append_drop]
  | q :: qs, k + 1, j, h => by
    have ih := wAll_drain qs k j (by simpa using h)
    show (drR qs k j ++ (q.1.map Prod.snd ++ wAll (drQ qs k j))).Perm (q.1.map Prod.snd ++ wAll qs)
    exact (List.perm_append_comm_assoc _ _ _).trans (ih.append_left _)
/-- what was run, and what waits still -/
structure RanInv (q0 : Qs) (t : Sv) : Prop where
  perm : (t.ran ++ wAll t.qs).Perm (wAll q0)
  sub : ∀ j, ∃ d, (qAt t.qs j).1 = (qAt q0 j).1.drop d ∧ (((qAt q0 j).1.take d).map Prod.snd).Sublist t.ran
theorem ran_first (g : Gr) (q0 : Qs) (k : Nat) : RanInv q0 ⟨g, q0, [], k⟩ :=
  ⟨List.Perm.refl _, fun j => ⟨0, rfl, List.Sublist.refl _⟩⟩
theorem ran_turn {s : St} {q0 : Qs} {t : Sv} (h : SvOk s t) (hr : RanInv q0 t) : RanInv q0 (turnF t) := by
  have hk : t.k < (pkQ t).length := by rw [pk_len]; exact h.2.2
  have hat : ∀ j, (qAt (pkQ t) j).1 = (qAt t.qs j).1 := fun j => at_overs _ _ _ _
  refine ⟨?_, fun j => ?_⟩
  · show ((t.ran ++ drR (pkQ t) t.k _) ++ wAll (drQ (pkQ t) t.k _)).Perm _
    rw [List.append_assoc]
    refine ((wAll_drain (pkQ t) t.k _ hk).append_left _).trans ?_
    show (t.ran ++ wAll (overs _ _ _)).Perm _
    rw [wAll_overs]
    exact hr.perm
  · obtain ⟨d, h1, h2⟩ := hr.sub j
    show ∃ e, (qAt (drQ (pkQ t) t.k (drN (pkQ t) t.k)) j).1 = _ ∧ List.Sublist _ (t.ran ++ drR (pkQ t) t.k _)
    by_cases e : j = t.k
    · subst e
      refine ⟨d + drN (pkQ t) t.k, ?_, ?_⟩
      · unfold drQ
        show (((pkQ t).set t.k _)[t.k]?.getD ([], 0)).1 = _
        rw [List.getElem?_set_self hk]
        show (qAt (pkQ t) t.k).1.drop _ = _
        rw [hat, h1, List.drop_drop]
      · unfold drR
        rw [hat, h1, List.take_add, List.map_append]
        exact h2.append (List.Sublist.refl _)
    · refine ⟨d, ?_, h2.trans (List.sublist_append_left _ _)⟩
      unfold drQ
      show (((pkQ t).set t.k _)[j]?.getD ([], 0)).1 = _
      rw [List.getElem?_set_ne (Ne.symm e)]
      exact (hat j).trans h1
theorem wN_zero : ∀ {qs : Qs}, wN qs = 0 → wAll qs = [] ∧ ∀ j, (qAt qs j).1 = []
  | [], _ => ⟨rfl, fun j => rfl⟩
  | q :: qs, h => by
    unfold wN at h
    rw [List.map_cons, List.sum_cons] at h
    obtain ⟨h1, h2⟩ := wN_zero (qs := qs) (by unfold wN; omega)
    have hq : q.1 = [] := List.eq_nil_of_length_eq_zero (by omega)
    refine ⟨?_, fun j => ?_⟩
    · show q.1.map Prod.snd ++ wAll qs = []
      rw [hq, h1]; rfl
    · cases j with
      | zero => exact hq
      | succ j => exact h2 j
theorem idle_wN {s : St} {g : Gr} {qs : Qs} (h : idleB s g qs = true) : wN qs = 0 := by
  unfold idleB at h
  simp only [Bool.and_eq_true, decide_eq_true_eq] at h
  exact h.2.1
/-- what is settled is idle, may be, and has run all that waited -/
theorem settled {s : St} {t : Sv} (h : SvOk s t) (hr : t.ran = []) :
    SvOk s (setF s t) ∧ idleB s (setF s t).g (setF s t).qs = true ∧ (setF s t).ran.Perm (wAll t.qs) ∧ ∀ j, ((qAt t.qs j).1.map Prod.snd).Sublist (setF s t).ran := by
  obtain ⟨h1, h2, h3⟩ := setF_ind (s := s) (RanInv t.qs) (fun u hu hp _ => ran_turn hu hp) (mu t) t (Nat.le_refl _) h (by
    obtain ⟨g, qs, ran, k⟩ := t
    dsimp only at hr
    subst hr
    exact ran_first g qs k)
  obtain ⟨h4, h5⟩ := wN_zero (idle_wN h3)
  refine ⟨h2, h3, ?_, fun j => ?_⟩
  · have := h1.perm
    rw [h4, List.append_nil] at this
    exact this
  · obtain ⟨d, e1, e2⟩ := h1.sub j
    rw [h5 j] at e1
    rw [List.take_of_length_le (List.drop_eq_nil_iff.1 e1.symm)] at e2
    exact e2
/-- a row gone through beside another -/
def eatF : List Int → List Int → List Int
  | xs, [] => xs
  | [], _ => []
  | x :: xs, y :: l => if x = y then eatF xs l else eatF (x :: xs) l
theorem eat_sub : ∀ {l xs : List Int}, xs.Sublist l → eatF xs l = []
  | [], xs, h => by cases h; rfl
  | y :: l, [], _ => rfl
  | y :: l, x :: xs, h => by
    unfold eatF
    split
    · rename_i e
      subst e
      cases h with
      | cons _ h => exact eat_sub ((List.sublist_cons_self x xs).trans h)
      | cons_cons _ h => exact eat_sub h
    · rename_i e
      cases h with
      | cons _ h => exact eat_sub h
      | cons_cons _ h => exact absurd rfl e
end Go.Proofs.YtfipdoofgbjbjaaGreat

/- A range over a function whose iterator writes nothing old, and reads what its caller tells of: what its caller owes; a function with a label, by what each round starts with; marks among deferred calls. No condition. -/
namespace Go.Proofs.YtfipdoofgbjbjaaGreat
open Go.RowKit
/-- what the caller says abides new blocks -/
def StepsB (J : Nat → World → Prop) : Prop := ∀ k A B, J k A → Below A.heap.size A B → J k B
/-- the contract of an iterator that reads Rd k ahead of its k-th element -/
def ReadSeq (F : Fence) (m : Nat) (P : Program) (gf : Nat) (lb : Array Value) (vs : Nat → Array Value) (N : Nat) (Rd : Nat → World → Prop) : Prop :=
  ∀ (l : Nat) (J Jx : Nat → World → Prop) (W : World), StepsB J → (∀ k W1, k ≤ N → J k W1 → Rd k W1) →
    (∀ k W1, k < N → J k W1 → YieldAt F (m - 1) P l (vs k) W1 fun e W' => (e = .returned (.bool true) ∧ J (k + 1) W') ∨ (e = .returned (.bool false) ∧ Jx (k + 1) W')) →
    J 0 W → CallsIn F m P gf (#[.func (.yield l) #[] #[]] ++ lb) W fun e W' => (∃ v, e = .returned v) ∧ (J N W' ∨ ∃ k, Jx k W')
set_option maxHeartbeats 2000000 in
theorem wpIn_rangeFunc_read {F : Fence} {n : Nat} {P : Program} {g : Operand} {ps : Array Tmp} {assign body : Code} {Q : Exit → Act → World → Prop} {a : Act} {w : World} (hround : F.round = none) (h1 : 1 ≤ n)
    {gf : Nat} {lb : Array Value} (hg : a.eval g = .func (.func gf) #[] lb) (hin : F.fn gf) (eg : ∀ args w, (callFunc gf args).run P w = .ok (.enter gf args) w)
    {vs : Nat → Array Value} {N : Nat} {Rd : Nat → World → Prop} (hseq : ReadSeq F (n - 1) P gf lb vs N Rd) (hvs : ∀ k, (vs k).size = ps.size)
    (I : Nat → World → Prop) (Ix : Code → Nat → World → Prop) (hI : Books w.heap.size I) (hX : ∀ c, Books w.heap.size (Ix c)) (hID : StepsB I) (hRd : ∀ k W1, k ≤ N → I k W1 → Rd k W1) (h0 : I 0 w) (after : Nat → Act)
    (hassign : ∀ (l k : Nat) (W : World) (K : Act → World → Prop), K (after k) W → assign.wpIn (F.inRound l) (n - 1 - 1) P (Exit.then K (fun _ _ _ => False)) { tmps := (ps.zip (vs k)).foldl (fun t (q, v) => t.setIfInBounds q v) a.tmps, defers := [] } W)
    (hbody : ∀ (l k : Nat) (W : World), k < N → I k W → body.wpIn (F.inRound l) (n - 1 - 1) P (roundEnd w.heap.size I (fun _ _ => True) Ix (k + 1) W) (after k) W)
    (hdone : ∀ (b : Nat) (W : World), w.heap.size ≤ b → I N W → W.heap[b]? = some (.deferred (some [])) → Q .normal { a with defers := { target := .collected b, args := #[] } :: a.defers } W)
    (hstop : ∀ (b k : Nat) (c : Code) (W : World), w.heap.size ≤ b → Ix c k W → W.heap[b]? = some (.deferred (some [])) → c.wpIn F n P Q { a with defers := { target := .collected b, args := #[] } :: a.defers } W) :
    (Code.rangeFunc g ps assign body).wpIn F n P Q a w := by
  refine wpIn_rangeFunc fun fn hfn => ?_
  rw [hround]
  -- the record, by its state and the jump that is pending
  let mk : LoopState → Option Code → Obj := fun st pe => .loop { state := st, pending := pe, fn, tmps := a.tmps, params := ps, assign, body, defers := w.heap.size }
  have hmk : ∀ st pe, (mk st pe).isCells = false := fun _ _ => rfl
  generalize hW1 : (w.alloc (.deferred (some []))).alloc (mk .ready none) = W1
  have rec1 : W1.heap[w.heap.size + 1]? = some (mk .ready none) := by
    have := World.alloc_heap_new (w.alloc (.deferred (some []))) (mk .ready none)
    rw [World.size_alloc] at this
    rw [← hW1]; exact this
  have def1 : W1.heap[w.heap.size]? = some (.deferred (some [])) := by
    rw [← hW1]; exact (Below.heap_alloc _ _ _ (by simp)).trans (World.alloc_heap_new w _)
  have keepD : ∀ {A B : World} {k : Nat} {o : Obj}, Below A.heap.size A B → A.heap[k]? = some o → B.heap[k]? = some o := fun hg hk =>
    (hg.block _ (Array.getElem?_eq_some_iff.1 hk).1).trans hk
  refine ⟨w.heap.size + 1, [{ target := .collected w.heap.size, args := #[] }], W1, { target := .fn (.func gf) lb, args := #[.func (.yield (w.heap.size + 1)) #[] #[]] }, W1, gf, #[.func (.yield (w.heap.size + 1)) #[] #[]] ++ lb, W1,
    by rw [← hW1]; exact run_enterLoop_outer _ _ _ _ _, by simp only [resolve, hg]; simp [go_sem], fun f' hf' => by simp [Target.leads] at hf'; subst hf'; exact hin, by simp [invoke, go_sem, eg _ _], fun _ => h1, ?_⟩
  refine (hseq (w.heap.size + 1) (fun k W => I k W ∧ W.heap[w.heap.size + 1]? = some (mk .ready none) ∧ W.heap[w.heap.size]? = some (.deferred (some [])))
    (fun k W => ∃ c, Ix c k W ∧ W.heap[w.heap.size + 1]? = some (mk .done (some c)) ∧ W.heap[w.heap.size]? = some (.deferred (some []))) W1 ?_ ?_ ?_
    ⟨by rw [← hW1]; exact hI.alloc _ (hI.alloc _ h0), rec1, def1⟩).mono ?_
  · exact fun k A B hs hgr => ⟨hID k A B hs.1 hgr, keepD hgr hs.2.1, keepD hgr hs.2.2⟩
  · exact fun k W1 hk hs => hRd k W1 hk hs.1
  · -- a round
    rintro k W hk ⟨hi, hl, hd⟩
    refine ⟨fn, _, assign, body, run_yield (P := P) (args := vs k) hl (by rw [hvs k]), roundIn_of_wpIn hfn (hassign _ k W _ ?_)⟩
    refine ⟨_, run_beginRound hl rfl, ?_⟩
    have hlt : w.heap.size + 1 < W.heap.size := (Array.getElem?_eq_some_iff.1 hl).1
    have hl2 : (W.putObj (w.heap.size + 1) (mk .busy none)).heap[w.heap.size + 1]? = some (mk .busy none) := World.putObj_heap_same hlt
    have hd2 : (W.putObj (w.heap.size + 1) (mk .busy none)).heap[w.heap.size]? = some (.deferred (some [])) := (World.putObj_heap_other (by omega)).trans hd
    refine wpIn_mono (hbody _ k _ hk (hI.put _ hi (by omega) hl rfl)) ?_
    have over : ∀ (jump : Option Code) (W3 : World), KeepsFrom w.heap.size (W.putObj (w.heap.size + 1) (mk .busy none)) W3 →
        W3.heap[w.heap.size + 1]? = some (mk .busy none) ∧ (Instr.endRound (w.heap.size + 1) jump).run P W3 = .ok (.bool jump.isNone) (W3.putObj (w.heap.size + 1) (mk (if jump.isNone then .ready else .done) jump)) ∧
        (W3.putObj (w.heap.size + 1) (mk (if jump.isNone then .ready else .done) jump)).heap[w.heap.size + 1]? = some (mk (if jump.isNone then .ready else .done) jump) ∧
        (W3.putObj (w.heap.size + 1) (mk (if jump.isNone then .ready else .done) jump)).heap[w.heap.size]? = some (.deferred (some [])) := fun jump W3 hk3 => by
      have hl3 := hk3.same _ _ (by omega) hl2 rfl
      exact ⟨hl3, run_endRound jump hl3, World.putObj_heap_same (Array.getElem?_eq_some_iff.1 hl3).1, (World.putObj_heap_other (by omega)).trans (hk3.same _ _ (Nat.le_refl _) hd2 rfl)⟩
    intro e a3 W3 hp
    cases e with
    | normal =>
      obtain ⟨hk3, hi3, _⟩ := hp
      obtain ⟨hl3, hr, hl4, hd4⟩ := over none W3 hk3
      exact ⟨_, _, hr, .inl ⟨rfl, hI.put _ hi3 (by omega) hl3 rfl, hl4, hd4⟩⟩
    | ret =>
      obtain ⟨hl3, hr, hl4, hd4⟩ := over (some .ret) W3 hp.1
      exact ⟨_, _, hr, .inr ⟨rfl, _, (hX _).put _ hp.2 (by omega) hl3 rfl, hl4, hd4⟩⟩
    | exit id =>
      obtain ⟨hl3, hr, hl4, hd4⟩ := over (some (.exit id)) W3 hp.1
      exact ⟨_, _, hr, .inr ⟨rfl, _, (hX _).put _ hp.2 (by omega) hl3 rfl, hl4, hd4⟩⟩
    | goto t =>
      obtain ⟨hl3, hr, hl4, hd4⟩ := over (some (.goto t)) W3 hp.1
      exact ⟨_, _, hr, .inr ⟨rfl, _, (hX _).put _ hp.2 (by omega) hl3 rfl, hl4, hd4⟩⟩
    | panic _ => exact hp.elim
    | outgrown => exact hp.elim
  · -- behind the iterator
    rintro e W2 ⟨⟨v, rfl⟩, ⟨hi, hl, hd⟩ | ⟨k, c, hx, hl, hd⟩⟩
    · exact ⟨none, _, run_endLoop hl (by simp), hdone _ _ (Nat.le_refl _) (hI.put _ hi (by omega) hl rfl) ((World.putObj_heap_other (by omega)).trans hd)⟩
    · exact ⟨some c, _, run_endLoop hl (by simp), hstop _ k c _ (Nat.le_refl _) ((hX c).put _ hx (by omega) hl rfl) ((World.putObj_heap_other (by omega)).trans hd)⟩
/-- the least of those -/
theorem least_of (p : Nat → Prop) : (∃ n, p n) → ∃ n, p n ∧ ∀ m, p m → n ≤ m := by
  rintro ⟨n, hn⟩
  induction n using Nat.strongRecOn with
  | ind n ih =>
    by_cases h : ∃ m, m < n ∧ p m
    · obtain ⟨m, hm, hpm⟩ := h
      exact ih m hm hpm
    · exact ⟨n, hn, fun m hm => Nat.le_of_not_lt fun hlt => h ⟨m, hlt, hm⟩⟩
open Classical in
noncomputable def leastN (p : Nat → Prop) : Nat := if h : ∃ n, p n then Classical.choose (least_of p h) else 0
theorem leastN_spec {p : Nat → Prop} (h : ∃ n, p n) : p (leastN p) ∧ ∀ m, p m → leastN p ≤ m := by
  unfold leastN
  rw [dif_pos h]
  exact Classical.choose_spec (least_of p h)
/-- a function with a label to which it jumps back: what each round starts with is said by t, which comes nearer its end -/
theorem wp_scope_label_t {P : Program} {a : Act} {w : World} {Q : Exit → Act → World → Prop} {T : Type} {c X : Code} (l : Nat) (J : T → Act → World → Prop) (mu : T → Nat) (hf : findLabel c l = some (Code.skip.seq X))
    (first : Hid (∀ t a w, J t a w → X.wp P (Exit.jump l (fun a w => ∃ t, J t a w) Q) a w) → c.wp P (Exit.jump l (fun a w => ∃ t, J t a w) Q) a w)
    (pass : ∀ t a w, J t a w → X.wp P (Exit.jump l (fun a' w' => ∃ t', J t' a' w' ∧ mu t' < mu t) Q) a w) : (Code.scope c).wp P Q a w := by
  refine wp_scope_label l (fun a w => ∃ t, J t a w) (fun a w => leastN fun n => ∃ t, J t a w ∧ mu t = n) hf (fun h => first (hid fun t a w hj => h.out a w ⟨t, hj⟩)) ?_
  rintro a w ⟨t0, ht0⟩
  obtain ⟨⟨t, ht, e⟩, _⟩ := leastN_spec (p := fun n => ∃ t, J t a w ∧ mu t = n) ⟨_, t0, ht0, rfl⟩
  refine wp_mono (pass t a w ht) (fun x a' w' hq => ?_)
  cases x with
  | goto l' =>
    refine ⟨hq.1, ?_⟩
    obtain ⟨t', ht', hlt⟩ := hq.2
    refine ⟨⟨t', ht'⟩, ?_⟩
    have h2 := (leastN_spec (p := fun n => ∃ t, J t a' w' ∧ mu t = n) ⟨_, t', ht', rfl⟩).2 _ ⟨t', ht', rfl⟩
    have e' : mu t = leastN (fun n => ∃ t, J t a w ∧ mu t = n) := e
    omega
  | _ => exact hq
/-- marks of blocks of rounds' deferred calls, none of which was made -/
def Marks (lo : Nat) (W : World) (bs : List Nat) : Prop := bs.Nodup ∧ ∀ b ∈ bs, lo ≤ b ∧ b < W.heap.size ∧ W.heap[b]? = some (.deferred (some []))
def markD (b : Nat) : Deferred := { target := .collected b, args := #[] }
theorem Marks.nil (lo : Nat) (W : World) : Marks lo W [] := ⟨List.nodup_nil, fun _ h => (by cases h)⟩
theorem Marks.keep {lo : Nat} {W W' : World} {bs : List Nat} (h : Marks lo W bs) (hk : ∀ (b : Nat) (o : Obj), W.heap[b]? = some o → o.isCells = false → W'.heap[b]? = some o) : Marks lo W' bs :=
  ⟨h.1, fun b hb => by
    obtain ⟨h1, h2, h3⟩ := h.2 b hb
    have h4 := hk b _ h3 rfl
    exact ⟨h1, (Array.getElem?_eq_some_iff.1 h4).1, h4⟩⟩
theorem Marks.cons {lo b : Nat} {W : World} {bs : List Nat} (h : Marks lo W bs) (hn : b ∉ bs) (hl : lo ≤ b) (hb : W.heap[b]? = some (.deferred (some []))) : Marks lo W (b :: bs) :=
  ⟨List.nodup_cons.2 ⟨hn, h.1⟩, fun c hc => by
    rcases List.mem_cons.1 hc with rfl | hc
    · exact ⟨hl, (Array.getElem?_eq_some_iff.1 hb).1, hb⟩
    · exact h.2 c hc⟩
/-- a function leaves with marks: they are taken one by one -/
theorem leaves_marks {F : Fence} {n : Nat} {P : Program} {fn : Func} {tmps : Array Value} {R : Ending → World → Prop} {lo : Nat} (K : World → Prop)
    (hK : ∀ (A B : World) (b : Nat) (o : Obj), K A → A.grownBy B (some b) → lo ≤ b → A.heap[b]? = some o → o.isCells = false → K B) (hR : ∀ W, K W → LeavesIn F n P fn tmps R [] .returning W) :
    ∀ (bs : List Nat) (W : World), Marks lo W bs → K W → LeavesInM F n P fn tmps R (bs.map markD) .returning W
  | [], W, _, h => hR W h
  | b :: bs, W, hm, h => by
    obtain ⟨h1, h2, h3⟩ := hm.2 b List.mem_cons_self
    have hg := grownBy_putObj' W b (.deferred none)
    refine ⟨by simp, .inl ⟨b, _, rfl, run_takeDeferred h3, ?_⟩⟩
    refine leaves_marks K hK hR bs _ ⟨(List.nodup_cons.1 hm.1).2, fun c hc => ?_⟩ (hK _ _ b _ h hg h1 h3 rfl)
    obtain ⟨k1, k2, k3⟩ := hm.2 c (List.mem_cons_of_mem _ hc)
    have hne : c ≠ b := fun e => (List.nodup_cons.1 hm.1).1 (e ▸ hc)
    exact ⟨k1, Nat.lt_of_lt_of_le k2 hg.size, (hg.block c k2 (fun e => hne (Option.some.inj e))).trans k3⟩
end Go.Proofs.YtfipdoofgbjbjaaGreat

/- package rcu: what Settle's closure goes through: a pick, and a callback that is run. No condition but sizes. -/
namespace Go.Proofs.YtfipdoofgbjbjaaGreat
open Go.RowKit
theorem Blk.notOther {w : World} {b : Nat} {t : TypeId} {cs : Array Value} (h : Blk w b t cs) {o : Obj} (ho : w.heap[b]? = some o) : o.isCells = true := by
  unfold Blk at h
  rw [h] at ho
  cases ho
  rfl
theorem cell_isCells {w : World} {b i : Nat} {v : Value} (h : w.cell? ⟨b, i, none⟩ = some v) {o : Obj} (ho : w.heap[b]? = some o) : o.isCells = true := by
  unfold World.cell? at h
  cases o <;> simp [ho, Obj.isCells] at h ⊢
section
variable {w w' : World} {l gc : Nat} {s : St} {g : Gr} {es : List Qe} {is what : Int} {ran : List Int} {a : Ra} {R : Option Addr} {nr kr : Nat}
/-- a block that is no cells is turned -/
theorem CA.abides (h : CA w l gc s g es is what ran a R nr kr) {row : Option Nat} (hg : w.grownBy w' row) (hr : ∀ r, row = some r → ∃ o : Obj, w.heap[r]? = some o ∧ o.isCells = false) : CA w' l gc s g es is what ran a R nr kr := by
  have ne : ∀ b t cs, Blk w b t cs → some b ≠ row := fun b t cs hb e => by
    obtain ⟨o, ho, hc⟩ := hr b e.symm
    rw [hb.notOther ho] at hc; cases hc
  refine ⟨h.box.abides hg hr, ⟨h.ro.oa.abides hg hr, h.ro.ob.abides hg hr, h.ro.apart, h.ro.hn, h.ro.hm⟩, h.gd.abides hg hr, h.qs.keptG hg (fun b hb => ?_), h.rn.abides hg hr, fun x hx => ?_, h.lg⟩
  · obtain ⟨_, cs, hk⟩ := h.qs.blk b hb
    exact ne _ _ _ hk
  · obtain ⟨k1, k2⟩ := h.qe x hx
    refine ⟨k1.keptP (p := fun i => some i = row) ⟨hg.os, hg.tape, hg.output, hg.size, fun i hi hp => hg.block i hi hp⟩ (fun hn b hb e => ?_), k2⟩
    obtain ⟨b', off, e2, _, _, hc⟩ := k1.sm.row hn
    rw [hb] at e2
    cases e2
    obtain ⟨o, ho, hoc⟩ := hr _ e.symm
    rw [cell_isCells (hc 0 hn 0 (by omega)) ho] at hoc
    cases hoc
/-- what is no cells is left as it is -/
theorem CA.others (h : CA w l gc s g es is what ran a R nr kr) (hg : GrownP (CS gc a.Q R) w w') : KeepsOthers w w' :=
  ⟨hg.size, fun k o hk hc => by
    refine (hg.block k (Array.getElem?_eq_some_iff.1 hk).1 ?_).trans hk
    rintro (rfl | ⟨b, hb, rfl⟩ | ⟨b, hb, rfl⟩)
    · rw [h.box.notOther hk] at hc; cases hc
    · obtain ⟨_, cs, q⟩ := h.qs.blk b hb
      rw [q.notOther hk] at hc; cases hc
    · obtain ⟨_, cs, q⟩ := h.rn.blk b hb
      rw [q.notOther hk] at hc; cases hc⟩
theorem CA.boxes (h : CA w l gc s g es is what ran a R nr kr) (hg : GrownP (CS gc a.Q R) w w') : ∀ b cs, Blk w b 72 cs → Blk w' b 72 cs := fun b cs hb => by
  refine (hg.block b hb.lt ?_).trans hb
  rintro (rfl | ⟨c, hc, rfl⟩ | ⟨c, hc, rfl⟩)
  · exact h.box.neT hb (by decide) rfl
  · obtain ⟨_, ds, q⟩ := h.qs.blk c hc
    exact q.neT hb (by decide) rfl
  · obtain ⟨_, ds, q⟩ := h.rn.blk c hc
    exact q.neT hb (by decide) rfl
end
/-- what a cpu holds, in settling -/
def SA (w : World) (l gc : Nat) (s : St) (t : Sv) : Prop := ∃ a es what R kr, ql es = t.qs ∧ CA w l gc s t.g es t.k what t.ran a R t.ran.length kr
theorem SA.step {w w' : World} {l gc : Nat} {s : St} {t : Sv} (h : SA w l gc s t) (hb : Below w.heap.size w w') : SA w' l gc s t := by
  obtain ⟨a, es, what, R, kr, h1, h2⟩ := h
  exact ⟨a, es, what, R, kr, h1, h2.step hb⟩
theorem SA.abides {w w' : World} {l gc : Nat} {s : St} {t : Sv} (h : SA w l gc s t) {row : Option Nat} (hg : w.grownBy w' row) (hr : ∀ r, row = some r → ∃ o : Obj, w.heap[r]? = some o ∧ o.isCells = false) : SA w' l gc s t := by
  obtain ⟨a, es, what, R, kr, h1, h2⟩ := h
  exact ⟨a, es, what, R, kr, h1, h2.abides hg hr⟩
def SPost (w : World) (l gc : Nat) (s : St) (t : Sv) (x : Ending) (w' : World) : Prop := x = .returned (.tuple #[]) ∧ SA w' l gc s t ∧ GrownP (fun i => l ≤ i) w w' ∧ KeepsOthers w w' ∧ ∀ b cs, Blk w b 72 cs → Blk w' b 72 cs
theorem s_pick {w : World} {l gc : Nat} {s : St} {t : Sv} (h : SA w l gc s t) (ho : SvOk s t) : Calls Tryz.prog 49 #[ptr gc] w (SPost w l gc s ⟨gPick t.g t.k true, pkQ t, t.ran, t.k⟩) := by
  obtain ⟨a, es, what, R, kr, h1, h2⟩ := h
  obtain ⟨hg, hqt, hk⟩ := ho
  have hlen : a.nq = es.length := h2.qs.len.symm
  have h8 := hg.1.2.1.2.1
  have hql := hg.2.1
  have hql2 : es.length = t.qs.length := by rw [← h1, ql_len]
  refine (rpick_any l gc s t.g es t.k what t.ran a R _ kr w h2 (by omega) (by omega) (by omega) hg.1.2.1 true ?_ (fun x hx => by
    have := hg.2.2 _ (h1 ▸ ql_mem hx)
    exact ⟨this.1, this.2.1⟩)).mono ?_
  · refine decide_eq_true ⟨hg.1.1, by omega, by rw [hg.1.2.2]; omega, ?_⟩
    rw [Int.toNat_natCast]
    exact of_decide_eq_true (quiet_at hqt t.k)
  · rintro y w' ⟨rfl, ⟨a', k1, k2, k3, es', k6, k4⟩, k5⟩
    exact ⟨rfl, ⟨a', es', what, R, kr, by rw [k6, h1]; rfl, k4⟩, k5.mono h2.ge, h2.others k5, h2.boxes k5⟩
theorem drQ_at (qs : Qs) (k j : Nat) (hk : k < qs.length) : qAt (drQ qs k j) k = ((qAt qs k).1.drop j, (qAt qs k).2) := by
  unfold drQ
  show ((qs.set k _)[k]?.getD ([], 0)) = _
  rw [List.getElem?_set_self hk]; rfl
theorem drQ_drQ (qs : Qs) (k i j : Nat) (hk : k < qs.length) : drQ (drQ qs k i) k j = drQ qs k (i + j) := by
  show (drQ qs k i).set k ((qAt (drQ qs k i) k).1.drop j, (qAt (drQ qs k i) k).2) = _
  rw [drQ_at qs k i hk]
  unfold drQ
  rw [List.set_set, List.drop_drop]
theorem drR_drQ (qs : Qs) (k i j : Nat) (hk : k < qs.length) : drR qs k i ++ drR (drQ qs k i) k j = drR qs k (i + j) := by
  unfold drR
  rw [drQ_at qs k i hk, ← List.map_append, List.take_add]
theorem doneN_drop {o : Int} : ∀ (xs : List Cb) (j : Nat), j ≤ doneN o xs → doneN o (xs.drop j) = doneN o xs - j
  | xs, 0, _ => by rw [List.drop_zero, Nat.sub_zero]
  | [], j + 1, h => absurd h (by simp [doneN])
  | x :: xs, j + 1, h => by
    unfold doneN at h ⊢
    rw [List.takeWhile_cons] at h ⊢
    by_cases e : decide (x.1 ≤ o) = true
    · rw [if_pos e, List.length_cons] at h ⊢
      rw [List.drop_succ_cons]
      have := doneN_drop (o := o) xs j (by unfold doneN; omega)
      unfold doneN at this
      rw [this]; omega
    · rw [if_neg e] at h
      exact absurd h (by simp)
theorem drN_drQ (qs : Qs) (k j : Nat) (hk : k < qs.length) (hj : j ≤ drN qs k) : drN (drQ qs k j) k = drN qs k - j := by
  unfold drN
  rw [drQ_at qs k j hk]
  exact doneN_drop _ _ hj
theorem s_run {w : World} {l gc : Nat} {s : St} {t : Sv} (h : SA w l gc s t) (hg : RcGood s t.g t.qs) (hk : t.k < t.qs.length) (hd : 0 < drN t.qs t.k) (hran : t.ran.length ≤ 100000) :
    Calls Tryz.prog 51 #[ptr gc] w (SPost w l gc s ⟨t.g, drQ t.qs t.k 1, t.ran ++ drR t.qs t.k 1, t.k⟩) := by
  obtain ⟨a, es, what, R, kr, h1, h2⟩ := h
  have hlen : a.nq = es.length := h2.qs.len.symm
  have h8 := hg.1.2.1.2.1
  have hql := hg.2.1
  have hql2 : es.length = t.qs.length := by rw [← h1, ql_len]
  have hke : t.k < es.length := by omega
  have hat : qAt t.qs t.k = ((es[t.k]?.getD zQe).l, (es[t.k]?.getD zQe).o) := by unfold qAt; rw [← h1, ql_at es hke]
  obtain ⟨q1, q2, q3⟩ := hg.2.2 _ (qAt_mem hk)
  unfold drN at hd
  rw [hat] at q1 q2 q3 hd
  dsimp only at q1 q2 q3 hd
  have ht : takeF (es[t.k]?.getD zQe).o (es[t.k]?.getD zQe).l = ((es[t.k]?.getD zQe).o, (es[t.k]?.getD zQe).l.drop 1, ((es[t.k]?.getD zQe).l[0]?.getD (0, 0)).2, 0) := by
    unfold takeF
    rw [if_neg (not_not_intro q1), if_neg (by omega)]
  refine (rrun_yes l gc s t.g es t.k what t.ran a R _ kr w h2 (by omega) (by omega) _ rfl _ _ _ ht (by have := hg.1.2.1.small; omega) (by rw [List.length_drop]; have := q1.2.1; omega) (by omega)).mono ?_
  rintro y w' ⟨rfl, ⟨R', kr', A, n, c, k4⟩, k5⟩
  have hne : (es[t.k]?.getD zQe).l ≠ [] := fun e => by rw [e] at hd; exact absurd hd (by simp [doneN])
  have hdr : drR t.qs t.k 1 = [((es[t.k]?.getD zQe).l[0]?.getD (0, 0)).2] := by
    unfold drR
    rw [hat]
    dsimp only
    cases e : (es[t.k]?.getD zQe).l with
    | nil => exact absurd e hne
    | cons x xs => rfl
  have hdq : drQ t.qs t.k 1 = (ql es).set t.k ((es[t.k]?.getD zQe).l.drop 1, (es[t.k]?.getD zQe).o) := by
    unfold drQ
    rw [hat, h1]
  refine ⟨rfl, ⟨a, es.set t.k ⟨(es[t.k]?.getD zQe).l.drop 1, (es[t.k]?.getD zQe).o, A, n, c⟩, what, R', kr', (ql_set _ _ _).trans hdq.symm, ?_⟩, k5.mono h2.ge, h2.others k5, h2.boxes k5⟩
  rw [hdr]
  have hn : (t.ran ++ [((es[t.k]?.getD zQe).l[0]?.getD (0, 0)).2]).length = t.ran.length + 1 := by simp
  show CA w' l gc s t.g _ t.k what (t.ran ++ [_]) a R' (t.ran ++ [_]).length kr'
  rw [hn]
  exact k4
end Go.Proofs.YtfipdoofgbjbjaaGreat

/- afterglowref14: turn. No condition but sizes. -/
namespace Go.Proofs.YtfipdoofgbjbjaaGreat
open Go.RowKit
attribute [local go_sem] Oper.semAt_some
def lenOf : Value → Nat
  | .slice _ n _ => n
  | _ => 0
/-- those blocks, and that of a row -/
def pOut (p : Nat → Prop) (B : Option Addr) : Nat → Prop := fun i => p i ∨ ∃ b, B = some b ∧ b.block = i
theorem RcP.appended {p : Nat → Prop} {w w' : World} {s : St} {g : Gr} {es : List Qe} {a : Ra} {B A' : Option Addr} {n c n' c' : Nat} (h : RcP (pOut p B) w s g es a) (hg : w.grownBy w' (Value.slice B n c).ownBlock)
    (hat : (Value.slice A' n' c').ownBlock = (Value.slice B n c).ownBlock ∨ (Value.slice A' n' c').ownBlock = some w.heap.size) : RcP (pOut p A') w' s g es a := fun w2 k =>
  h.fresh w2 (((GrownP.refl _ _).thenG hg (fun r e => .inr (.inl (.inr (own_addr e))))).trans (k.mono (fun i hi => by
    rcases hi with hi | ⟨b, hb, rfl⟩
    · exact .inl (.inl hi)
    · have e1 : (Value.slice A' n' c').ownBlock = some b.block := by rw [hb]; rfl
      rcases hat with e2 | e2
      · rw [e1] at e2
        exact .inl (.inr (own_addr e2.symm))
      · rw [e1] at e2
        exact .inr (by have := Option.some.inj e2; omega))))
/-- what turn hands back -/
def TuP (p : Nat → Prop) (w : World) (s : St) (g : Gr) (qs : Qs) (ran : List Int) (x : Ending) (w' : World) : Prop :=
  ∃ a es B m d, x = .returned (.tuple #[rcv s g a, .slice B m d]) ∧ ql es = qs ∧ a.nq = es.length ∧ RcP p w' s g es a ∧ Ow u64v w' w.heap.size 35 B m d ran ∧ Below w.heap.size w w'
end Go.Proofs.YtfipdoofgbjbjaaGreat
