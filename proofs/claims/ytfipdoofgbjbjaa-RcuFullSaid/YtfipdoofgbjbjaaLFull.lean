/- afterglowlaw14.RcuFull returns true at every one, and CPU, and turns nothing old. No condition. -/
import Derived.Test.YtfipdoofgbjbjaaRc20
import Derived.Test.YtfipdoofgbjbjaaRc21
namespace Go.Proofs.Ytfipdoofgbjbjaa
open Go.RowKit
attribute [local go_sem] Oper.semAt_some
/-- a queue of a row, read off its cells -/
theorem rcr_q_at {w : World} {s : St} {g : Gr} {es : List Qe} {a : Ra} (h : RcR w s g es a) {k : Nat} (hk : k < a.nq) : ∃ b off A n c, a.Q = some ⟨b, off, none⟩ ∧ w.cell? ⟨b, off + k * 2, none⟩ = some (.slice A n c) ∧ (qAt (ql es) k).1.length = n := by
  obtain ⟨b, off, e, _, _, hc⟩ := h.qs.row (by omega)
  have hl : k < es.length := by rw [h.qs.len]; exact hk
  have hm : es[k]?.getD zQe ∈ es := by rw [List.getElem?_eq_getElem hl]; exact List.getElem_mem _
  refine ⟨b, off, (es[k]?.getD zQe).A, (es[k]?.getD zQe).n, (es[k]?.getD zQe).c, e, ?_, ?_⟩
  · have := hc k hk 0 (by omega)
    exact this
  · unfold qAt
    rw [ql_at es hl]
    exact (h.qe _ hm).1.len
theorem cpu_mod (x : Int) {n : Nat} (h1 : 1 ≤ n) (h8 : n ≤ 8) : ∃ c : Nat, c < n ∧ IntKind.i64.wrap ((IntKind.u64.wrap x).tmod (n : Int)) = (c : Int) ∧ IntKind.u64.wrap (n : Int) = (n : Int) ∧ ¬ ((n : Int) = 0) := by
  have h0 : 0 ≤ IntKind.u64.wrap x := by rw [IntKind.wrap_u64]; omega
  rw [Int.tmod_eq_emod_of_nonneg h0]
  have h2 := Int.emod_nonneg (IntKind.u64.wrap x) (show (n : Int) ≠ 0 by omega)
  have h3 := Int.emod_lt_of_pos (IntKind.u64.wrap x) (show (0 : Int) < n by omega)
  refine ⟨(IntKind.u64.wrap x % (n : Int)).toNat, by omega, ?_, ?_, by omega⟩
  · rw [IntKind.wrap_i64]; omega
  · rw [IntKind.wrap_u64]; omega
/-- queues behind so many callbacks more -/
structure FlI (c m j nq : Nat) (s : St) (g : Gr) (es : List Qe) (a : Ra) : Prop where
  good : RcGood s g (ql es)
  nq : a.nq = nq
  len : (qAt (ql es) c).1.length = m + j
set_option maxRecDepth 100000 in
set_option maxHeartbeats 8000000 in
theorem rfull_any (s0 : St) (g0 : Gr) (es0 : List Qe) (a0 : Ra) (cpu : Int) (w : World) (h : RcIn w s0 g0 es0 a0) :
    Calls Try.prog 3 #[rcv s0 g0 a0, .int .i64 cpu] w fun x w' => x = .returned (.bool true) ∧ Below w.heap.size w w' := by
  have HI := hid h; have HB := hid (Below.refl w.heap.size w)
  clear h
  have bx := below_box w (.cells (rcells s0 g0 a0) 30)
  replace HI := hid (HI.out.step bx); replace HB := hid (below_then HB.out bx)
  clear bx
  have PX := hid (Blk.new w 30 (rcells s0 g0 a0))
  go_enter Try.func3, Try.ntmps3
  go_wp2_with fail
  generalize w.alloc (.cells (rcells s0 g0 a0) 30) = W0 at *
  refine (rcwakes_any _).mono ?_
  rintro e w1 ⟨rfl, hb⟩
  replace HI := hid (HI.out.step hb); replace PX := hid (PX.out.step hb); replace HB := hid (below_then HB.out hb)
  clear hb
  obtain ⟨y00, y01, y02, y03, y04, y05, y06, y07, yf0⟩ := PX.out.cells8
  go_wp2_with fail
  clear y00 y01 y02 y03 y04 y05 y06 y07 yf0
  refine (ownP_any s0 g0 es0 a0 _ HI.out).mono ?_
  rintro e w2 ⟨a, es, rfl, _, hnq, hr, _, hb⟩
  obtain ⟨s, hs⟩ : ∃ s, s = cutS s0 := ⟨_, rfl⟩
  obtain ⟨g, hg⟩ : ∃ g, g = cutG g0 := ⟨_, rfl⟩
  rw [← hs, ← hg] at hr ⊢
  have RR := hid (hr.fresh.mono (q := fun i => i = w2.heap.size) (fun i hi => by subst hi; exact .inr (Nat.le_refl _))); have NQ := hid hnq
  clear hs hg hr hnq HI PX
  replace HB := hid (below_then HB.out hb)
  clear hb
  have HB2 := HB
  have bx := below_box w2 (.cells (rcells s g a) 30)
  replace RR := hid (RR.out.step bx); replace HB := hid (below_then HB.out bx)
  clear bx
  have P5 := hid (Blk.new w2 30 (rcells s g a))
  obtain ⟨y00, y01, y02, y03, y04, y05, y06, y07, yf0⟩ := P5.out.cells8
  go_wp2_with fail
  clear y00 y01 y02 y03 y04 y05 y06 y07 yf0
  have HLW2 := hid HB2.out.size
  clear HB2
  generalize w2.alloc (.cells (rcells s g a) 30) = W3 at *
  refine (rcheck_any s g es a _ RR.out.rcr).mono ?_
  rintro e w3 ⟨rfl, hb⟩
  replace RR := hid (RR.out.step hb); replace P5 := hid (P5.out.step hb); replace HB := hid (below_then HB.out hb)
  clear hb
  by_cases hok : RcOk s g es
  rotate_left
  ·skip
   have HNO := hid hok
   rw [show rcheckC s g es = 240 from if_neg hok]
   clear hok
   obtain ⟨y00, y01, y02, y03, y04, y05, y06, y07, yf0⟩ := P5.out.cells8
   go_wp2_with fail
   clear y00 y01 y02 y03 y04 y05 y06 y07 yf0
   refine (rwaiting_any s g es a _ RR.out.rcr).mono ?_
   rintro e w4 ⟨rfl, hb⟩
   replace RR := hid (RR.out.step hb); replace P5 := hid (P5.out.step hb); replace HB := hid (below_then HB.out hb)
   clear hb
   rw [if_neg HNO.out]
   go_wp2
   go_ret
   exact ⟨rfl, HB.out⟩
  have HG := hid (rcOk_iff.1 hok)
  rw [show rcheckC s g es = 0 from if_pos hok]
  clear hok
  obtain ⟨c, hc, hce, hcu, hcn⟩ := cpu_mod cpu (n := a.nq) (by rw [NQ.out, ← ql_len, HG.out.2.1]; exact HG.out.1.2.1.1) (by rw [NQ.out, ← ql_len, HG.out.2.1]; exact HG.out.1.2.1.2.1)
  have HC := hid hc
  obtain ⟨y00, y01, y02, y03, y04, y05, y06, y07, yf0⟩ := P5.out.cells8
  go_upto_region 7 with fail
  clear hce hcu hcn
  obtain ⟨b, off, A, n, k, hQ, f0, hl⟩ := rcr_q_at RR.out.rcr hc
  rw [hQ] at y07
  have hci : (c : Int) < (a.nq : Int) := by omega
  have HL := hid hl; have HN16 := hid (show n ≤ 16 by rw [← hl]; exact (HG.out.2.2 _ (qAt_mem (by rw [ql_len, ← NQ.out]; exact hc))).1.2.1)
  clear hl hc
  go_wp2_with fail
  clear f0 hQ hci
  clear y00 y01 y02 y03 y04 y05 y06 y07 yf0
  have hlm : wrap64 (16 - (n : Int)) = ((16 - n : Nat) : Int) := by have := HN16.out; unfold wrap64; omega
  simp only [hlm]
  clear hlm
  go_loopw [7, 8, 9, 40] (fun _ _ _ i wr => ∃ (j : Nat) (s' : St) (g' : Gr) (es' : List Qe) (a' : Ra), j ≤ 16 - n ∧ i = .int .i64 j ∧ FlI c n j a.nq s' g' es' a' ∧ Blk wr w2.heap.size 30 (rcells s' g' a') ∧ RcP (fun i => i = w2.heap.size) wr s' g' es' a' ∧ Below w.heap.size w wr) (fun _ _ _ i _ => 16 - n - (intOf i).toNat)
  case atStart => exact ⟨0, s, g, es, a, Nat.zero_le _, rfl, ⟨HG.out, rfl, HL.out⟩, P5.out, RR.out, HB.out⟩
  case round =>
    clear RR P5 HB
    obtain ⟨j, s', g', es', a', hj, rfl, hfi, p5, rr, hb⟩ := hrel
    have P5 := hid p5; have RR := hid rr; have HB := hid hb; have HF := hid hfi
    clear p5 rr hb hfi HG HL
    have HC2 := hid (show c < (ql es').length by rw [HF.out.good.2.1]; have h1 := HF.out.good.2.1; rw [ql_len] at h1; have h2 := HF.out.nq; have h3 := RR.out.rcr.qs.len; have := HC.out; omega)
    have HCC := hid (call_cases 1 HF.out.good HC2.out)
    have HRC := hid (rcA_ok (L := [(3, (c : Int), 1)]) HF.out.good)
    by_cases hjl : j < 16 - n
    rotate_left
    ·skip
     obtain rfl : j = 16 - n := by omega
     have HE := hid (show rcA s' g' es' [(3, (c : Int), 1)] = (6, (0, [], []), zGr, [], []) from HRC.out.trans (by
       rcases HCC.out with h | h
       · exact h.2
       · have h1 := HF.out.len; have h2 := h.2.1; have h3 := HN16.out; omega))
     clear hj hjl HRC HCC
     go_upto_region 15 with fail
     have HQ := hid (Below.refl wr.heap.size wr)
     have hKP := hid (show ∀ W' : World, Below wr.heap.size wr W' → (fun W' : World => W'.cell? ⟨w2.heap.size, 0, none⟩ = some (.int .i64 s'.1) ∧ W'.cell? ⟨w2.heap.size, 1, none⟩ = some (.slice a'.A a'.n a'.k) ∧ W'.cell? ⟨w2.heap.size, 2, none⟩ = some (.slice a'.B a'.m a'.d) ∧ W'.cell? ⟨w2.heap.size, 3, none⟩ = some (.int .i64 g'.dn) ∧ W'.cell? ⟨w2.heap.size, 4, none⟩ = some (.int .i64 g'.ak) ∧ W'.cell? ⟨w2.heap.size, 5, none⟩ = some (.bool g'.on) ∧ W'.cell? ⟨w2.heap.size, 6, none⟩ = some (.slice a'.D g'.nd.length a'.kd) ∧ W'.cell? ⟨w2.heap.size, 7, none⟩ = some (.slice a'.Q a'.nq a'.kq)) W' from fun W' hb => ⟨(P5.out.step hb).cells8.1, (P5.out.step hb).cells8.2.1, (P5.out.step hb).cells8.2.2.1, (P5.out.step hb).cells8.2.2.2.1, (P5.out.step hb).cells8.2.2.2.2.1, (P5.out.step hb).cells8.2.2.2.2.2.1, (P5.out.step hb).cells8.2.2.2.2.2.2.1, (P5.out.step hb).cells8.2.2.2.2.2.2.2.1⟩)
     refine' merge_by (fun K0 => ?_) ?_
     rotate_left
     refine' merge_by (fun K1 => ?_) ?_
     rotate_left
     ·skip
      have bx := (Below.refl wr.heap.size wr).drew
      replace HQ := hid (below_then HQ.out bx)
      clear bx
      refine wp_region_noPanic ?_
      refine wp_region_held_drew (S := (fun W' : World => W'.cell? ⟨w2.heap.size, 0, none⟩ = some (.int .i64 s'.1) ∧ W'.cell? ⟨w2.heap.size, 1, none⟩ = some (.slice a'.A a'.n a'.k) ∧ W'.cell? ⟨w2.heap.size, 2, none⟩ = some (.slice a'.B a'.m a'.d) ∧ W'.cell? ⟨w2.heap.size, 3, none⟩ = some (.int .i64 g'.dn) ∧ W'.cell? ⟨w2.heap.size, 4, none⟩ = some (.int .i64 g'.ak) ∧ W'.cell? ⟨w2.heap.size, 5, none⟩ = some (.bool g'.on) ∧ W'.cell? ⟨w2.heap.size, 6, none⟩ = some (.slice a'.D g'.nd.length a'.kd) ∧ W'.cell? ⟨w2.heap.size, 7, none⟩ = some (.slice a'.Q a'.nq a'.kq))) (by kernel_rfl) (hKP.out _ HQ.out) (fun hS => ?_)
      generalize wr.drew = Wd at *
      refine tk1 (i := 0) (v := ?_) (hy := Or.inl ⟨by rfl, ?_⟩) (hS := hS) (h := ?_)
      rotate_left
      · intro w' hSw; (try dsimp only at hSw); go_split_ands; go_simp; (try with_reducible rfl)
      (try simp only [Act.put, List.setIfInBounds_toArray, List.set_cons_zero, List.set_cons_succ])
      refine tk1 (i := 1) (v := ?_) (hy := Or.inl ⟨by rfl, ?_⟩) (hS := hS) (h := ?_)
      rotate_left
      · intro w' hSw; (try dsimp only at hSw); go_split_ands; go_simp; (try with_reducible rfl)
      (try simp only [Act.put, List.setIfInBounds_toArray, List.set_cons_zero, List.set_cons_succ])
      refine rd1 (rs := [2, 8]) (h := ?_)
      refine cs1 (h := fun K hK => ?_) (hs := ?_)
      ·skip
       have hpre := hid (show wr.heap.size ≤ Wd.heap.size from HQ.out.size)
       go_simp
       refine (op_any 3 c 1 _).mono ?_
       rintro e wp2 ⟨rfl, hb⟩
       replace HQ := hid (below_then HQ.out hb)
       clear hb
       go_wp2_with fail
       clear hpre
       refine hK.out _ _ (hKP.out _ HQ.out) (fun hS' => ?_)
       clear hK K hS
       have hS := hS'
       clear hS'
       (try simp only [Act.put, List.setIfInBounds_toArray, List.set_cons_zero, List.set_cons_succ])
       refine rd1 (rs := [3, 8]) (h := ?_)
       refine cs1 (h := fun K hK => ?_) (hs := ?_)
       ·skip
        have hpre := hid (show wr.heap.size ≤ wp2.heap.size from HQ.out.size)
        go_simp
        refine (rstepR (o := (3, (c : Int), 1)) _ (RR.out.rcr.step HQ.out) HE.out).mono ?_
        rintro e wpl ⟨a9, es9, rfl, hq9, hn9, hr9, hb⟩
        replace HQ := hid (below_then HQ.out hb)
        clear hb
        have RQ := hid hq9
        have RN := hid hn9
        have RS := hid (hr9.mono (q := fun i => i < wr.heap.size) (fun i hi => by have := HQ.out.size; have := hpre.out; (try dsimp only at hi ⊢); omega))
        clear hr9 hq9 hn9
        go_wp2_with fail
        clear hpre
        refine hK.out _ _ (hKP.out _ HQ.out) (fun hS' => ?_)
        clear hK K hS
        have hS := hS'
        clear hS'
        (try simp only [Act.put, List.setIfInBounds_toArray, List.set_cons_zero, List.set_cons_succ])
        refine tk1 (i := 4) (v := ?_) (hy := Or.inl ⟨by rfl, ?_⟩) (hS := hS) (h := ?_)
        rotate_left
        · intro w' hSw; (try dsimp only at hSw); go_split_ands; go_simp; (try with_reducible rfl)
        (try simp only [Act.put, List.setIfInBounds_toArray, List.set_cons_zero, List.set_cons_succ])
        refine tk1 (i := 5) (v := ?_) (hy := Or.inl ⟨by rfl, ?_⟩) (hS := hS) (h := ?_)
        rotate_left
        · intro w' hSw; (try dsimp only at hSw); go_split_ands; go_simp; (try with_reducible rfl)
        (try simp only [Act.put, List.setIfInBounds_toArray, List.set_cons_zero, List.set_cons_succ])
        refine tk1 (i := 6) (v := ?_) (hy := Or.inl ⟨by rfl, ?_⟩) (hS := hS) (h := ?_)
        rotate_left
        · intro w' hSw; (try dsimp only at hSw); go_split_ands; go_simp; (try with_reducible rfl)
        (try simp only [Act.put, List.setIfInBounds_toArray, List.set_cons_zero, List.set_cons_succ])
        refine tk1 (i := 7) (v := ?_) (hy := Or.inl ⟨by rfl, ?_⟩) (hS := hS) (h := ?_)
        rotate_left
        · intro w' hSw; (try dsimp only at hSw); go_split_ands; go_simp; (try with_reducible rfl)
        (try simp only [Act.put, List.setIfInBounds_toArray, List.set_cons_zero, List.set_cons_succ])
        refine rd1 (rs := [8]) (h := ?_)
        refine cs1 (h := fun K hK => ?_) (hs := ?_)
        ·skip
         have hpre := hid (show wr.heap.size ≤ wpl.heap.size from HQ.out.size)
         go_simp
         refine named_alloc ?_
         intro Wa8 hbk hb hsz
         have RT := hid ((RS.out.fresh.mono (q := fun i => i < wr.heap.size ∨ i = wpl.heap.size) (fun i hi => by (try dsimp only at hi ⊢); omega)).step hb)
         replace RS := hid (RS.out.step hb); replace HQ := hid (below_then HQ.out hb)
         obtain ⟨ga8, hga⟩ : ∃ g, g = wpl.heap.size := ⟨_, rfl⟩
         rw [← hga] at hbk ⊢
         rw [← hga] at RT
         have hlo8 := hid (show wr.heap.size ≤ ga8 by have := hpre.out; omega)
         have ZR := hid hbk
         clear hb hbk hsz hga hpre
         refine hK.out _ _ (hKP.out _ HQ.out) (fun hS' => ?_)
         clear hK K hS
         have hS := hS'
         clear hS'
         (try simp only [Act.put, List.setIfInBounds_toArray, List.set_cons_zero, List.set_cons_succ])
         revert hS; revert hlo8; revert RT; revert RN; revert RQ; revert HQ; revert ZR; revert RS; revert ga8; revert es9; revert a9; revert Wa8
         exact K0.out
        exact AllReadyH.nil
       refine cs1 (h := fun K hK => ?_) (hs := ?_)
       ·skip
        have hpre := hid (show wr.heap.size ≤ wp2.heap.size from HQ.out.size)
        go_simp
        refine named_alloc ?_
        intro Wa8 hbk hb hsz
        skip
        replace HQ := hid (below_then HQ.out hb)
        obtain ⟨ga8, hga⟩ : ∃ g, g = wp2.heap.size := ⟨_, rfl⟩
        rw [← hga] at hbk ⊢
        have hlo8 := hid (show wr.heap.size ≤ ga8 by have := hpre.out; omega)
        have ZR := hid hbk
        clear hb hbk hsz hga hpre
        refine hK.out _ _ (hKP.out _ HQ.out) (fun hS' => ?_)
        clear hK K hS
        have hS := hS'
        clear hS'
        (try simp only [Act.put, List.setIfInBounds_toArray, List.set_cons_zero, List.set_cons_succ])
        revert hS; revert hlo8; revert HQ; revert ZR; revert ga8; revert Wa8
        exact K1.out
       exact AllReadyH.nil
      refine cs1 (h := fun K hK => ?_) (hs := ?_)
      ·skip
       have hpre := hid (show wr.heap.size ≤ Wd.heap.size from HQ.out.size)
       go_simp
       refine named_alloc ?_
       intro Wa8 hbk hb hsz
       skip
       replace HQ := hid (below_then HQ.out hb)
       obtain ⟨ga8, hga⟩ : ∃ g, g = Wd.heap.size := ⟨_, rfl⟩
       rw [← hga] at hbk ⊢
       have hlo8 := hid (show wr.heap.size ≤ ga8 by have := hpre.out; omega)
       have ZR := hid hbk
       clear hb hbk hsz hga hpre
       refine hK.out _ _ (hKP.out _ HQ.out) (fun hS' => ?_)
       clear hK K hS
       have hS := hS'
       clear hS'
       (try simp only [Act.put, List.setIfInBounds_toArray, List.set_cons_zero, List.set_cons_succ])
       refine rd1 (rs := [2]) (h := ?_)
       refine cs1 (h := fun K hK => ?_) (hs := ?_)
       ·skip
        have hpre := hid (show wr.heap.size ≤ Wa8.heap.size from HQ.out.size)
        have hpl8 := hid ZR.out.lt
        go_simp
        refine (op_any 3 c 1 _).mono ?_
        rintro e wp2 ⟨rfl, hb⟩
        replace ZR := hid (ZR.out.step hb); replace HQ := hid (below_then HQ.out hb)
        clear hb
        go_wp2_with fail
        clear hpre hpl8
        refine hK.out _ _ (hKP.out _ HQ.out) (fun hS' => ?_)
        clear hK K hS
        have hS := hS'
        clear hS'
        (try simp only [Act.put, List.setIfInBounds_toArray, List.set_cons_zero, List.set_cons_succ])
        revert hS; revert hlo8; revert HQ; revert ZR; revert ga8; revert wp2
        exact K1.out
       exact AllReadyH.nil
      exact AllReadyH.nil
     ·skip
      intro Wm ga8 ZR HQ hlo8 hS
      refine rd1 (rs := [3]) (h := ?_)
      refine cs1 (h := fun K hK => ?_) (hs := ?_)
      ·skip
       have hpre := hid (show wr.heap.size ≤ Wm.heap.size from HQ.out.size)
       have hpl8 := hid ZR.out.lt
       go_simp
       refine (rstepR (o := (3, (c : Int), 1)) _ (RR.out.rcr.step HQ.out) HE.out).mono ?_
       rintro e wpl ⟨a9, es9, rfl, hq9, hn9, hr9, hb⟩
       replace ZR := hid (ZR.out.step hb); replace HQ := hid (below_then HQ.out hb)
       clear hb
       have RQ := hid hq9
       have RN := hid hn9
       have RS := hid (hr9.mono (q := fun i => i < wr.heap.size) (fun i hi => by have := HQ.out.size; have := hpre.out; have := hpl8.out; have := hlo8.out; have := ZR.out.lt; (try dsimp only at hi ⊢); omega))
       have RT := hid (hr9.mono (q := fun i => i < wr.heap.size ∨ i = ga8) (fun i hi => by have := HQ.out.size; have := hpre.out; have := hpl8.out; have := hlo8.out; have := ZR.out.lt; (try dsimp only at hi ⊢); omega))
       clear hr9 hq9 hn9
       go_wp2_with fail
       clear hpre hpl8
       refine hK.out _ _ (hKP.out _ HQ.out) (fun hS' => ?_)
       clear hK K hS
       have hS := hS'
       clear hS'
       (try simp only [Act.put, List.setIfInBounds_toArray, List.set_cons_zero, List.set_cons_succ])
       refine tk1 (i := 4) (v := ?_) (hy := Or.inl ⟨by rfl, ?_⟩) (hS := hS) (h := ?_)
       rotate_left
       · intro w' hSw; (try dsimp only at hSw); go_split_ands; go_simp; (try with_reducible rfl)
       (try simp only [Act.put, List.setIfInBounds_toArray, List.set_cons_zero, List.set_cons_succ])
       refine tk1 (i := 5) (v := ?_) (hy := Or.inl ⟨by rfl, ?_⟩) (hS := hS) (h := ?_)
       rotate_left
       · intro w' hSw; (try dsimp only at hSw); go_split_ands; go_simp; (try with_reducible rfl)
       (try simp only [Act.put, List.setIfInBounds_toArray, List.set_cons_zero, List.set_cons_succ])
       refine tk1 (i := 6) (v := ?_) (hy := Or.inl ⟨by rfl, ?_⟩) (hS := hS) (h := ?_)
       rotate_left
       · intro w' hSw; (try dsimp only at hSw); go_split_ands; go_simp; (try with_reducible rfl)
       (try simp only [Act.put, List.setIfInBounds_toArray, List.set_cons_zero, List.set_cons_succ])
       refine tk1 (i := 7) (v := ?_) (hy := Or.inl ⟨by rfl, ?_⟩) (hS := hS) (h := ?_)
       rotate_left
       · intro w' hSw; (try dsimp only at hSw); go_split_ands; go_simp; (try with_reducible rfl)
       (try simp only [Act.put, List.setIfInBounds_toArray, List.set_cons_zero, List.set_cons_succ])
       revert hS; revert hlo8; revert RT; revert RN; revert RQ; revert HQ; revert ZR; revert RS; revert ga8; revert es9; revert a9; revert wpl
       exact K0.out
      exact AllReadyH.nil
     ·skip
      intro Wm a9 es9 ga8 RS ZR HQ RQ RN RT hlo8 hS
      refine rd1 (rs := [9]) (h := ?_)
      refine cs1 (h := fun K hK => ?_) (hs := ?_)
      ·skip
       have hpre := hid (show wr.heap.size ≤ Wm.heap.size from HQ.out.size)
       obtain ⟨y00, y01, y02, y03, y04, y05, y06, y07, yf0⟩ := ZR.out.cells8
       go_simp
       clear y00 y01 y02 y03 y04 y05 y06 y07 yf0
       refine named_store_8_8_0 ZR.out ?_
       intro Ws9 hbk hgr hsz
       clear hsz
       replace HQ := hid (HQ.out.grown hgr HQ.out.size (fun r e => by cases e; have := HQ.out.size; have := hlo8.out; have := ZR.out.lt; omega))
       replace RS := hid ((RT.out.turn hgr (.inr rfl)).mono (fun i hi => .inl hi))
       clear RT
       replace ZR := hid hbk
       clear hbk hgr hpre
       refine hK.out _ _ (hKP.out _ HQ.out) (fun hS' => ?_)
       clear hK K hS
       have hS := hS'
       clear hS'
       (try simp only [Act.put, List.setIfInBounds_toArray, List.set_cons_zero, List.set_cons_succ])
       refine tk1 (i := 10) (v := ?_) (hy := Or.inl ⟨by rfl, ?_⟩) (hS := hS) (h := ?_)
       rotate_left
       · intro w' hSw; (try dsimp only at hSw); go_split_ands; go_simp; (try with_reducible rfl)
       (try simp only [Act.put, List.setIfInBounds_toArray, List.set_cons_zero, List.set_cons_succ])
       refine tk1 (i := 11) (v := ?_) (hy := Or.inl ⟨by rfl, ?_⟩) (hS := hS) (h := ?_)
       rotate_left
       · intro w' hSw; (try dsimp only at hSw); go_split_ands; go_simp; (try with_reducible rfl)
       (try simp only [Act.put, List.setIfInBounds_toArray, List.set_cons_zero, List.set_cons_succ])
       refine wpAnyH_done (by kernel_rfl) ?_ _
       refine NoPanic.normal ?_
       clear hS
       obtain rfl : es9 = [] := List.map_eq_nil_iff.1 RQ.out
       have hn0 : (a9.nq : Int) = 0 := by rw [RN.out]; rfl
       replace P5 := hid (P5.out.step HQ.out); replace RR := hid (RR.out.step HQ.out); replace HB := hid (below_then HB.out HQ.out)
       clear HQ HE
       obtain ⟨b2, off2, A2, n2, k2, hQ2, f2, hl2⟩ := rcr_q_at RR.out.rcr (k := c) (by rw [HF.out.nq]; exact HC.out)
       obtain rfl : n2 = 16 := by have h1 := HF.out.len; have h3 := HN16.out; omega
       have hci : (c : Int) < (a'.nq : Int) := by rw [HF.out.nq]; have := HC.out; omega
       clear hl2
       obtain ⟨y00, y01, y02, y03, y04, y05, y06, y07, yf0⟩ := ZR.out.cells8
       obtain ⟨y10, y11, y12, y13, y14, y15, y16, y17, yf1⟩ := P5.out.cells8
       rw [hQ2] at y17
       go_wp2_with fail
       rw [← hQ2]
       clear hn0 f2 hQ2 hci y00 y01 y02 y03 y04 y05 y06 y07 yf0 y10 y11 y12 y13 y14 y15 y16 y17 yf1
       refine (rcheck_any s' g' es' a' _ RR.out.rcr).mono ?_
       rintro e w9 ⟨rfl, hb⟩
       rw [show rcheckC s' g' es' = 0 from if_pos (rcOk_iff.2 HF.out.good)]
       replace HB := hid (below_then HB.out hb)
       go_wp2
       go_ret
       exact ⟨rfl, HB.out⟩
      exact AllReadyH.nil
    have hji : (j : Int) < ((16 - n : Nat) : Int) := by omega
    have HJ := hid hjl
    clear hjl
    rcases HCC.out with h | h
    ·skip
     have HE := hid (HRC.out.trans h.2)
     have HGN := hid (show 2147483645 < gNext g' from h.1.resolve_right (by have h1 := HF.out.len; have h2 := HJ.out; omega))
     clear h HRC HCC
     go_upto_region 10 with fail
     have HQ := hid (Below.refl wr.heap.size wr)
     have hKP := hid (show ∀ W' : World, Below wr.heap.size wr W' → (fun W' : World => W'.cell? ⟨w2.heap.size, 0, none⟩ = some (.int .i64 s'.1) ∧ W'.cell? ⟨w2.heap.size, 1, none⟩ = some (.slice a'.A a'.n a'.k) ∧ W'.cell? ⟨w2.heap.size, 2, none⟩ = some (.slice a'.B a'.m a'.d) ∧ W'.cell? ⟨w2.heap.size, 3, none⟩ = some (.int .i64 g'.dn) ∧ W'.cell? ⟨w2.heap.size, 4, none⟩ = some (.int .i64 g'.ak) ∧ W'.cell? ⟨w2.heap.size, 5, none⟩ = some (.bool g'.on) ∧ W'.cell? ⟨w2.heap.size, 6, none⟩ = some (.slice a'.D g'.nd.length a'.kd) ∧ W'.cell? ⟨w2.heap.size, 7, none⟩ = some (.slice a'.Q a'.nq a'.kq)) W' from fun W' hb => ⟨(P5.out.step hb).cells8.1, (P5.out.step hb).cells8.2.1, (P5.out.step hb).cells8.2.2.1, (P5.out.step hb).cells8.2.2.2.1, (P5.out.step hb).cells8.2.2.2.2.1, (P5.out.step hb).cells8.2.2.2.2.2.1, (P5.out.step hb).cells8.2.2.2.2.2.2.1, (P5.out.step hb).cells8.2.2.2.2.2.2.2.1⟩)
     refine' merge_by (fun K0 => ?_) ?_
     rotate_left
     refine' merge_by (fun K1 => ?_) ?_
     rotate_left
     ·skip
      have bx := (Below.refl wr.heap.size wr).drew
      replace HQ := hid (below_then HQ.out bx)
      clear bx
      refine wp_region_noPanic ?_
      refine wp_region_held_drew (S := (fun W' : World => W'.cell? ⟨w2.heap.size, 0, none⟩ = some (.int .i64 s'.1) ∧ W'.cell? ⟨w2.heap.size, 1, none⟩ = some (.slice a'.A a'.n a'.k) ∧ W'.cell? ⟨w2.heap.size, 2, none⟩ = some (.slice a'.B a'.m a'.d) ∧ W'.cell? ⟨w2.heap.size, 3, none⟩ = some (.int .i64 g'.dn) ∧ W'.cell? ⟨w2.heap.size, 4, none⟩ = some (.int .i64 g'.ak) ∧ W'.cell? ⟨w2.heap.size, 5, none⟩ = some (.bool g'.on) ∧ W'.cell? ⟨w2.heap.size, 6, none⟩ = some (.slice a'.D g'.nd.length a'.kd) ∧ W'.cell? ⟨w2.heap.size, 7, none⟩ = some (.slice a'.Q a'.nq a'.kq))) (by kernel_rfl) (hKP.out _ HQ.out) (fun hS => ?_)
      generalize wr.drew = Wd at *
      refine tk1 (i := 0) (v := ?_) (hy := Or.inl ⟨by rfl, ?_⟩) (hS := hS) (h := ?_)
      rotate_left
      · intro w' hSw; (try dsimp only at hSw); go_split_ands; go_simp; (try with_reducible rfl)
      (try simp only [Act.put, List.setIfInBounds_toArray, List.set_cons_zero, List.set_cons_succ])
      refine tk1 (i := 1) (v := ?_) (hy := Or.inl ⟨by rfl, ?_⟩) (hS := hS) (h := ?_)
      rotate_left
      · intro w' hSw; (try dsimp only at hSw); go_split_ands; go_simp; (try with_reducible rfl)
      (try simp only [Act.put, List.setIfInBounds_toArray, List.set_cons_zero, List.set_cons_succ])
      refine rd1 (rs := [2, 8]) (h := ?_)
      refine cs1 (h := fun K hK => ?_) (hs := ?_)
      ·skip
       have hpre := hid (show wr.heap.size ≤ Wd.heap.size from HQ.out.size)
       go_simp
       refine (op_any 3 c 1 _).mono ?_
       rintro e wp2 ⟨rfl, hb⟩
       replace HQ := hid (below_then HQ.out hb)
       clear hb
       go_wp2_with fail
       clear hpre
       refine hK.out _ _ (hKP.out _ HQ.out) (fun hS' => ?_)
       clear hK K hS
       have hS := hS'
       clear hS'
       (try simp only [Act.put, List.setIfInBounds_toArray, List.set_cons_zero, List.set_cons_succ])
       refine rd1 (rs := [3, 8]) (h := ?_)
       refine cs1 (h := fun K hK => ?_) (hs := ?_)
       ·skip
        have hpre := hid (show wr.heap.size ≤ wp2.heap.size from HQ.out.size)
        go_simp
        refine (rstepR (o := (3, (c : Int), 1)) _ (RR.out.rcr.step HQ.out) HE.out).mono ?_
        rintro e wpl ⟨a9, es9, rfl, hq9, hn9, hr9, hb⟩
        replace HQ := hid (below_then HQ.out hb)
        clear hb
        have RQ := hid hq9
        have RN := hid hn9
        have RS := hid (hr9.mono (q := fun i => i < wr.heap.size) (fun i hi => by have := HQ.out.size; have := hpre.out; (try dsimp only at hi ⊢); omega))
        clear hr9 hq9 hn9
        go_wp2_with fail
        clear hpre
        refine hK.out _ _ (hKP.out _ HQ.out) (fun hS' => ?_)
        clear hK K hS
        have hS := hS'
        clear hS'
        (try simp only [Act.put, List.setIfInBounds_toArray, List.set_cons_zero, List.set_cons_succ])
        refine tk1 (i := 4) (v := ?_) (hy := Or.inl ⟨by rfl, ?_⟩) (hS := hS) (h := ?_)
        rotate_left
        · intro w' hSw; (try dsimp only at hSw); go_split_ands; go_simp; (try with_reducible rfl)
        (try simp only [Act.put, List.setIfInBounds_toArray, List.set_cons_zero, List.set_cons_succ])
        refine tk1 (i := 5) (v := ?_) (hy := Or.inl ⟨by rfl, ?_⟩) (hS := hS) (h := ?_)
        rotate_left
        · intro w' hSw; (try dsimp only at hSw); go_split_ands; go_simp; (try with_reducible rfl)
        (try simp only [Act.put, List.setIfInBounds_toArray, List.set_cons_zero, List.set_cons_succ])
        refine tk1 (i := 6) (v := ?_) (hy := Or.inl ⟨by rfl, ?_⟩) (hS := hS) (h := ?_)
        rotate_left
        · intro w' hSw; (try dsimp only at hSw); go_split_ands; go_simp; (try with_reducible rfl)
        (try simp only [Act.put, List.setIfInBounds_toArray, List.set_cons_zero, List.set_cons_succ])
        refine tk1 (i := 7) (v := ?_) (hy := Or.inl ⟨by rfl, ?_⟩) (hS := hS) (h := ?_)
        rotate_left
        · intro w' hSw; (try dsimp only at hSw); go_split_ands; go_simp; (try with_reducible rfl)
        (try simp only [Act.put, List.setIfInBounds_toArray, List.set_cons_zero, List.set_cons_succ])
        refine rd1 (rs := [8]) (h := ?_)
        refine cs1 (h := fun K hK => ?_) (hs := ?_)
        ·skip
         have hpre := hid (show wr.heap.size ≤ wpl.heap.size from HQ.out.size)
         go_simp
         refine named_alloc ?_
         intro Wa8 hbk hb hsz
         have RT := hid ((RS.out.fresh.mono (q := fun i => i < wr.heap.size ∨ i = wpl.heap.size) (fun i hi => by (try dsimp only at hi ⊢); omega)).step hb)
         replace RS := hid (RS.out.step hb); replace HQ := hid (below_then HQ.out hb)
         obtain ⟨ga8, hga⟩ : ∃ g, g = wpl.heap.size := ⟨_, rfl⟩
         rw [← hga] at hbk ⊢
         rw [← hga] at RT
         have hlo8 := hid (show wr.heap.size ≤ ga8 by have := hpre.out; omega)
         have ZR := hid hbk
         clear hb hbk hsz hga hpre
         refine hK.out _ _ (hKP.out _ HQ.out) (fun hS' => ?_)
         clear hK K hS
         have hS := hS'
         clear hS'
         (try simp only [Act.put, List.setIfInBounds_toArray, List.set_cons_zero, List.set_cons_succ])
         revert hS; revert hlo8; revert RT; revert RN; revert RQ; revert HQ; revert ZR; revert RS; revert ga8; revert es9; revert a9; revert Wa8
         exact K0.out
        exact AllReadyH.nil
       refine cs1 (h := fun K hK => ?_) (hs := ?_)
       ·skip
        have hpre := hid (show wr.heap.size ≤ wp2.heap.size from HQ.out.size)
        go_simp
        refine named_alloc ?_
        intro Wa8 hbk hb hsz
        skip
        replace HQ := hid (below_then HQ.out hb)
        obtain ⟨ga8, hga⟩ : ∃ g, g = wp2.heap.size := ⟨_, rfl⟩
        rw [← hga] at hbk ⊢
        have hlo8 := hid (show wr.heap.size ≤ ga8 by have := hpre.out; omega)
        have ZR := hid hbk
        clear hb hbk hsz hga hpre
        refine hK.out _ _ (hKP.out _ HQ.out) (fun hS' => ?_)
        clear hK K hS
        have hS := hS'
        clear hS'
        (try simp only [Act.put, List.setIfInBounds_toArray, List.set_cons_zero, List.set_cons_succ])
        revert hS; revert hlo8; revert HQ; revert ZR; revert ga8; revert Wa8
        exact K1.out
       exact AllReadyH.nil
      refine cs1 (h := fun K hK => ?_) (hs := ?_)
      ·skip
       have hpre := hid (show wr.heap.size ≤ Wd.heap.size from HQ.out.size)
       go_simp
       refine named_alloc ?_
       intro Wa8 hbk hb hsz
       skip
       replace HQ := hid (below_then HQ.out hb)
       obtain ⟨ga8, hga⟩ : ∃ g, g = Wd.heap.size := ⟨_, rfl⟩
       rw [← hga] at hbk ⊢
       have hlo8 := hid (show wr.heap.size ≤ ga8 by have := hpre.out; omega)
       have ZR := hid hbk
       clear hb hbk hsz hga hpre
       refine hK.out _ _ (hKP.out _ HQ.out) (fun hS' => ?_)
       clear hK K hS
       have hS := hS'
       clear hS'
       (try simp only [Act.put, List.setIfInBounds_toArray, List.set_cons_zero, List.set_cons_succ])
       refine rd1 (rs := [2]) (h := ?_)
       refine cs1 (h := fun K hK => ?_) (hs := ?_)
       ·skip
        have hpre := hid (show wr.heap.size ≤ Wa8.heap.size from HQ.out.size)
        have hpl8 := hid ZR.out.lt
        go_simp
        refine (op_any 3 c 1 _).mono ?_
        rintro e wp2 ⟨rfl, hb⟩
        replace ZR := hid (ZR.out.step hb); replace HQ := hid (below_then HQ.out hb)
        clear hb
        go_wp2_with fail
        clear hpre hpl8
        refine hK.out _ _ (hKP.out _ HQ.out) (fun hS' => ?_)
        clear hK K hS
        have hS := hS'
        clear hS'
        (try simp only [Act.put, List.setIfInBounds_toArray, List.set_cons_zero, List.set_cons_succ])
        revert hS; revert hlo8; revert HQ; revert ZR; revert ga8; revert wp2
        exact K1.out
       exact AllReadyH.nil
      exact AllReadyH.nil
     ·skip
      intro Wm ga8 ZR HQ hlo8 hS
      refine rd1 (rs := [3]) (h := ?_)
      refine cs1 (h := fun K hK => ?_) (hs := ?_)
      ·skip
       have hpre := hid (show wr.heap.size ≤ Wm.heap.size from HQ.out.size)
       have hpl8 := hid ZR.out.lt
       go_simp
       refine (rstepR (o := (3, (c : Int), 1)) _ (RR.out.rcr.step HQ.out) HE.out).mono ?_
       rintro e wpl ⟨a9, es9, rfl, hq9, hn9, hr9, hb⟩
       replace ZR := hid (ZR.out.step hb); replace HQ := hid (below_then HQ.out hb)
       clear hb
       have RQ := hid hq9
       have RN := hid hn9
       have RS := hid (hr9.mono (q := fun i => i < wr.heap.size) (fun i hi => by have := HQ.out.size; have := hpre.out; have := hpl8.out; have := hlo8.out; have := ZR.out.lt; (try dsimp only at hi ⊢); omega))
       have RT := hid (hr9.mono (q := fun i => i < wr.heap.size ∨ i = ga8) (fun i hi => by have := HQ.out.size; have := hpre.out; have := hpl8.out; have := hlo8.out; have := ZR.out.lt; (try dsimp only at hi ⊢); omega))
       clear hr9 hq9 hn9
       go_wp2_with fail
       clear hpre hpl8
       refine hK.out _ _ (hKP.out _ HQ.out) (fun hS' => ?_)
       clear hK K hS
       have hS := hS'
       clear hS'
       (try simp only [Act.put, List.setIfInBounds_toArray, List.set_cons_zero, List.set_cons_succ])
       refine tk1 (i := 4) (v := ?_) (hy := Or.inl ⟨by rfl, ?_⟩) (hS := hS) (h := ?_)
       rotate_left
       · intro w' hSw; (try dsimp only at hSw); go_split_ands; go_simp; (try with_reducible rfl)
       (try simp only [Act.put, List.setIfInBounds_toArray, List.set_cons_zero, List.set_cons_succ])
       refine tk1 (i := 5) (v := ?_) (hy := Or.inl ⟨by rfl, ?_⟩) (hS := hS) (h := ?_)
       rotate_left
       · intro w' hSw; (try dsimp only at hSw); go_split_ands; go_simp; (try with_reducible rfl)
       (try simp only [Act.put, List.setIfInBounds_toArray, List.set_cons_zero, List.set_cons_succ])
       refine tk1 (i := 6) (v := ?_) (hy := Or.inl ⟨by rfl, ?_⟩) (hS := hS) (h := ?_)
       rotate_left
       · intro w' hSw; (try dsimp only at hSw); go_split_ands; go_simp; (try with_reducible rfl)
       (try simp only [Act.put, List.setIfInBounds_toArray, List.set_cons_zero, List.set_cons_succ])
       refine tk1 (i := 7) (v := ?_) (hy := Or.inl ⟨by rfl, ?_⟩) (hS := hS) (h := ?_)
       rotate_left
       · intro w' hSw; (try dsimp only at hSw); go_split_ands; go_simp; (try with_reducible rfl)
       (try simp only [Act.put, List.setIfInBounds_toArray, List.set_cons_zero, List.set_cons_succ])
       revert hS; revert hlo8; revert RT; revert RN; revert RQ; revert HQ; revert ZR; revert RS; revert ga8; revert es9; revert a9; revert wpl
       exact K0.out
      exact AllReadyH.nil
     ·skip
      intro Wm a9 es9 ga8 RS ZR HQ RQ RN RT hlo8 hS
      refine rd1 (rs := [9]) (h := ?_)
      refine cs1 (h := fun K hK => ?_) (hs := ?_)
      ·skip
       have hpre := hid (show wr.heap.size ≤ Wm.heap.size from HQ.out.size)
       obtain ⟨y00, y01, y02, y03, y04, y05, y06, y07, yf0⟩ := ZR.out.cells8
       go_simp
       clear y00 y01 y02 y03 y04 y05 y06 y07 yf0
       refine named_store_8_8_0 ZR.out ?_
       intro Ws9 hbk hgr hsz
       clear hsz
       replace HQ := hid (HQ.out.grown hgr HQ.out.size (fun r e => by cases e; have := HQ.out.size; have := hlo8.out; have := ZR.out.lt; omega))
       replace RS := hid ((RT.out.turn hgr (.inr rfl)).mono (fun i hi => .inl hi))
       clear RT
       replace ZR := hid hbk
       clear hbk hgr hpre
       refine hK.out _ _ (hKP.out _ HQ.out) (fun hS' => ?_)
       clear hK K hS
       have hS := hS'
       clear hS'
       (try simp only [Act.put, List.setIfInBounds_toArray, List.set_cons_zero, List.set_cons_succ])
       refine tk1 (i := 10) (v := ?_) (hy := Or.inl ⟨by rfl, ?_⟩) (hS := hS) (h := ?_)
       rotate_left
       · intro w' hSw; (try dsimp only at hSw); go_split_ands; go_simp; (try with_reducible rfl)
       (try simp only [Act.put, List.setIfInBounds_toArray, List.set_cons_zero, List.set_cons_succ])
       refine tk1 (i := 11) (v := ?_) (hy := Or.inl ⟨by rfl, ?_⟩) (hS := hS) (h := ?_)
       rotate_left
       · intro w' hSw; (try dsimp only at hSw); go_split_ands; go_simp; (try with_reducible rfl)
       (try simp only [Act.put, List.setIfInBounds_toArray, List.set_cons_zero, List.set_cons_succ])
       refine wpAnyH_done (by kernel_rfl) ?_ _
       refine NoPanic.normal ?_
       clear hS
       replace P5 := hid (P5.out.step HQ.out); replace RR := hid (RR.out.step HQ.out); replace HB := hid (below_then HB.out HQ.out)
       clear HQ HE
       have hak : (2147483643 : Int) ≤ g'.ak := by
         have h1 := HF.out.good.1.2.1.2.2.2.1; have h2 := HGN.out
         unfold gNext at h2
         split at h1 <;> split at h2 <;> first | omega | (rename_i h3 h4; exact absurd h3 (by simp_all))
       obtain ⟨y00, y01, y02, y03, y04, y05, y06, y07, yf0⟩ := P5.out.cells8
       go_wp2_with fail
       go_ret
       exact ⟨rfl, HB.out⟩
      exact AllReadyH.nil
    ·skip
     have HE := hid (HRC.out.trans h.2.2); have HGN := hid h.1; have HOP := hid h.2.2
     have HLW := hid (show w2.heap.size < wr.heap.size from P5.out.lt); have HLO := hid HLW2.out
     clear h HRC HCC
     go_upto_region 10 with fail
     have HQ := hid (Below.refl wr.heap.size wr)
     have hKP := hid (show ∀ W' : World, Below wr.heap.size wr W' → (fun W' : World => W'.cell? ⟨w2.heap.size, 0, none⟩ = some (.int .i64 s'.1) ∧ W'.cell? ⟨w2.heap.size, 1, none⟩ = some (.slice a'.A a'.n a'.k) ∧ W'.cell? ⟨w2.heap.size, 2, none⟩ = some (.slice a'.B a'.m a'.d) ∧ W'.cell? ⟨w2.heap.size, 3, none⟩ = some (.int .i64 g'.dn) ∧ W'.cell? ⟨w2.heap.size, 4, none⟩ = some (.int .i64 g'.ak) ∧ W'.cell? ⟨w2.heap.size, 5, none⟩ = some (.bool g'.on) ∧ W'.cell? ⟨w2.heap.size, 6, none⟩ = some (.slice a'.D g'.nd.length a'.kd) ∧ W'.cell? ⟨w2.heap.size, 7, none⟩ = some (.slice a'.Q a'.nq a'.kq)) W' from fun W' hb => ⟨(P5.out.step hb).cells8.1, (P5.out.step hb).cells8.2.1, (P5.out.step hb).cells8.2.2.1, (P5.out.step hb).cells8.2.2.2.1, (P5.out.step hb).cells8.2.2.2.2.1, (P5.out.step hb).cells8.2.2.2.2.2.1, (P5.out.step hb).cells8.2.2.2.2.2.2.1, (P5.out.step hb).cells8.2.2.2.2.2.2.2.1⟩)
     refine' merge_by (fun K0 => ?_) ?_
     rotate_left
     refine' merge_by (fun K1 => ?_) ?_
     rotate_left
     ·skip
      have bx := (Below.refl wr.heap.size wr).drew
      replace HQ := hid (below_then HQ.out bx)
      clear bx
      refine wp_region_noPanic ?_
      refine wp_region_held_drew (S := (fun W' : World => W'.cell? ⟨w2.heap.size, 0, none⟩ = some (.int .i64 s'.1) ∧ W'.cell? ⟨w2.heap.size, 1, none⟩ = some (.slice a'.A a'.n a'.k) ∧ W'.cell? ⟨w2.heap.size, 2, none⟩ = some (.slice a'.B a'.m a'.d) ∧ W'.cell? ⟨w2.heap.size, 3, none⟩ = some (.int .i64 g'.dn) ∧ W'.cell? ⟨w2.heap.size, 4, none⟩ = some (.int .i64 g'.ak) ∧ W'.cell? ⟨w2.heap.size, 5, none⟩ = some (.bool g'.on) ∧ W'.cell? ⟨w2.heap.size, 6, none⟩ = some (.slice a'.D g'.nd.length a'.kd) ∧ W'.cell? ⟨w2.heap.size, 7, none⟩ = some (.slice a'.Q a'.nq a'.kq))) (by kernel_rfl) (hKP.out _ HQ.out) (fun hS => ?_)
      generalize wr.drew = Wd at *
      refine tk1 (i := 0) (v := ?_) (hy := Or.inl ⟨by rfl, ?_⟩) (hS := hS) (h := ?_)
      rotate_left
      · intro w' hSw; (try dsimp only at hSw); go_split_ands; go_simp; (try with_reducible rfl)
      (try simp only [Act.put, List.setIfInBounds_toArray, List.set_cons_zero, List.set_cons_succ])
      refine tk1 (i := 1) (v := ?_) (hy := Or.inl ⟨by rfl, ?_⟩) (hS := hS) (h := ?_)
      rotate_left
      · intro w' hSw; (try dsimp only at hSw); go_split_ands; go_simp; (try with_reducible rfl)
      (try simp only [Act.put, List.setIfInBounds_toArray, List.set_cons_zero, List.set_cons_succ])
      refine rd1 (rs := [2, 8]) (h := ?_)
      refine cs1 (h := fun K hK => ?_) (hs := ?_)
      ·skip
       have hpre := hid (show wr.heap.size ≤ Wd.heap.size from HQ.out.size)
       go_simp
       refine (op_any 3 c 1 _).mono ?_
       rintro e wp2 ⟨rfl, hb⟩
       replace HQ := hid (below_then HQ.out hb)
       clear hb
       go_wp2_with fail
       clear hpre
       refine hK.out _ _ (hKP.out _ HQ.out) (fun hS' => ?_)
       clear hK K hS
       have hS := hS'
       clear hS'
       (try simp only [Act.put, List.setIfInBounds_toArray, List.set_cons_zero, List.set_cons_succ])
       refine rd1 (rs := [3, 8]) (h := ?_)
       refine cs1 (h := fun K hK => ?_) (hs := ?_)
       ·skip
        have hpre := hid (show wr.heap.size ≤ wp2.heap.size from HQ.out.size)
        go_simp
        refine (rstepR (o := (3, (c : Int), 1)) _ (RR.out.rcr.step HQ.out) HE.out).mono ?_
        rintro e wpl ⟨a9, es9, rfl, hq9, hn9, hr9, hb⟩
        replace HQ := hid (below_then HQ.out hb)
        clear hb
        have RQ := hid hq9
        have RN := hid hn9
        have RS := hid (hr9.mono (q := fun i => i < wr.heap.size) (fun i hi => by have := HQ.out.size; have := hpre.out; (try dsimp only at hi ⊢); omega))
        clear hr9 hq9 hn9
        go_wp2_with fail
        clear hpre
        refine hK.out _ _ (hKP.out _ HQ.out) (fun hS' => ?_)
        clear hK K hS
        have hS := hS'
        clear hS'
        (try simp only [Act.put, List.setIfInBounds_toArray, List.set_cons_zero, List.set_cons_succ])
        refine tk1 (i := 4) (v := ?_) (hy := Or.inl ⟨by rfl, ?_⟩) (hS := hS) (h := ?_)
        rotate_left
        · intro w' hSw; (try dsimp only at hSw); go_split_ands; go_simp; (try with_reducible rfl)
        (try simp only [Act.put, List.setIfInBounds_toArray, List.set_cons_zero, List.set_cons_succ])
        refine tk1 (i := 5) (v := ?_) (hy := Or.inl ⟨by rfl, ?_⟩) (hS := hS) (h := ?_)
        rotate_left
        · intro w' hSw; (try dsimp only at hSw); go_split_ands; go_simp; (try with_reducible rfl)
        (try simp only [Act.put, List.setIfInBounds_toArray, List.set_cons_zero, List.set_cons_succ])
        refine tk1 (i := 6) (v := ?_) (hy := Or.inl ⟨by rfl, ?_⟩) (hS := hS) (h := ?_)
        rotate_left
        · intro w' hSw; (try dsimp only at hSw); go_split_ands; go_simp; (try with_reducible rfl)
        (try simp only [Act.put, List.setIfInBounds_toArray, List.set_cons_zero, List.set_cons_succ])
        refine tk1 (i := 7) (v := ?_) (hy := Or.inl ⟨by rfl, ?_⟩) (hS := hS) (h := ?_)
        rotate_left
        · intro w' hSw; (try dsimp only at hSw); go_split_ands; go_simp; (try with_reducible rfl)
        (try simp only [Act.put, List.setIfInBounds_toArray, List.set_cons_zero, List.set_cons_succ])
        refine rd1 (rs := [8]) (h := ?_)
        refine cs1 (h := fun K hK => ?_) (hs := ?_)
        ·skip
         have hpre := hid (show wr.heap.size ≤ wpl.heap.size from HQ.out.size)
         go_simp
         refine named_alloc ?_
         intro Wa8 hbk hb hsz
         have RT := hid ((RS.out.fresh.mono (q := fun i => i < wr.heap.size ∨ i = wpl.heap.size) (fun i hi => by (try dsimp only at hi ⊢); omega)).step hb)
         replace RS := hid (RS.out.step hb); replace HQ := hid (below_then HQ.out hb)
         obtain ⟨ga8, hga⟩ : ∃ g, g = wpl.heap.size := ⟨_, rfl⟩
         rw [← hga] at hbk ⊢
         rw [← hga] at RT
         have hlo8 := hid (show wr.heap.size ≤ ga8 by have := hpre.out; omega)
         have ZR := hid hbk
         clear hb hbk hsz hga hpre
         refine hK.out _ _ (hKP.out _ HQ.out) (fun hS' => ?_)
         clear hK K hS
         have hS := hS'
         clear hS'
         (try simp only [Act.put, List.setIfInBounds_toArray, List.set_cons_zero, List.set_cons_succ])
         revert hS; revert hlo8; revert RT; revert RN; revert RQ; revert HQ; revert ZR; revert RS; revert ga8; revert es9; revert a9; revert Wa8
         exact K0.out
        exact AllReadyH.nil
       refine cs1 (h := fun K hK => ?_) (hs := ?_)
       ·skip
        have hpre := hid (show wr.heap.size ≤ wp2.heap.size from HQ.out.size)
        go_simp
        refine named_alloc ?_
        intro Wa8 hbk hb hsz
        skip
        replace HQ := hid (below_then HQ.out hb)
        obtain ⟨ga8, hga⟩ : ∃ g, g = wp2.heap.size := ⟨_, rfl⟩
        rw [← hga] at hbk ⊢
        have hlo8 := hid (show wr.heap.size ≤ ga8 by have := hpre.out; omega)
        have ZR := hid hbk
        clear hb hbk hsz hga hpre
        refine hK.out _ _ (hKP.out _ HQ.out) (fun hS' => ?_)
        clear hK K hS
        have hS := hS'
        clear hS'
        (try simp only [Act.put, List.setIfInBounds_toArray, List.set_cons_zero, List.set_cons_succ])
        revert hS; revert hlo8; revert HQ; revert ZR; revert ga8; revert Wa8
        exact K1.out
       exact AllReadyH.nil
      refine cs1 (h := fun K hK => ?_) (hs := ?_)
      ·skip
       have hpre := hid (show wr.heap.size ≤ Wd.heap.size from HQ.out.size)
       go_simp
       refine named_alloc ?_
       intro Wa8 hbk hb hsz
       skip
       replace HQ := hid (below_then HQ.out hb)
       obtain ⟨ga8, hga⟩ : ∃ g, g = Wd.heap.size := ⟨_, rfl⟩
       rw [← hga] at hbk ⊢
       have hlo8 := hid (show wr.heap.size ≤ ga8 by have := hpre.out; omega)
       have ZR := hid hbk
       clear hb hbk hsz hga hpre
       refine hK.out _ _ (hKP.out _ HQ.out) (fun hS' => ?_)
       clear hK K hS
       have hS := hS'
       clear hS'
       (try simp only [Act.put, List.setIfInBounds_toArray, List.set_cons_zero, List.set_cons_succ])
       refine rd1 (rs := [2]) (h := ?_)
       refine cs1 (h := fun K hK => ?_) (hs := ?_)
       ·skip
        have hpre := hid (show wr.heap.size ≤ Wa8.heap.size from HQ.out.size)
        have hpl8 := hid ZR.out.lt
        go_simp
        refine (op_any 3 c 1 _).mono ?_
        rintro e wp2 ⟨rfl, hb⟩
        replace ZR := hid (ZR.out.step hb); replace HQ := hid (below_then HQ.out hb)
        clear hb
        go_wp2_with fail
        clear hpre hpl8
        refine hK.out _ _ (hKP.out _ HQ.out) (fun hS' => ?_)
        clear hK K hS
        have hS := hS'
        clear hS'
        (try simp only [Act.put, List.setIfInBounds_toArray, List.set_cons_zero, List.set_cons_succ])
        revert hS; revert hlo8; revert HQ; revert ZR; revert ga8; revert wp2
        exact K1.out
       exact AllReadyH.nil
      exact AllReadyH.nil
     ·skip
      intro Wm ga8 ZR HQ hlo8 hS
      refine rd1 (rs := [3]) (h := ?_)
      refine cs1 (h := fun K hK => ?_) (hs := ?_)
      ·skip
       have hpre := hid (show wr.heap.size ≤ Wm.heap.size from HQ.out.size)
       have hpl8 := hid ZR.out.lt
       go_simp
       refine (rstepR (o := (3, (c : Int), 1)) _ (RR.out.rcr.step HQ.out) HE.out).mono ?_
       rintro e wpl ⟨a9, es9, rfl, hq9, hn9, hr9, hb⟩
       replace ZR := hid (ZR.out.step hb); replace HQ := hid (below_then HQ.out hb)
       clear hb
       have RQ := hid hq9
       have RN := hid hn9
       have RS := hid (hr9.mono (q := fun i => i < wr.heap.size) (fun i hi => by have := HQ.out.size; have := hpre.out; have := hpl8.out; have := hlo8.out; have := ZR.out.lt; (try dsimp only at hi ⊢); omega))
       have RT := hid (hr9.mono (q := fun i => i < wr.heap.size ∨ i = ga8) (fun i hi => by have := HQ.out.size; have := hpre.out; have := hpl8.out; have := hlo8.out; have := ZR.out.lt; (try dsimp only at hi ⊢); omega))
       clear hr9 hq9 hn9
       go_wp2_with fail
       clear hpre hpl8
       refine hK.out _ _ (hKP.out _ HQ.out) (fun hS' => ?_)
       clear hK K hS
       have hS := hS'
       clear hS'
       (try simp only [Act.put, List.setIfInBounds_toArray, List.set_cons_zero, List.set_cons_succ])
       refine tk1 (i := 4) (v := ?_) (hy := Or.inl ⟨by rfl, ?_⟩) (hS := hS) (h := ?_)
       rotate_left
       · intro w' hSw; (try dsimp only at hSw); go_split_ands; go_simp; (try with_reducible rfl)
       (try simp only [Act.put, List.setIfInBounds_toArray, List.set_cons_zero, List.set_cons_succ])
       refine tk1 (i := 5) (v := ?_) (hy := Or.inl ⟨by rfl, ?_⟩) (hS := hS) (h := ?_)
       rotate_left
       · intro w' hSw; (try dsimp only at hSw); go_split_ands; go_simp; (try with_reducible rfl)
       (try simp only [Act.put, List.setIfInBounds_toArray, List.set_cons_zero, List.set_cons_succ])
       refine tk1 (i := 6) (v := ?_) (hy := Or.inl ⟨by rfl, ?_⟩) (hS := hS) (h := ?_)
       rotate_left
       · intro w' hSw; (try dsimp only at hSw); go_split_ands; go_simp; (try with_reducible rfl)
       (try simp only [Act.put, List.setIfInBounds_toArray, List.set_cons_zero, List.set_cons_succ])
       refine tk1 (i := 7) (v := ?_) (hy := Or.inl ⟨by rfl, ?_⟩) (hS := hS) (h := ?_)
       rotate_left
       · intro w' hSw; (try dsimp only at hSw); go_split_ands; go_simp; (try with_reducible rfl)
       (try simp only [Act.put, List.setIfInBounds_toArray, List.set_cons_zero, List.set_cons_succ])
       revert hS; revert hlo8; revert RT; revert RN; revert RQ; revert HQ; revert ZR; revert RS; revert ga8; revert es9; revert a9; revert wpl
       exact K0.out
      exact AllReadyH.nil
     ·skip
      intro Wm a9 es9 ga8 RS ZR HQ RQ RN RT hlo8 hS
      refine rd1 (rs := [9]) (h := ?_)
      refine cs1 (h := fun K hK => ?_) (hs := ?_)
      ·skip
       have hpre := hid (show wr.heap.size ≤ Wm.heap.size from HQ.out.size)
       obtain ⟨y00, y01, y02, y03, y04, y05, y06, y07, yf0⟩ := ZR.out.cells8
       go_simp
       clear y00 y01 y02 y03 y04 y05 y06 y07 yf0
       refine named_store_8_8_0 ZR.out ?_
       intro Ws9 hbk hgr hsz
       clear hsz
       replace HQ := hid (HQ.out.grown hgr HQ.out.size (fun r e => by cases e; have := HQ.out.size; have := hlo8.out; have := ZR.out.lt; omega))
       replace RS := hid ((RT.out.turn hgr (.inr rfl)).mono (fun i hi => .inl hi))
       clear RT
       replace ZR := hid hbk
       clear hbk hgr hpre
       refine hK.out _ _ (hKP.out _ HQ.out) (fun hS' => ?_)
       clear hK K hS
       have hS := hS'
       clear hS'
       (try simp only [Act.put, List.setIfInBounds_toArray, List.set_cons_zero, List.set_cons_succ])
       refine tk1 (i := 10) (v := ?_) (hy := Or.inl ⟨by rfl, ?_⟩) (hS := hS) (h := ?_)
       rotate_left
       · intro w' hSw; (try dsimp only at hSw); go_split_ands; go_simp; (try with_reducible rfl)
       (try simp only [Act.put, List.setIfInBounds_toArray, List.set_cons_zero, List.set_cons_succ])
       refine tk1 (i := 11) (v := ?_) (hy := Or.inl ⟨by rfl, ?_⟩) (hS := hS) (h := ?_)
       rotate_left
       · intro w' hSw; (try dsimp only at hSw); go_split_ands; go_simp; (try with_reducible rfl)
       (try simp only [Act.put, List.setIfInBounds_toArray, List.set_cons_zero, List.set_cons_succ])
       refine wpAnyH_done (by kernel_rfl) ?_ _
       refine NoPanic.normal ?_
       clear hS
       replace P5 := hid (P5.out.step HQ.out); replace RR := hid (RR.out.step HQ.out); replace HB := hid (below_then HB.out HQ.out)
       clear HQ HE
       obtain ⟨y00, y01, y02, y03, y04, y05, y06, y07, yf0⟩ := ZR.out.cells8
       obtain ⟨y10, y11, y12, y13, y14, y15, y16, y17, yf1⟩ := P5.out.cells8
       go_wp2_with fail
       have hbk0 : Blk (Ws9.setCell ⟨w2.heap.size, 0, none⟩ (.int .i64 s'.1)) (w2.heap.size) 30 #[.int .i64 s'.1, .slice a'.A a'.n a'.k, .slice a'.B a'.m a'.d, .int .i64 g'.dn, .int .i64 g'.ak, .bool g'.on, .slice a'.D g'.nd.length a'.kd, .slice a'.Q a'.nq a'.kq] := P5.out.setCell 0 (.int .i64 s'.1)
       have hbk1 : Blk ((Ws9.setCell ⟨w2.heap.size, 0, none⟩ (.int .i64 s'.1)).setCell ⟨w2.heap.size, 1, none⟩ (.slice a9.A a9.n a9.k)) (w2.heap.size) 30 #[.int .i64 s'.1, .slice a9.A a9.n a9.k, .slice a'.B a'.m a'.d, .int .i64 g'.dn, .int .i64 g'.ak, .bool g'.on, .slice a'.D g'.nd.length a'.kd, .slice a'.Q a'.nq a'.kq] := hbk0.setCell 1 (.slice a9.A a9.n a9.k)
       have hbk2 : Blk (((Ws9.setCell ⟨w2.heap.size, 0, none⟩ (.int .i64 s'.1)).setCell ⟨w2.heap.size, 1, none⟩ (.slice a9.A a9.n a9.k)).setCell ⟨w2.heap.size, 2, none⟩ (.slice a9.B a9.m a9.d)) (w2.heap.size) 30 #[.int .i64 s'.1, .slice a9.A a9.n a9.k, .slice a9.B a9.m a9.d, .int .i64 g'.dn, .int .i64 g'.ak, .bool g'.on, .slice a'.D g'.nd.length a'.kd, .slice a'.Q a'.nq a'.kq] := hbk1.setCell 2 (.slice a9.B a9.m a9.d)
       have hbk3 : Blk ((((Ws9.setCell ⟨w2.heap.size, 0, none⟩ (.int .i64 s'.1)).setCell ⟨w2.heap.size, 1, none⟩ (.slice a9.A a9.n a9.k)).setCell ⟨w2.heap.size, 2, none⟩ (.slice a9.B a9.m a9.d)).setCell ⟨w2.heap.size, 3, none⟩ (.int .i64 (gAsk g').dn)) (w2.heap.size) 30 #[.int .i64 s'.1, .slice a9.A a9.n a9.k, .slice a9.B a9.m a9.d, .int .i64 (gAsk g').dn, .int .i64 g'.ak, .bool g'.on, .slice a'.D g'.nd.length a'.kd, .slice a'.Q a'.nq a'.kq] := hbk2.setCell 3 (.int .i64 (gAsk g').dn)
       have hbk4 : Blk (((((Ws9.setCell ⟨w2.heap.size, 0, none⟩ (.int .i64 s'.1)).setCell ⟨w2.heap.size, 1, none⟩ (.slice a9.A a9.n a9.k)).setCell ⟨w2.heap.size, 2, none⟩ (.slice a9.B a9.m a9.d)).setCell ⟨w2.heap.size, 3, none⟩ (.int .i64 (gAsk g').dn)).setCell ⟨w2.heap.size, 4, none⟩ (.int .i64 (gAsk g').ak)) (w2.heap.size) 30 #[.int .i64 s'.1, .slice a9.A a9.n a9.k, .slice a9.B a9.m a9.d, .int .i64 (gAsk g').dn, .int .i64 (gAsk g').ak, .bool g'.on, .slice a'.D g'.nd.length a'.kd, .slice a'.Q a'.nq a'.kq] := hbk3.setCell 4 (.int .i64 (gAsk g').ak)
       have hbk5 : Blk ((((((Ws9.setCell ⟨w2.heap.size, 0, none⟩ (.int .i64 s'.1)).setCell ⟨w2.heap.size, 1, none⟩ (.slice a9.A a9.n a9.k)).setCell ⟨w2.heap.size, 2, none⟩ (.slice a9.B a9.m a9.d)).setCell ⟨w2.heap.size, 3, none⟩ (.int .i64 (gAsk g').dn)).setCell ⟨w2.heap.size, 4, none⟩ (.int .i64 (gAsk g').ak)).setCell ⟨w2.heap.size, 5, none⟩ (.bool (gAsk g').on)) (w2.heap.size) 30 #[.int .i64 s'.1, .slice a9.A a9.n a9.k, .slice a9.B a9.m a9.d, .int .i64 (gAsk g').dn, .int .i64 (gAsk g').ak, .bool (gAsk g').on, .slice a'.D g'.nd.length a'.kd, .slice a'.Q a'.nq a'.kq] := hbk4.setCell 5 (.bool (gAsk g').on)
       have hbk6 : Blk (((((((Ws9.setCell ⟨w2.heap.size, 0, none⟩ (.int .i64 s'.1)).setCell ⟨w2.heap.size, 1, none⟩ (.slice a9.A a9.n a9.k)).setCell ⟨w2.heap.size, 2, none⟩ (.slice a9.B a9.m a9.d)).setCell ⟨w2.heap.size, 3, none⟩ (.int .i64 (gAsk g').dn)).setCell ⟨w2.heap.size, 4, none⟩ (.int .i64 (gAsk g').ak)).setCell ⟨w2.heap.size, 5, none⟩ (.bool (gAsk g').on)).setCell ⟨w2.heap.size, 6, none⟩ (.slice a9.D (gAsk g').nd.length a9.kd)) (w2.heap.size) 30 #[.int .i64 s'.1, .slice a9.A a9.n a9.k, .slice a9.B a9.m a9.d, .int .i64 (gAsk g').dn, .int .i64 (gAsk g').ak, .bool (gAsk g').on, .slice a9.D (gAsk g').nd.length a9.kd, .slice a'.Q a'.nq a'.kq] := hbk5.setCell 6 (.slice a9.D (gAsk g').nd.length a9.kd)
       have hbk7 : Blk ((((((((Ws9.setCell ⟨w2.heap.size, 0, none⟩ (.int .i64 s'.1)).setCell ⟨w2.heap.size, 1, none⟩ (.slice a9.A a9.n a9.k)).setCell ⟨w2.heap.size, 2, none⟩ (.slice a9.B a9.m a9.d)).setCell ⟨w2.heap.size, 3, none⟩ (.int .i64 (gAsk g').dn)).setCell ⟨w2.heap.size, 4, none⟩ (.int .i64 (gAsk g').ak)).setCell ⟨w2.heap.size, 5, none⟩ (.bool (gAsk g').on)).setCell ⟨w2.heap.size, 6, none⟩ (.slice a9.D (gAsk g').nd.length a9.kd)).setCell ⟨w2.heap.size, 7, none⟩ (.slice a9.Q a9.nq a9.kq)) (w2.heap.size) 30 #[.int .i64 s'.1, .slice a9.A a9.n a9.k, .slice a9.B a9.m a9.d, .int .i64 (gAsk g').dn, .int .i64 (gAsk g').ak, .bool (gAsk g').on, .slice a9.D (gAsk g').nd.length a9.kd, .slice a9.Q a9.nq a9.kq] := hbk6.setCell 7 (.slice a9.Q a9.nq a9.kq)
       have hgr : Ws9.grownBy ((((((((Ws9.setCell ⟨w2.heap.size, 0, none⟩ (.int .i64 s'.1)).setCell ⟨w2.heap.size, 1, none⟩ (.slice a9.A a9.n a9.k)).setCell ⟨w2.heap.size, 2, none⟩ (.slice a9.B a9.m a9.d)).setCell ⟨w2.heap.size, 3, none⟩ (.int .i64 (gAsk g').dn)).setCell ⟨w2.heap.size, 4, none⟩ (.int .i64 (gAsk g').ak)).setCell ⟨w2.heap.size, 5, none⟩ (.bool (gAsk g').on)).setCell ⟨w2.heap.size, 6, none⟩ (.slice a9.D (gAsk g').nd.length a9.kd)).setCell ⟨w2.heap.size, 7, none⟩ (.slice a9.Q a9.nq a9.kq)) (some (w2.heap.size)) := (grown_set (grown_set (grown_set (grown_set (grown_set (grown_set (grown_set (grown_set (World.grownBy.refl Ws9 (some (w2.heap.size))) 0 (.int .i64 s'.1)) 1 (.slice a9.A a9.n a9.k)) 2 (.slice a9.B a9.m a9.d)) 3 (.int .i64 (gAsk g').dn)) 4 (.int .i64 (gAsk g').ak)) 5 (.bool (gAsk g').on)) 6 (.slice a9.D (gAsk g').nd.length a9.kd)) 7 (.slice a9.Q a9.nq a9.kq))
       replace P5 := hid hbk7
       clear hbk0 hbk1 hbk2 hbk3 hbk4 hbk5 hbk6 hbk7
       generalize (((((((Ws9.setCell ⟨w2.heap.size, 0, none⟩ (.int .i64 s'.1)).setCell ⟨w2.heap.size, 1, none⟩ (.slice a9.A a9.n a9.k)).setCell ⟨w2.heap.size, 2, none⟩ (.slice a9.B a9.m a9.d)).setCell ⟨w2.heap.size, 3, none⟩ (.int .i64 (gAsk g').dn)).setCell ⟨w2.heap.size, 4, none⟩ (.int .i64 (gAsk g').ak)).setCell ⟨w2.heap.size, 5, none⟩ (.bool (gAsk g').on)).setCell ⟨w2.heap.size, 6, none⟩ (.slice a9.D (gAsk g').nd.length a9.kd)).setCell ⟨w2.heap.size, 7, none⟩ (.slice a9.Q a9.nq a9.kq) = Wf at *
       have RF := hid ((RS.out.turn hgr HLW.out).mono (q := fun i => i = w2.heap.size) (fun i hi => by subst hi; exact HLW.out))
       have HBF := hid (HB.out.grown hgr HB.out.size (fun r e => by cases e; exact HLO.out))
       clear y00 y01 y02 y03 y04 y05 y06 y07 yf0 y10 y11 y12 y13 y14 y15 y16 y17 yf1 hgr
       have hgo := good_opsA (L := [(3, (c : Int), 1)]) (ran := []) HF.out.good (by rw [HOP.out])
       rw [HOP.out] at hgo
       refine ⟨⟨j + 1, s', gAsk g', es9, a9, by have := HJ.out; omega, by go_num, ⟨by rw [RQ.out]; exact hgo, ?_, ?_⟩, P5.out, RF.out, HBF.out⟩, by have := HJ.out; simp [intOf]; omega⟩
       ·have h1 := congrArg List.length RQ.out
        have h2 := HF.out.nq; have h3 := RR.out.rcr.qs.len
        rw [ql_len, List.length_set, ql_len] at h1
        rw [RN.out]; omega
       ·rw [RQ.out]
        show (((ql es').set c _)[c]?.getD ([], 0)).1.length = _
        rw [List.getElem?_set_self HC2.out]
        have := HF.out.len
        show ((qAt (ql es') c).1 ++ [(gNext g', 1)]).length = _
        rw [List.length_append]; simp only [List.length_cons, List.length_nil]; omega
      exact AllReadyH.nil
end Go.Proofs.Ytfipdoofgbjbjaa
