/- package rcu: Settle, from what its closure does; where a section is open. No condition but sizes, and that numbers are of their kinds. -/
import Derived.Test.YtfipdoofgbjbjaaRc17
import Derived.Test.YtfipdoofgbjbjaaKitA
namespace Go.Proofs.Ytfipdoofgbjbjaa
open Go.RowKit
attribute [local go_sem] Oper.semAt_some
theorem CA.rcrg {w : World} {l gc : Nat} {s : St} {g : Gr} {es : List Qe} {is what : Int} {ran : List Int} {a : Ra} {R : Option Addr} {nr kr : Nat} (h : CA w l gc s g es is what ran a R nr kr) (hg : RcGood s g (ql es)) : RcR w s g es a := by
  have h1 := hg.1.2.1.small
  have h2 := hg.1.2.1.2.1
  have h3 := hg.1.2.1.2.2.2.2.2.1
  have h4 := hg.2.1
  rw [ql_len, h.qs.len] at h4
  exact h.rcr (by omega) (by omega) (by omega)
set_option maxRecDepth 100000 in
set_option maxHeartbeats 4000000 in
theorem rsettle_from (s : St) (g : Gr) (es : List Qe) (a : Ra) (w : World) (r : Int × St × Gr × Qs × List Int) (h : RcR w s g es a) (hz : r.1 ≠ 0 → r.2 = ((0, [], []), zGr, [], [])) (hno : ¬ RcOk s g es → r = (240, (0, [], []), zGr, [], []))
    (hyes : RcOk s g es → ∀ (l gc : Nat) (es1 : List Qe) (a1 : Ra) (W : World), CA W l gc s g es1 0 0 [] a1 none 0 0 → RcGood s g (ql es1) → ql es1 = ql es →
      Calls Try.prog 35 #[ptr gc] W fun x w' => GrownP (fun i => l ≤ i) W w' ∧ ((x = .returned (.tuple #[]) ∧ RYes r l gc w') ∨ ∃ c, x = leaves c ∧ RNo r c w')) :
    Calls Try.prog 14 #[rcv s g a] w (RnPost w r) := by
  have HR := hid h; have HB := hid (Below.refl w.heap.size w); have HZR := hid hz; have HNO := hid hno; have HYES := hid hyes
  clear h hz hno hyes
  have bx := below_box w (.cells (rcells s g a) 30)
  replace HR := hid (HR.out.step bx); replace HB := hid (below_then HB.out bx)
  clear bx
  have PR := hid (Blk.new w 30 (rcells s g a))
  have bx := below_box (w.alloc (.cells (rcells s g a) 30)) (.cells #[.int .i64 0, .slice none 0 0, .slice none 0 0, .int .i64 0, .int .i64 0, .bool false, .slice none 0 0, .slice none 0 0] 30)
  replace HR := hid (HR.out.step bx); replace PR := hid (PR.out.step bx); replace HB := hid (below_then HB.out bx)
  clear bx
  have ZR := hid (Blk.new2 w 30 #[.int .i64 0, .slice none 0 0, .slice none 0 0, .int .i64 0, .int .i64 0, .bool false, .slice none 0 0, .slice none 0 0] (.cells (rcells s g a) 30))
  go_enter Try.func14, Try.ntmps14
  obtain ⟨y00, y01, y02, y03, y04, y05, y06, y07, yf0⟩ := PR.out.cells8
  go_wp2_with fail
  clear y00 y01 y02 y03 y04 y05 y06 y07 yf0
  have hz0 := hid (show ((w.alloc (.cells (rcells s g a) 30)).alloc (.cells #[.int .i64 0, .slice none 0 0, .slice none 0 0, .int .i64 0, .int .i64 0, .bool false, .slice none 0 0, .slice none 0 0] 30)).heap.size = w.heap.size + 2 by simp)
  generalize (w.alloc (.cells (rcells s g a) 30)).alloc (.cells #[.int .i64 0, .slice none 0 0, .slice none 0 0, .int .i64 0, .int .i64 0, .bool false, .slice none 0 0, .slice none 0 0] 30) = w1 at *
  refine (rtries_any s g es a 35 #[] (fun _ => False) (RYes r) (RNo r) w1 (fun _ h => h.elim) HR.out (enters_of Try.func35 (by kernel_rfl) rfl) ?_ ?_ ?_ ?_).mono ?_
  ·intro hn W _
   rw [HNO.out hn]
   exact ⟨by decide, rfl⟩
  ·intro hok W l gc a1 es1 hl hgc hbW hbc hrt hql
   obtain ⟨hca, hgd⟩ := tries_ca (rcOk_iff.1 hok) hbc hrt hgc hql
   refine (HYES.out hok l gc es1 a1 W hca hgd hql).mono ?_
   rintro x w2 ⟨hg2, hx⟩
   exact ⟨hg2.mono (fun i hi => .inr hi), hx⟩
  ·rintro l gb W p u ⟨hc, hba⟩ h1 h2
   exact ⟨hc, hba.setCell h2 u⟩
  ·exact fun c W W' h _ => h
  intro x w2 hx
  obtain ⟨gp, rfl, hb2, hra⟩ := triedR HZR.out hx
  clear hx
  have HRA := hid hra; have HRL := hid (show w1.heap.size ≤ gp by obtain ⟨_, _, _, _, _, _, _, _, h2⟩ := hra; exact h2.lg)
  clear hra HR PR
  replace ZR := hid (ZR.out.step hb2); replace HB := hid (below_then HB.out hb2)
  clear hb2 HZR HNO HYES
  obtain ⟨rc, ⟨rnow, rns, ros⟩, rg, rqs, ran⟩ := r
  dsimp only at HRA ⊢
  obtain ⟨b, es2, is, what, R, nr, kr, hq2, hca⟩ := HRA.out
  have HQ2 := hid hq2; have HX := hid hca.cx; have PC := hid hca.box
  clear hq2 hca HRA
  go_upto_region 2 with fail
  have HLZ := hid (show w.heap.size + 1 < w1.heap.size by have := hz0.out; omega)
  have hne := hid (show gp ≠ w.heap.size + 1 by have := HLZ.out; have := HRL.out; omega)
  have bx := (Below.refl w2.heap.size w2).drew
  replace ZR := hid (ZR.out.step bx); replace PC := hid (PC.out.step bx); replace HX := hid (HX.out.step bx); replace HB := hid (below_then HB.out bx)
  clear bx
  have hszd := hid (show w2.drew.heap.size = w2.heap.size from rfl)
  refine wp_region_noPanic ?_
  refine wp_region_held_drew (S := (fun W' : World => W'.cell? ⟨gp, 0, none⟩ = some (.int .i64 rnow) ∧ W'.cell? ⟨gp, 1, none⟩ = some (.slice b.A b.n b.k) ∧ W'.cell? ⟨gp, 2, none⟩ = some (.slice b.B b.m b.d) ∧ W'.cell? ⟨gp, 3, none⟩ = some (.int .i64 rg.dn) ∧ W'.cell? ⟨gp, 4, none⟩ = some (.int .i64 rg.ak) ∧ W'.cell? ⟨gp, 5, none⟩ = some (.bool rg.on) ∧ W'.cell? ⟨gp, 6, none⟩ = some (.slice b.D rg.nd.length b.kd) ∧ W'.cell? ⟨gp, 7, none⟩ = some (.slice b.Q b.nq b.kq) ∧ W'.cell? ⟨gp, 8, none⟩ = some (.int .i64 is) ∧ W'.cell? ⟨gp, 9, none⟩ = some (.int .u64 what) ∧ W'.cell? ⟨gp, 10, none⟩ = some (.slice R nr kr))) (by kernel_rfl) ⟨PC.out.cells11.1, PC.out.cells11.2.1, PC.out.cells11.2.2.1, PC.out.cells11.2.2.2.1, PC.out.cells11.2.2.2.2.1, PC.out.cells11.2.2.2.2.2.1, PC.out.cells11.2.2.2.2.2.2.1, PC.out.cells11.2.2.2.2.2.2.2.1, PC.out.cells11.2.2.2.2.2.2.2.2.1, PC.out.cells11.2.2.2.2.2.2.2.2.2.1, PC.out.cells11.2.2.2.2.2.2.2.2.2.2.1⟩ (fun hS => ?_)
  generalize w2.drew = Wd at *
  refine wpAnyH_take (i := 0) (v := ?_) (by simp only [List.getElem?_toArray, List.getElem?_cons_succ, List.getElem?_cons_zero]; rfl) (by kernel_rfl) (by kernel_rfl) (by kernel_rfl) (fun _ _ _ h => h) (Or.inl ⟨by rfl, ?_⟩) hS ?_
  rotate_left
  · intro w' hSw; (try dsimp only at hSw); go_split_ands; go_simp; (try with_reducible rfl)
  (try simp only [Act.put, List.setIfInBounds_toArray, List.set_cons_zero, List.set_cons_succ])
  refine wpAnyH_take (i := 1) (v := ?_) (by simp only [List.getElem?_toArray, List.getElem?_cons_succ, List.getElem?_cons_zero]; rfl) (by kernel_rfl) (by kernel_rfl) (by kernel_rfl) (fun _ _ _ h => h) (Or.inl ⟨by rfl, ?_⟩) hS ?_
  rotate_left
  · intro w' hSw; (try dsimp only at hSw); go_split_ands; go_simp; (try with_reducible rfl)
  (try simp only [Act.put, List.setIfInBounds_toArray, List.set_cons_zero, List.set_cons_succ])
  refine wpAnyH_take (i := 2) (v := ?_) (by simp only [List.getElem?_toArray, List.getElem?_cons_succ, List.getElem?_cons_zero]; rfl) (by kernel_rfl) (by kernel_rfl) (by kernel_rfl) (fun _ _ _ h => h) (Or.inl ⟨by rfl, ?_⟩) hS ?_
  rotate_left
  · intro w' hSw; (try dsimp only at hSw); go_split_ands; go_simp; (try with_reducible rfl)
  (try simp only [Act.put, List.setIfInBounds_toArray, List.set_cons_zero, List.set_cons_succ])
  refine wpAnyH_take (i := 3) (v := ?_) (by simp only [List.getElem?_toArray, List.getElem?_cons_succ, List.getElem?_cons_zero]; rfl) (by kernel_rfl) (by kernel_rfl) (by kernel_rfl) (fun _ _ _ h => h) (Or.inl ⟨by rfl, ?_⟩) hS ?_
  rotate_left
  · intro w' hSw; (try dsimp only at hSw); go_split_ands; go_simp; (try with_reducible rfl)
  (try simp only [Act.put, List.setIfInBounds_toArray, List.set_cons_zero, List.set_cons_succ])
  refine wpAnyH_take (i := 4) (v := ?_) (by simp only [List.getElem?_toArray, List.getElem?_cons_succ, List.getElem?_cons_zero]; rfl) (by kernel_rfl) (by kernel_rfl) (by kernel_rfl) (fun _ _ _ h => h) (Or.inl ⟨by rfl, ?_⟩) hS ?_
  rotate_left
  · intro w' hSw; (try dsimp only at hSw); go_split_ands; go_simp; (try with_reducible rfl)
  (try simp only [Act.put, List.setIfInBounds_toArray, List.set_cons_zero, List.set_cons_succ])
  refine wpAnyH_take (i := 5) (v := ?_) (by simp only [List.getElem?_toArray, List.getElem?_cons_succ, List.getElem?_cons_zero]; rfl) (by kernel_rfl) (by kernel_rfl) (by kernel_rfl) (fun _ _ _ h => h) (Or.inl ⟨by rfl, ?_⟩) hS ?_
  rotate_left
  · intro w' hSw; (try dsimp only at hSw); go_split_ands; go_simp; (try with_reducible rfl)
  (try simp only [Act.put, List.setIfInBounds_toArray, List.set_cons_zero, List.set_cons_succ])
  refine wpAnyH_take (i := 6) (v := ?_) (by simp only [List.getElem?_toArray, List.getElem?_cons_succ, List.getElem?_cons_zero]; rfl) (by kernel_rfl) (by kernel_rfl) (by kernel_rfl) (fun _ _ _ h => h) (Or.inl ⟨by rfl, ?_⟩) hS ?_
  rotate_left
  · intro w' hSw; (try dsimp only at hSw); go_split_ands; go_simp; (try with_reducible rfl)
  (try simp only [Act.put, List.setIfInBounds_toArray, List.set_cons_zero, List.set_cons_succ])
  refine wpAnyH_take (i := 7) (v := ?_) (by simp only [List.getElem?_toArray, List.getElem?_cons_succ, List.getElem?_cons_zero]; rfl) (by kernel_rfl) (by kernel_rfl) (by kernel_rfl) (fun _ _ _ h => h) (Or.inl ⟨by rfl, ?_⟩) hS ?_
  rotate_left
  · intro w' hSw; (try dsimp only at hSw); go_split_ands; go_simp; (try with_reducible rfl)
  (try simp only [Act.put, List.setIfInBounds_toArray, List.set_cons_zero, List.set_cons_succ])
  refine wpAnyH_take (i := 8) (v := ?_) (by simp only [List.getElem?_toArray, List.getElem?_cons_succ, List.getElem?_cons_zero]; rfl) (by kernel_rfl) (by kernel_rfl) (by kernel_rfl) (fun _ _ _ h => h) (Or.inl ⟨by rfl, ?_⟩) hS ?_
  rotate_left
  · intro w' hSw; (try dsimp only at hSw); go_split_ands; go_simp; (try with_reducible rfl)
  (try simp only [Act.put, List.setIfInBounds_toArray, List.set_cons_zero, List.set_cons_succ])
  refine wpAnyH_ready (rs := [9]) (by kernel_rfl) (by simp) ?_
  refine AllReadyH.cons (by simp only [List.getElem?_toArray, List.getElem?_cons_succ, List.getElem?_cons_zero]; rfl) (fun K hK => ?_) ?_
  · skip
    obtain ⟨y00, y01, y02, y03, y04, y05, y06, y07, yf0⟩ := ZR.out.cells8
    go_simp
    clear y00 y01 y02 y03 y04 y05 y06 y07 yf0
    refine named_store_8_8_0 ZR.out ?_
    intro Ws9 hbk hgr hsz
    have hsz0 := hid hsz
    clear hsz
    replace PC := hid (PC.out.grown hgr (by have := hne.out; simp; omega)); replace HX := hid (HX.out.low HLZ.out hgr)
    replace HB := hid (HB.out.grown hgr HB.out.size (fun r e => by cases e; omega))
    replace ZR := hid hbk
    clear hbk hgr
    refine hK.out _ _ ⟨PC.out.cells11.1, PC.out.cells11.2.1, PC.out.cells11.2.2.1, PC.out.cells11.2.2.2.1, PC.out.cells11.2.2.2.2.1, PC.out.cells11.2.2.2.2.2.1, PC.out.cells11.2.2.2.2.2.2.1, PC.out.cells11.2.2.2.2.2.2.2.1, PC.out.cells11.2.2.2.2.2.2.2.2.1, PC.out.cells11.2.2.2.2.2.2.2.2.2.1, PC.out.cells11.2.2.2.2.2.2.2.2.2.2.1⟩ (fun hS' => ?_)
    clear hK K hS
    have hS := hS'
    clear hS'
    (try simp only [Act.put, List.setIfInBounds_toArray, List.set_cons_zero, List.set_cons_succ])
    refine wpAnyH_take (i := 10) (v := ?_) (by simp only [List.getElem?_toArray, List.getElem?_cons_succ, List.getElem?_cons_zero]; rfl) (by kernel_rfl) (by kernel_rfl) (by kernel_rfl) (fun _ _ _ h => h) (Or.inl ⟨by rfl, ?_⟩) hS ?_
    rotate_left
    · intro w' hSw; (try dsimp only at hSw); go_split_ands; go_simp; (try with_reducible rfl)
    (try simp only [Act.put, List.setIfInBounds_toArray, List.set_cons_zero, List.set_cons_succ])
    refine wpAnyH_take (i := 11) (v := ?_) (by simp only [List.getElem?_toArray, List.getElem?_cons_succ, List.getElem?_cons_zero]; rfl) (by kernel_rfl) (by kernel_rfl) (by kernel_rfl) (fun _ _ _ h => h) (Or.inl ⟨by rfl, ?_⟩) hS ?_
    rotate_left
    · intro w' hSw; (try dsimp only at hSw); go_split_ands; go_simp; (try with_reducible rfl)
    (try simp only [Act.put, List.setIfInBounds_toArray, List.set_cons_zero, List.set_cons_succ])
    refine wpAnyH_done (by kernel_rfl) ?_ _
    refine NoPanic.normal ?_
    clear hS
    go_wp2
    obtain ⟨y00, y01, y02, y03, y04, y05, y06, y07, yf0⟩ := ZR.out.cells8
    refine bodyPost_ret (v := .tuple #[rcv (rnow, rns, ros) rg b, .slice R nr kr, .int .i64 rc]) (by simp [results, Try.results14, go_sem, y00, y01, y02, y03, y04, y05, y06, y07]) rfl ⟨b, R, nr, kr, rfl, ⟨es2, gp, HQ2.out, HX.out.mono (by have := HLZ.out; omega)⟩, HB.out⟩
  exact AllReadyH.nil
set_option maxRecDepth 100000 in
set_option maxHeartbeats 4000000 in
theorem rsettle1_open (l gc : Nat) (s : St) (g : Gr) (es : List Qe) (a : Ra) (w : World) (h : CA w l gc s g es 0 0 [] a none 0 0) (hg : RcGood s g (ql es)) (hq : quietB s = false) :
    Calls Try.prog 35 #[ptr gc] w fun x w' => x = leaves 241 ∧ Below w.heap.size w w' := by
  have HC := hid h; have HR := hid (h.rcrg hg); have HQ := hid hq; have HB := hid (Below.refl w.heap.size w)
  clear h hg hq
  have bx := below_box w (.cells #[ptr gc] 73)
  replace HC := hid (HC.out.step bx); replace HR := hid (HR.out.step bx); replace HB := hid (below_then HB.out bx)
  clear bx
  have PB := hid (Blk.new w 73 #[ptr gc])
  go_enter Try.func35, Try.ntmps35
  obtain ⟨y0, y1, y2, y3, y4, y5, y6, y7, y8, y9, y10, yf⟩ := HC.out.box.cells11
  obtain ⟨y00, yf0⟩ := PB.out.cells1
  go_wp2_with fail
  generalize w.alloc (.cells #[ptr gc] 73) = W0 at *
  refine wp_scope_label 0 (fun _ _ => False) (fun _ _ => 0) rfl (fun _ => ?_) (fun _ _ h => h.elim)
  go_wp2_with fail
  clear y0 y1 y2 y3 y4 y5 y6 y7 y8 y9 y10 yf y00 yf0
  refine (rquiet_any s g es a _ HR.out).mono ?_
  rintro e w1 ⟨rfl, hb⟩
  replace HC := hid (HC.out.step hb); replace HR := hid (HR.out.step hb); replace PB := hid (PB.out.step hb); replace HB := hid (below_then HB.out hb)
  clear hb
  rw [HQ.out]
  go_wp2_with fail
  refine (rneed_no 241 _).mono ?_
  rintro x v1 ⟨rfl, rfl⟩
  unfold leaves
  go_wp2_with fail
  exact ⟨rfl, rfl, HB.out⟩
theorem rsettle_open (s : St) (g : Gr) (es : List Qe) (a : Ra) (w : World) (h : RcR w s g es a) (hk : RcOk s g es) (hq : quietB s = false) :
    Calls Try.prog 14 #[rcv s g a] w (RnPost w (241, (0, [], []), zGr, [], [])) := by
  refine rsettle_from s g es a w _ h (fun _ => rfl) (fun hn => absurd hk hn) (fun _ l gc es1 a1 W hca hgd _ => ?_)
  refine (rsettle1_open l gc s g es1 a1 W hca hgd hq).mono ?_
  rintro x w' ⟨rfl, hb⟩
  exact ⟨.ofBelow hb, .inr ⟨241, rfl, by decide, rfl⟩⟩
end Go.Proofs.Ytfipdoofgbjbjaa
