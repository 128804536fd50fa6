/- package rcu: Run. No condition but sizes, and that numbers are of their kinds. -/
import Derived.Test.YtfipdoofgbjbjaaRc13
namespace Go.Proofs.Ytfipdoofgbjbjaa
open Go.RowKit
attribute [local go_sem] Oper.semAt_some
def encO (x : Int × Int × Int) (j : Nat) : Value := if j = 0 then .int .i64 x.1 else if j = 1 then .int .i64 x.2.1 else .int .u64 x.2.2
theorem drop_consO {L : List (Int × Int × Int)} {j : Nat} (h : j < L.length) : L.drop j = L[j]?.getD (0, 0, 0) :: L.drop (j + 1) := by
  rw [List.drop_eq_getElem_cons h, List.getElem?_eq_getElem h]; rfl
theorem sm_keptP {α : Type} {sz : Nat} {enc : α → Nat → Value} {d : α} {w w' : World} {lo hi n : Nat} {A : Option Addr} {xs : List α} {p : Nat → Prop} (h : Sm sz enc d w lo hi A n xs) (k : GrownP p w w') (hp : ∀ i, i < hi → ¬ p i) (hhi : hi ≤ w.heap.size) : Sm sz enc d w' lo hi A n xs :=
  h.keep fun b o _ e2 => by unfold World.cell?; rw [k.block b (by omega) (hp b e2)]
set_option maxRecDepth 100000 in
set_option maxHeartbeats 4000000 in
theorem rrun1_any (l gc bo hi : Nat) (s : St) (g : Gr) (es : List Qe) (a : Ra) (T : Option Addr) (nt kt : Nat) (L : List (Int × Int × Int)) (w : World) (h : CA w l gc s g es 0 0 [] a none 0 0) (hg : RcGood s g (ql es)) (hP : Blk w bo 47 #[.slice T nt kt])
    (hT : Sm 3 encO (0, 0, 0) w 0 hi T nt L) (hnt : nt ≤ 1000000) (hhi : hi ≤ l) :
    Calls Try.prog 34 #[ptr gc, ptr bo] w fun x w' => GrownP (fun i => l ≤ i) w w' ∧ ((x = .returned (.tuple #[]) ∧ RYes (opsA s g (ql es) [] L) l gc w') ∨ ∃ c, x = leaves c ∧ RNo (opsA s g (ql es) [] L) c w') := by
  have HC := hid h; have HG := hid hg; have HT := hid hT; have hl := hid hT.len; have HL := hid h.low; have HHI := hid hhi
  obtain ⟨y0, yf⟩ := hP.cells1
  obtain ⟨r, hr⟩ : ∃ r, r = opsA s g (ql es) [] L := ⟨_, rfl⟩
  have HRR := hid hr
  rw [← hr]
  clear h hg hT hr hhi
  go_enter Try.func34, Try.ntmps34
  go_wp2_with fail
  clear y0 yf hP
  go_loopw [4, 7] (fun _ i wr => ∃ (j : Nat) (s : St) (g' : Gr) (es' : List Qe) (is what : Int) (ran : List Int) (a : Ra) (R : Option Addr) (nr kr : Nat), j ≤ nt ∧ i = .int .i64 j ∧ r = opsA s g' (ql es') ran (L.drop j) ∧ RcGood s g' (ql es') ∧ CA wr l gc s g' es' is what ran a R nr kr ∧ nr ≤ j ∧ GrownP (fun i => l ≤ i) w wr) (fun _ i _ => nt - (intOf i).toNat)
  case atStart => exact ⟨0, s, g, es, 0, 0, [], a, none, 0, 0, Nat.zero_le _, rfl, HRR.out, HG.out, HC.out, Nat.le_refl _, GrownP.refl _ _⟩
  case round =>
    clear HC HG HRR
    obtain ⟨j, s, g', es', is, what, ran, a, R, nr, kr, hj, rfl, h1, h2, h3, h4, h5⟩ := hrel
    have HPE := hid h1; have HG := hid h2; have HC := hid h3; have HNR := hid h4; have HGP := hid h5
    clear h1 h2 h3 h4 h5
    by_cases hjn : j < nt
    rotate_left
    · obtain rfl : j = nt := by omega
      have hnn : ¬ ((j : Int) < (j : Int)) := by omega
      have hpe := HPE.out
      rw [List.drop_eq_nil_of_le (by rw [hl.out]; exact Nat.le_refl _)] at hpe
      have HPE2 := hid (show r = (0, s, g', ql es', ran) from hpe)
      clear hpe HPE
      go_wp2
      go_end0
      rw [HPE2.out]
      exact ⟨HGP.out, .inl ⟨rfl, rfl, a, es', is, what, R, nr, kr, rfl, HC.out⟩⟩
    have HTW := hid (sm_keptP HT.out HGP.out (fun i hi h => by have := HHI.out; omega) (by have := HL.out; have := HHI.out; omega))
    obtain ⟨bT, oT, rfl, _, _, hc⟩ := HTW.out.row (by omega)
    have f0 := hc j hjn 0 (by omega)
    have f1 := hc j hjn 1 (by omega)
    have f2 := hc j hjn 2 (by omega)
    obtain ⟨x, hx⟩ : ∃ x, x = L[j]?.getD (0, 0, 0) := ⟨_, rfl⟩
    rw [← hx] at f0 f1 f2
    have HPX := hid (show r = opsA s g' (ql es') ran (x :: L.drop (j + 1)) by rw [HPE.out, drop_consO (by rw [hl.out]; exact hjn), ← hx])
    clear hx hc HTW HPE
    obtain ⟨ok, oc, ow⟩ := x
    have hji : (j : Int) < (nt : Int) := by omega
    replace f0 : wr.cell? ⟨bT, oT + j * 3, none⟩ = some (.int .i64 ok) := f0
    replace f1 : wr.cell? ⟨bT, oT + j * 3 + 1, none⟩ = some (.int .i64 oc) := f1
    replace f2 : wr.cell? ⟨bT, oT + j * 3 + 2, none⟩ = some (.int .u64 ow) := f2
    have bx := below_box wr (.cells #[.int .i64 ok, .int .i64 oc, .int .u64 ow] 44)
    have PT := hid (Blk.new wr 44 #[.int .i64 ok, .int .i64 oc, .int .u64 ow])
    have HC2 := hid (HC.out.step bx)
    have HGP2 := hid (HGP.out.thenB bx HGP.out.size)
    clear bx HC HGP
    go_upto_region 3 with fail
    clear f0 f1 f2
    generalize wr.alloc (.cells #[.int .i64 ok, .int .i64 oc, .int .u64 ow] 44) = W3 at *
    obtain ⟨y00, y01, y02, yf0⟩ := PT.out.cells3
    go_wp2_with fail
    clear y00 y01 y02 yf0
    refine (rdoes_any l gc s g' es' is what ran a R nr kr (ok, oc, ow) W3 HC2.out HG.out (by have := HNR.out; omega)).mono ?_
    rintro x W4 ⟨h1, ⟨h0, rfl, hx⟩ | ⟨h0, rfl⟩⟩
    ·have HX := hid hx; have HG4 := hid (HGP2.out.trans h1)
     have HPY := hid (show r = opsA (opF s g' (ql es') (ok, oc, ow)).2.1 (opF s g' (ql es') (ok, oc, ow)).2.2.1 (opF s g' (ql es') (ok, oc, ow)).2.2.2.1 (ran ++ (opF s g' (ql es') (ok, oc, ow)).2.2.2.2) (L.drop (j + 1)) by rw [HPX.out]; exact if_pos h0)
     have HGo := hid (good_opF HG.out h0)
     clear hx h1 h0 HC2 HG HPX HGP2
     have hw1 : IntKind.i64.wrap ((j : Int) + 1) = (j : Int) + 1 := by rw [IntKind.wrap_i64]; omega
     go_wp2_with fail
     go_roundw
     case rel =>
      obtain ⟨a', es2, is', what', R', nr', kr', k1, k2, k3, k4, k5⟩ := HX.out
      exact ⟨j + 1, _, _, es2, is', what', _, a', R', nr', kr', by omega, by go_num, by rw [HPY.out, k4], by rw [k4]; exact HGo.out, k5, by have := HNR.out; omega, HG4.out⟩
     case measure => simp [intOf]; omega
    ·have HG4 := hid (HGP2.out.trans h1); have H0 := hid h0
     have HPN := hid (show r.1 = (opF s g' (ql es') (ok, oc, ow)).1 by rw [HPX.out]; unfold opsA; rw [if_neg h0])
     clear h1 h0
     unfold leaves
     go_wp2_with fail
     exact ⟨rfl, HG4.out, .inr ⟨_, rfl, H0.out, HPN.out⟩⟩
set_option maxRecDepth 100000 in
set_option maxHeartbeats 4000000 in
theorem rrunall_any (s : St) (g : Gr) (es : List Qe) (a : Ra) (T : Option Addr) (nt kt : Nat) (L : List (Int × Int × Int)) (w : World) (h : RcR w s g es a) (hT : Sm 3 encO (0, 0, 0) w 0 w.heap.size T nt L) (hnt : nt ≤ 1000000) :
    Calls Try.prog 13 #[rcv s g a, .slice T nt kt] w (RnPost w (rcA s g es L)) := by
  obtain ⟨r, hr⟩ : ∃ r, r = rcA s g es L := ⟨_, rfl⟩
  have HRR := hid hr
  have HZR := hid (show r.1 ≠ 0 → r.2 = ((0, [], []), zGr, [], []) from fun hz => by rw [hr] at hz ⊢; exact rcA_nz hz)
  rw [← hr]
  have HR := hid h; have HB := hid (Below.refl w.heap.size w); have HT := hid hT
  clear h hr hT
  have hmf : ∀ (fn : Fn) (first cap : Array Value) (w : World), (Instr.makeFunc fn first cap).run Try.prog w = .ok (.func fn first cap) w := fun _ _ _ _ => rfl
  have bx := below_box w (.cells (rcells s g a) 30)
  replace HR := hid (HR.out.step bx); replace HB := hid (below_then HB.out bx)
  clear bx
  have PR := hid (Blk.new w 30 (rcells s g a))
  have bx := below_box (w.alloc (.cells (rcells s g a) 30)) (.cells #[.slice T nt kt] 47)
  replace HR := hid (HR.out.step bx); replace PR := hid (PR.out.step bx); replace HB := hid (below_then HB.out bx)
  clear bx
  have PO := hid (Blk.new2 w 47 #[.slice T nt kt] (.cells (rcells s g a) 30))
  have bx := below_box ((w.alloc (.cells (rcells s g a) 30)).alloc (.cells #[.slice T nt kt] 47)) (.cells #[.int .i64 0, .slice none 0 0, .slice none 0 0, .int .i64 0, .int .i64 0, .bool false, .slice none 0 0, .slice none 0 0] 30)
  replace HR := hid (HR.out.step bx); replace PR := hid (PR.out.step bx); replace PO := hid (PO.out.step bx); replace HB := hid (below_then HB.out bx)
  clear bx
  have ZR := hid (Blk.new3 w 30 #[.int .i64 0, .slice none 0 0, .slice none 0 0, .int .i64 0, .int .i64 0, .bool false, .slice none 0 0, .slice none 0 0] (.cells (rcells s g a) 30) (.cells #[.slice T nt kt] 47))
  go_enter Try.func13, Try.ntmps13
  obtain ⟨y00, y01, y02, y03, y04, y05, y06, y07, yf0⟩ := PR.out.cells8
  go_wp2_with fail
  clear y00 y01 y02 y03 y04 y05 y06 y07 yf0 hmf
  have hz0 := hid (show (((w.alloc (.cells (rcells s g a) 30)).alloc (.cells #[.slice T nt kt] 47)).alloc (.cells #[.int .i64 0, .slice none 0 0, .slice none 0 0, .int .i64 0, .int .i64 0, .bool false, .slice none 0 0, .slice none 0 0] 30)).heap.size = w.heap.size + 3 by simp)
  generalize ((w.alloc (.cells (rcells s g a) 30)).alloc (.cells #[.slice T nt kt] 47)).alloc (.cells #[.int .i64 0, .slice none 0 0, .slice none 0 0, .int .i64 0, .int .i64 0, .bool false, .slice none 0 0, .slice none 0 0] 30) = w1 at *
  refine (rtries_any s g es a 34 #[ptr (w.heap.size + 1)] (fun _ => False) (RYes r) (RNo r) w1 (fun _ h => h.elim) HR.out (enters_of Try.func34 (by kernel_rfl) rfl) ?_ ?_ ?_ ?_).mono ?_
  ·intro hn W _
   have e : r = (240, (0, [], []), zGr, [], []) := by rw [HRR.out]; exact if_neg hn
   rw [e]
   exact ⟨by decide, rfl⟩
  ·intro hok W l gc a1 es1 hl hgc hbW hbc hrt hql
   obtain ⟨hca, hgd⟩ := tries_ca (rcOk_iff.1 hok) hbc hrt hgc hql
   have e : r = opsA s g (ql es1) [] L := by rw [HRR.out, hql]; exact if_pos hok
   rw [e]
   refine (rrun1_any l gc (w.heap.size + 1) w.heap.size s g es1 a1 T nt kt L W hca hgd (PO.out.step hbW) ((HT.out.below HB.out (Nat.le_refl _)).below hbW (by have := hz0.out; omega)) hnt (by have := hz0.out; omega)).mono ?_
   rintro x w2 ⟨hg2, hx⟩
   exact ⟨hg2.mono (fun i hi => .inr hi), hx⟩
  ·rintro l gb W p u ⟨hc, hba⟩ h1 h2
   exact ⟨hc, hba.setCell h2 u⟩
  ·exact fun c W W' h _ => h
  intro x w2 hx
  obtain ⟨gp, rfl, hb2, hra⟩ := triedR HZR.out hx
  clear hx
  have HRA := hid hra; have HRL := hid (show w1.heap.size ≤ gp by obtain ⟨_, _, _, _, _, _, _, _, h2⟩ := hra; exact h2.lg)
  clear hra HR PR PO HT
  replace ZR := hid (ZR.out.step hb2); replace HB := hid (below_then HB.out hb2)
  clear hb2 HRR HZR
  obtain ⟨rc, ⟨rnow, rns, ros⟩, rg, rqs, ran⟩ := r
  dsimp only at HRA ⊢
  obtain ⟨b, es2, is, what, R, nr, kr, hq2, hca⟩ := HRA.out
  have HQ2 := hid hq2; have HX := hid hca.cx; have PC := hid hca.box
  clear hq2 hca HRA
  go_upto_region 2 with fail
  have HLZ := hid (show w.heap.size + 1 + 1 < w1.heap.size by have := hz0.out; omega)
  have hne := hid (show gp ≠ w.heap.size + 1 + 1 by have := HLZ.out; have := HRL.out; omega)
  have bx := (Below.refl w2.heap.size w2).drew
  replace ZR := hid (ZR.out.step bx); replace PC := hid (PC.out.step bx); replace HX := hid (HX.out.step bx); replace HB := hid (below_then HB.out bx)
  clear bx
  have hszd := hid (show w2.drew.heap.size = w2.heap.size from rfl)
  refine wp_region_noPanic ?_
  refine wp_region_held_drew (S := (fun W' : World => W'.cell? ⟨gp, 0, none⟩ = some (.int .i64 rnow) ∧ W'.cell? ⟨gp, 1, none⟩ = some (.slice b.A b.n b.k) ∧ W'.cell? ⟨gp, 2, none⟩ = some (.slice b.B b.m b.d) ∧ W'.cell? ⟨gp, 3, none⟩ = some (.int .i64 rg.dn) ∧ W'.cell? ⟨gp, 4, none⟩ = some (.int .i64 rg.ak) ∧ W'.cell? ⟨gp, 5, none⟩ = some (.bool rg.on) ∧ W'.cell? ⟨gp, 6, none⟩ = some (.slice b.D rg.nd.length b.kd) ∧ W'.cell? ⟨gp, 7, none⟩ = some (.slice b.Q b.nq b.kq) ∧ W'.cell? ⟨gp, 8, none⟩ = some (.int .i64 is) ∧ W'.cell? ⟨gp, 9, none⟩ = some (.int .u64 what) ∧ W'.cell? ⟨gp, 10, none⟩ = some (.slice R nr kr))) (by kernel_rfl) ⟨PC.out.cells11.1, PC.out.cells11.2.1, PC.out.cells11.2.2.1, PC.out.cells11.2.2.2.1, PC.out.cells11.2.2.2.2.1, PC.out.cells11.2.2.2.2.2.1, PC.out.cells11.2.2.2.2.2.2.1, PC.out.cells11.2.2.2.2.2.2.2.1, PC.out.cells11.2.2.2.2.2.2.2.2.1, PC.out.cells11.2.2.2.2.2.2.2.2.2.1, PC.out.cells11.2.2.2.2.2.2.2.2.2.2.1⟩ (fun hS => ?_)
  generalize w2.drew = Wd at *
  refine wpAnyH_take (i := 0) (v := ?_) (by simp only [List.getElem?_toArray, List.getElem?_cons_succ, List.getElem?_cons_zero]; rfl) (by kernel_rfl) (by kernel_rfl) (by kernel_rfl) (fun _ _ _ h => h) (Or.inl ⟨by rfl, ?_⟩) hS ?_
  rotate_left
  · intro w' hSw; (try dsimp only at hSw); go_split_ands; go_simp; (try with_reducible rfl)
  (try simp only [Act.put, List.setIfInBounds_toArray, List.set_cons_zero, List.set_cons_succ])
  refine wpAnyH_take (i := 1) (v := ?_) (by simp only [List.getElem?_toArray, List.getElem?_cons_succ, List.getElem?_cons_zero]; rfl) (by kernel_rfl) (by kernel_rfl) (by kernel_rfl) (fun _ _ _ h => h) (Or.inl ⟨by rfl, ?_⟩) hS ?_
  rotate_left
  · intro w' hSw; (try dsimp only at hSw); go_split_ands; go_simp; (try with_reducible rfl)
  (try simp only [Act.put, List.setIfInBounds_toArray, List.set_cons_zero, List.set_cons_succ])
  refine wpAnyH_take (i := 2) (v := ?_) (by simp only [List.getElem?_toArray, List.getElem?_cons_succ, List.getElem?_cons_zero]; rfl) (by kernel_rfl) (by kernel_rfl) (by kernel_rfl) (fun _ _ _ h => h) (Or.inl ⟨by rfl, ?_⟩) hS ?_
  rotate_left
  · intro w' hSw; (try dsimp only at hSw); go_split_ands; go_simp; (try with_reducible rfl)
  (try simp only [Act.put, List.setIfInBounds_toArray, List.set_cons_zero, List.set_cons_succ])
  refine wpAnyH_take (i := 3) (v := ?_) (by simp only [List.getElem?_toArray, List.getElem?_cons_succ, List.getElem?_cons_zero]; rfl) (by kernel_rfl) (by kernel_rfl) (by kernel_rfl) (fun _ _ _ h => h) (Or.inl ⟨by rfl, ?_⟩) hS ?_
  rotate_left
  · intro w' hSw; (try dsimp only at hSw); go_split_ands; go_simp; (try with_reducible rfl)
  (try simp only [Act.put, List.setIfInBounds_toArray, List.set_cons_zero, List.set_cons_succ])
  refine wpAnyH_take (i := 4) (v := ?_) (by simp only [List.getElem?_toArray, List.getElem?_cons_succ, List.getElem?_cons_zero]; rfl) (by kernel_rfl) (by kernel_rfl) (by kernel_rfl) (fun _ _ _ h => h) (Or.inl ⟨by rfl, ?_⟩) hS ?_
  rotate_left
  · intro w' hSw; (try dsimp only at hSw); go_split_ands; go_simp; (try with_reducible rfl)
  (try simp only [Act.put, List.setIfInBounds_toArray, List.set_cons_zero, List.set_cons_succ])
  refine wpAnyH_take (i := 5) (v := ?_) (by simp only [List.getElem?_toArray, List.getElem?_cons_succ, List.getElem?_cons_zero]; rfl) (by kernel_rfl) (by kernel_rfl) (by kernel_rfl) (fun _ _ _ h => h) (Or.inl ⟨by rfl, ?_⟩) hS ?_
  rotate_left
  · intro w' hSw; (try dsimp only at hSw); go_split_ands; go_simp; (try with_reducible rfl)
  (try simp only [Act.put, List.setIfInBounds_toArray, List.set_cons_zero, List.set_cons_succ])
  refine wpAnyH_take (i := 6) (v := ?_) (by simp only [List.getElem?_toArray, List.getElem?_cons_succ, List.getElem?_cons_zero]; rfl) (by kernel_rfl) (by kernel_rfl) (by kernel_rfl) (fun _ _ _ h => h) (Or.inl ⟨by rfl, ?_⟩) hS ?_
  rotate_left
  · intro w' hSw; (try dsimp only at hSw); go_split_ands; go_simp; (try with_reducible rfl)
  (try simp only [Act.put, List.setIfInBounds_toArray, List.set_cons_zero, List.set_cons_succ])
  refine wpAnyH_take (i := 7) (v := ?_) (by simp only [List.getElem?_toArray, List.getElem?_cons_succ, List.getElem?_cons_zero]; rfl) (by kernel_rfl) (by kernel_rfl) (by kernel_rfl) (fun _ _ _ h => h) (Or.inl ⟨by rfl, ?_⟩) hS ?_
  rotate_left
  · intro w' hSw; (try dsimp only at hSw); go_split_ands; go_simp; (try with_reducible rfl)
  (try simp only [Act.put, List.setIfInBounds_toArray, List.set_cons_zero, List.set_cons_succ])
  refine wpAnyH_take (i := 8) (v := ?_) (by simp only [List.getElem?_toArray, List.getElem?_cons_succ, List.getElem?_cons_zero]; rfl) (by kernel_rfl) (by kernel_rfl) (by kernel_rfl) (fun _ _ _ h => h) (Or.inl ⟨by rfl, ?_⟩) hS ?_
  rotate_left
  · intro w' hSw; (try dsimp only at hSw); go_split_ands; go_simp; (try with_reducible rfl)
  (try simp only [Act.put, List.setIfInBounds_toArray, List.set_cons_zero, List.set_cons_succ])
  refine wpAnyH_ready (rs := [9]) (by kernel_rfl) (by simp) ?_
  refine AllReadyH.cons (by simp only [List.getElem?_toArray, List.getElem?_cons_succ, List.getElem?_cons_zero]; rfl) (fun K hK => ?_) ?_
  · skip
    obtain ⟨y00, y01, y02, y03, y04, y05, y06, y07, yf0⟩ := ZR.out.cells8
    go_simp
    clear y00 y01 y02 y03 y04 y05 y06 y07 yf0
    refine named_store_8_8_0 ZR.out ?_
    intro Ws9 hbk hgr hsz
    have hsz0 := hid hsz
    clear hsz
    replace PC := hid (PC.out.grown hgr (by have := hne.out; simp; omega)); replace HX := hid (HX.out.low HLZ.out hgr)
    replace HB := hid (HB.out.grown hgr HB.out.size (fun r e => by cases e; omega))
    replace ZR := hid hbk
    clear hbk hgr
    refine hK.out _ _ ⟨PC.out.cells11.1, PC.out.cells11.2.1, PC.out.cells11.2.2.1, PC.out.cells11.2.2.2.1, PC.out.cells11.2.2.2.2.1, PC.out.cells11.2.2.2.2.2.1, PC.out.cells11.2.2.2.2.2.2.1, PC.out.cells11.2.2.2.2.2.2.2.1, PC.out.cells11.2.2.2.2.2.2.2.2.1, PC.out.cells11.2.2.2.2.2.2.2.2.2.1, PC.out.cells11.2.2.2.2.2.2.2.2.2.2.1⟩ (fun hS' => ?_)
    clear hK K hS
    have hS := hS'
    clear hS'
    (try simp only [Act.put, List.setIfInBounds_toArray, List.set_cons_zero, List.set_cons_succ])
    refine wpAnyH_take (i := 10) (v := ?_) (by simp only [List.getElem?_toArray, List.getElem?_cons_succ, List.getElem?_cons_zero]; rfl) (by kernel_rfl) (by kernel_rfl) (by kernel_rfl) (fun _ _ _ h => h) (Or.inl ⟨by rfl, ?_⟩) hS ?_
    rotate_left
    · intro w' hSw; (try dsimp only at hSw); go_split_ands; go_simp; (try with_reducible rfl)
    (try simp only [Act.put, List.setIfInBounds_toArray, List.set_cons_zero, List.set_cons_succ])
    refine wpAnyH_take (i := 11) (v := ?_) (by simp only [List.getElem?_toArray, List.getElem?_cons_succ, List.getElem?_cons_zero]; rfl) (by kernel_rfl) (by kernel_rfl) (by kernel_rfl) (fun _ _ _ h => h) (Or.inl ⟨by rfl, ?_⟩) hS ?_
    rotate_left
    · intro w' hSw; (try dsimp only at hSw); go_split_ands; go_simp; (try with_reducible rfl)
    (try simp only [Act.put, List.setIfInBounds_toArray, List.set_cons_zero, List.set_cons_succ])
    refine wpAnyH_done (by kernel_rfl) ?_ _
    refine NoPanic.normal ?_
    clear hS
    go_wp2
    obtain ⟨y00, y01, y02, y03, y04, y05, y06, y07, yf0⟩ := ZR.out.cells8
    refine bodyPost_ret (v := .tuple #[rcv (rnow, rns, ros) rg b, .slice R nr kr, .int .i64 rc]) (by simp [results, Try.results13, go_sem, y00, y01, y02, y03, y04, y05, y06, y07]) rfl ⟨b, R, nr, kr, rfl, ⟨es2, gp, HQ2.out, HX.out.mono (by have := HLZ.out; omega)⟩, HB.out⟩
  exact AllReadyH.nil
end Go.Proofs.Ytfipdoofgbjbjaa
