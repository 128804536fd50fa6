/- afterglowref05: Step. No condition but sizes. -/
import Derived.Test.YtaeanmkbongfcaaSp14
import Derived.Test.YtaeanmkbongfcaaMRef3
import Derived.Deep.DeepCutAuto
import Derived.Deep.CutBlock
namespace Go.Proofs.Ytaeanmkbongfcaa
open Go.RowKit
def rspStep (m : MSt) (s : Spn) : MSt × Spn := if spHas s.2.1 then ((stepM m (spNeed s)).1, spTake s (stepM m (spNeed s)).2) else (m, s)
/-- a memory that can be read, and who wants a lock -/
def RfPost (W : World) (A : Option Addr) (n : Nat) (B : Option Addr) (r : MSt × Spn) (e : Ending) (W' : World) : Prop :=
  ∃ A' c' B' d', e = .returned (.tuple #[mv A' n c' B' n d' r.1.2.2, svS r.2]) ∧ Mem W' A' n c' B' n d' r.1.1 r.1.2.1 ∧ Below W.heap.size W W' ∧ ∀ g, g < W.heap.size → FarM n A B g → FarM n A' B' g
structure RfMid (w W : World) (A B : Option Addr) (n g6 g7 : Nat) (A2 : Option Addr) (c2 : Nat) (B2 : Option Addr) (d2 : Nat) (m : MSt) (x : Int) (y : Bool) : Prop where
  b6 : Blk W g6 25 (mcs A2 n c2 B2 n d2 m.2.2)
  b7 : Blk W g7 54 #[.int .u64 x, .bool y]
  mem : Mem W A2 n c2 B2 n d2 m.1 m.2.1
  be : Below w.heap.size w W
  tr : ∀ g, g < w.heap.size → FarM n A B g → FarM n A2 B2 g
theorem mem_kept {W W' : World} {A : Option Addr} {n c : Nat} {B : Option Addr} {d : Nat} {ws : List Int} {ls : List Bool} {g : Nat} (h : Mem W A n c B n d ws ls) (hf : FarM n A B g) (hg : W.grownBy W' (some g)) : Mem W' A n c B n d ws ls := by
  refine ⟨⟨h.hx.len, fun hn => ?_⟩, ⟨h.hy.len, fun hn => ?_⟩, h.hnc, h.hmd, h.hn, h.hm⟩
  · obtain ⟨b, off, rfl, h0, h1, h2⟩ := h.hx.row hn
    exact ⟨b, off, rfl, h0, Nat.lt_of_lt_of_le h1 hg.size, fun k hk => (World.cell?_of_block (a := ⟨b, off + k, none⟩) (hg.block b h1 (fun e => (hf hn).1 _ rfl (by simpa using e)))).trans (h2 k hk)⟩
  · obtain ⟨b, off, rfl, h0, h1, h2⟩ := h.hy.row hn
    exact ⟨b, off, rfl, h0, Nat.lt_of_lt_of_le h1 hg.size, fun k hk => (World.cell?_of_block (a := ⟨b, off + k, none⟩) (hg.block b h1 (fun e => (hf hn).2 _ rfl (by simpa using e)))).trans (h2 k hk)⟩
set_option maxRecDepth 100000 in
set_option maxHeartbeats 8000000 in
theorem rspstep_any (A : Option Addr) (n c : Nat) (B : Option Addr) (k d : Nat) (f : Bool) (ws : List Int) (ls : List Bool) (a p t : Int) (w : World) (h : Mem w A n c B k d ws ls) (hnk : k = n) :
    Calls Try.prog 30 #[mv A n c B k d f, sv a p t] w (RfPost w A n B (rspStep (ws, ls, f) (a, p, t))) := by
  subst hnk
  have HM := hid h; have HB := hid (Below.refl w.heap.size w)
  have HF := hid (show ∀ g, w.heap.size ≤ g → FarM k A B g from fun g hg => h.far hg)
  clear h
  have bx := below_box w (.cells (mcs A k c B k d f) 25)
  replace HM := hid (HM.out.step bx); replace HB := hid (below_then HB.out bx)
  clear bx
  have PM := hid (Blk.new w 25 (mcs A k c B k d f))
  have bx := below_box (w.alloc (.cells (mcs A k c B k d f) 25)) (.cells (scs a p t) 38)
  replace HM := hid (HM.out.step bx); replace PM := hid (PM.out.step bx); replace HB := hid (below_then HB.out bx)
  clear bx
  have PS := hid (Blk.new2 w 38 (scs a p t) (.cells (mcs A k c B k d f) 25))
  have bx := below_box ((w.alloc (.cells (mcs A k c B k d f) 25)).alloc (.cells (scs a p t) 38)) (.cells (mcs none 0 0 none 0 0 false) 25)
  replace HM := hid (HM.out.step bx); replace PM := hid (PM.out.step bx); replace PS := hid (PS.out.step bx); replace HB := hid (below_then HB.out bx)
  clear bx
  have PR := hid (Blk.new3 w 25 (mcs none 0 0 none 0 0 false) (.cells (mcs A k c B k d f) 25) (.cells (scs a p t) 38))
  have bx := below_box (((w.alloc (.cells (mcs A k c B k d f) 25)).alloc (.cells (scs a p t) 38)).alloc (.cells (mcs none 0 0 none 0 0 false) 25)) (.cells (scs 0 0 0) 38)
  replace HM := hid (HM.out.step bx); replace PM := hid (PM.out.step bx); replace PS := hid (PS.out.step bx); replace PR := hid (PR.out.step bx); replace HB := hid (below_then HB.out bx)
  clear bx
  have PQ := hid (Blk.new4 w 38 (scs 0 0 0) (.cells (mcs A k c B k d f) 25) (.cells (scs a p t) 38) (.cells (mcs none 0 0 none 0 0 false) 25))
  go_enter Try.func30, Try.ntmps30
  obtain ⟨y00, y01, y02, yf0⟩ := PS.out.cells3
  go_wp2_with fail
  clear y00 y01 y02 yf0
  have hz0 := hid (show ((((w.alloc (.cells (mcs A k c B k d f) 25)).alloc (.cells (scs a p t) 38)).alloc (.cells (mcs none 0 0 none 0 0 false) 25)).alloc (.cells (scs 0 0 0) 38)).heap.size = w.heap.size + 4 by simp)
  generalize (((w.alloc (.cells (mcs A k c B k d f) 25)).alloc (.cells (scs a p t) 38)).alloc (.cells (mcs none 0 0 none 0 0 false) 25)).alloc (.cells (scs 0 0 0) 38) = W0 at *
  refine (rsphas_any a p t W0).mono ?_
  rintro e w1 ⟨rfl, hb⟩
  replace HM := hid (HM.out.step hb); replace PM := hid (PM.out.step hb); replace PS := hid (PS.out.step hb); replace PR := hid (PR.out.step hb); replace PQ := hid (PQ.out.step hb); replace HB := hid (below_then HB.out hb)
  clear hb
  have tSM : (38 : TypeId) ≠ 25 := by decide
  have tMS := Ne.symm tSM
  have TSM := hid tSM; have TMS := hid tMS
  clear tSM tMS
  by_cases hh : spHas p
  rotate_left
  · rw [decide_eq_false hh]
    have HE := hid (show rspStep (ws, ls, f) (a, p, t) = ((ws, ls, f), (a, p, t)) from if_neg hh)
    clear hh
    obtain ⟨y00, y01, y02, yf0⟩ := PS.out.cells3
    obtain ⟨y10, y11, y12, yf1⟩ := PM.out.cells3
    go_upto_region 2 with fail
    clear y00 y01 y02 yf0 y10 y11 y12 yf1
    have HSZ := hid (show w.heap.size + 4 ≤ w1.heap.size by have := PQ.out.lt; omega)
    have bx := (Below.refl w1.heap.size w1).drew
    replace HM := hid (HM.out.step bx); replace PM := hid (PM.out.step bx); replace PS := hid (PS.out.step bx); replace PR := hid (PR.out.step bx); replace PQ := hid (PQ.out.step bx); replace HB := hid (below_then HB.out bx)
    clear bx
    have hszd := hid (show w1.drew.heap.size = w1.heap.size from rfl)
    refine wp_region_noPanic ?_
    refine wp_region_held_drew (S := (fun W' : World => W'.cell? ⟨w.heap.size, 0, none⟩ = some (.slice A k c) ∧ W'.cell? ⟨w.heap.size, 1, none⟩ = some (.slice B k d) ∧ W'.cell? ⟨w.heap.size, 2, none⟩ = some (.bool f) ∧ W'.cell? ⟨w.heap.size + 1, 0, none⟩ = some (.int .i64 a) ∧ W'.cell? ⟨w.heap.size + 1, 1, none⟩ = some (.int .i64 p) ∧ W'.cell? ⟨w.heap.size + 1, 2, none⟩ = some (.int .u64 t))) (by kernel_rfl) ⟨PM.out.cells3.1, PM.out.cells3.2.1, PM.out.cells3.2.2.1, PS.out.cells3.1, PS.out.cells3.2.1, PS.out.cells3.2.2.1⟩ (fun hS => ?_)
    generalize w1.drew = Wd at *
    refine wpAnyH_take (i := 0) (v := ?_) (by simp only [List.getElem?_toArray, List.getElem?_cons_succ, List.getElem?_cons_zero]; rfl) (by kernel_rfl) (by kernel_rfl) (by kernel_rfl) (fun _ _ _ h => h) (Or.inl ⟨by rfl, ?_⟩) hS ?_
    rotate_left
    · intro w' hSw; (try dsimp only at hSw); go_split_ands; go_simp; (try with_reducible rfl)
    (try simp only [Act.put, List.setIfInBounds_toArray, List.set_cons_zero, List.set_cons_succ])
    refine wpAnyH_take (i := 1) (v := ?_) (by simp only [List.getElem?_toArray, List.getElem?_cons_succ, List.getElem?_cons_zero]; rfl) (by kernel_rfl) (by kernel_rfl) (by kernel_rfl) (fun _ _ _ h => h) (Or.inl ⟨by rfl, ?_⟩) hS ?_
    rotate_left
    · intro w' hSw; (try dsimp only at hSw); go_split_ands; go_simp; (try with_reducible rfl)
    (try simp only [Act.put, List.setIfInBounds_toArray, List.set_cons_zero, List.set_cons_succ])
    refine wpAnyH_ready (rs := [2]) (by kernel_rfl) (by simp) ?_
    refine AllReadyH.cons (by simp only [List.getElem?_toArray, List.getElem?_cons_succ, List.getElem?_cons_zero]; rfl) (fun K hK => ?_) ?_
    · skip
      obtain ⟨y00, y01, y02, yf0⟩ := PR.out.cells3
      go_simp
      clear y00 y01 y02 yf0
      refine named_store3 PR.out ?_
      intro Ws2 hbk hgr hsz
      have hsz0 := hid hsz
      clear hsz
      replace PM := hid (PM.out.grown hgr (by simp <;> omega))
      replace PS := hid (PS.out.grown hgr (by simp <;> omega))
      replace PQ := hid (PQ.out.grown hgr (by simp <;> omega))
      replace HM := hid (mem_kept HM.out (HF.out _ (by omega)) hgr)
      replace HB := hid (HB.out.grown hgr HB.out.size (fun r e => by cases e; omega))
      replace PR := hid hbk
      clear hbk hgr
      refine hK.out _ _ ⟨PM.out.cells3.1, PM.out.cells3.2.1, PM.out.cells3.2.2.1, PS.out.cells3.1, PS.out.cells3.2.1, PS.out.cells3.2.2.1⟩ (fun hS' => ?_)
      clear hK K hS
      have hS := hS'
      clear hS'
      (try simp only [Act.put, List.setIfInBounds_toArray, List.set_cons_zero, List.set_cons_succ])
      refine wpAnyH_ready (rs := [3]) (by kernel_rfl) (by simp) ?_
      refine AllReadyH.cons (by simp only [List.getElem?_toArray, List.getElem?_cons_succ, List.getElem?_cons_zero]; rfl) (fun K hK => ?_) ?_
      · skip
        obtain ⟨y00, y01, y02, yf0⟩ := PQ.out.cells3
        go_simp
        clear y00 y01 y02 yf0
        refine named_store3 PQ.out ?_
        intro Ws3 hbk hgr hsz
        have hsz1 := hid hsz
        clear hsz
        replace PM := hid (PM.out.grown hgr (by simp <;> omega))
        replace PS := hid (PS.out.grown hgr (by simp <;> omega))
        replace PR := hid (PR.out.grown hgr (by simp <;> omega))
        replace HM := hid (mem_kept HM.out (HF.out _ (by omega)) hgr)
        replace HB := hid (HB.out.grown hgr HB.out.size (fun r e => by cases e; omega))
        replace PQ := hid hbk
        clear hbk hgr
        refine hK.out _ _ ⟨PM.out.cells3.1, PM.out.cells3.2.1, PM.out.cells3.2.2.1, PS.out.cells3.1, PS.out.cells3.2.1, PS.out.cells3.2.2.1⟩ (fun hS' => ?_)
        clear hK K hS
        have hS := hS'
        clear hS'
        (try simp only [Act.put, List.setIfInBounds_toArray, List.set_cons_zero, List.set_cons_succ])
        refine wpAnyH_done (by kernel_rfl) ?_ _
        refine NoPanic.normal ?_
        clear hS
        go_wp2
        obtain ⟨q0, q1, q2, qf⟩ := PR.out.cells3; obtain ⟨v0, v1, v2, vf⟩ := PQ.out.cells3
        refine bodyPost_ret (v := .tuple #[mv A k c B k d f, sv a p t]) (by simp [results, Try.results30, go_sem, q0, q1, q2, v0, v1, v2]) rfl ?_
        rw [HE.out]
        exact ⟨A, c, B, d, rfl, HM.out, HB.out, fun _ _ hh => hh⟩
      exact AllReadyH.nil
    exact AllReadyH.nil
  rw [decide_eq_true hh]
  have HH := hid hh
  clear hh
  obtain ⟨⟨nk, na, no, nn⟩, hn⟩ : ∃ x, x = spNeed (a, p, t) := ⟨_, rfl⟩
  obtain ⟨⟨⟨ws2, ls2, f2⟩, ⟨gx, gy⟩⟩, hst⟩ : ∃ r, r = stepM (ws, ls, f) (nk, na, no, nn) := ⟨_, rfl⟩
  have HN := hid hn; have HST := hid hst
  clear hn hst
  obtain ⟨y00, y01, y02, yf0⟩ := PS.out.cells3
  obtain ⟨y10, y11, y12, yf1⟩ := PM.out.cells3
  go_upto_region 3 with fail
  clear y00 y01 y02 yf0 y10 y11 y12 yf1
  have XM := HM; have XPM := PM; have XPS := PS; have HQ1 := hid (Below.refl w1.heap.size w1); have HSZ := hid (show w.heap.size + 4 ≤ w1.heap.size by have := PQ.out.lt; omega)
  go_cut [6, 7] (fun s6 s7 wx => ∃ g6 g7 A2 c2 B2 d2, s6 = ptr g6 ∧ s7 = ptr g7 ∧ w1.heap.size ≤ g6 ∧ w1.heap.size ≤ g7 ∧ FarM k A2 B2 g6 ∧ FarM k A2 B2 g7 ∧ RfMid w1 wx A B k g6 g7 A2 c2 B2 d2 (ws2, ls2, f2) gx gy)
  case first =>
    have bx := (Below.refl w1.heap.size w1).drew
    replace HQ1 := hid (below_then HQ1.out bx)
    clear bx
    have hszd := hid (show w1.drew.heap.size = w1.heap.size from rfl)
    refine wp_region_noPanic ?_
    refine wp_region_held_drew (S := (fun W' : World => W'.cell? ⟨w.heap.size, 0, none⟩ = some (.slice A k c) ∧ W'.cell? ⟨w.heap.size, 1, none⟩ = some (.slice B k d) ∧ W'.cell? ⟨w.heap.size, 2, none⟩ = some (.bool f) ∧ W'.cell? ⟨w.heap.size + 1, 0, none⟩ = some (.int .i64 a) ∧ W'.cell? ⟨w.heap.size + 1, 1, none⟩ = some (.int .i64 p) ∧ W'.cell? ⟨w.heap.size + 1, 2, none⟩ = some (.int .u64 t))) (by kernel_rfl) ⟨(XPM.out.step HQ1.out).cells3.1, (XPM.out.step HQ1.out).cells3.2.1, (XPM.out.step HQ1.out).cells3.2.2.1, (XPS.out.step HQ1.out).cells3.1, (XPS.out.step HQ1.out).cells3.2.1, (XPS.out.step HQ1.out).cells3.2.2.1⟩ (fun hS => ?_)
    generalize w1.drew = Wd at *
    refine wpAnyH_take (i := 0) (v := ?_) (by simp only [List.getElem?_toArray, List.getElem?_cons_succ, List.getElem?_cons_zero]; rfl) (by kernel_rfl) (by kernel_rfl) (by kernel_rfl) (fun _ _ _ h => h) (Or.inl ⟨by rfl, ?_⟩) hS ?_
    rotate_left
    · intro w' hSw; (try dsimp only at hSw); go_split_ands; go_simp; (try with_reducible rfl)
    (try simp only [Act.put, List.setIfInBounds_toArray, List.set_cons_zero, List.set_cons_succ])
    refine wpAnyH_take (i := 1) (v := ?_) (by simp only [List.getElem?_toArray, List.getElem?_cons_succ, List.getElem?_cons_zero]; rfl) (by kernel_rfl) (by kernel_rfl) (by kernel_rfl) (fun _ _ _ h => h) (Or.inl ⟨by rfl, ?_⟩) hS ?_
    rotate_left
    · intro w' hSw; (try dsimp only at hSw); go_split_ands; go_simp; (try with_reducible rfl)
    (try simp only [Act.put, List.setIfInBounds_toArray, List.set_cons_zero, List.set_cons_succ])
    refine wpAnyH_ready (rs := [2, 7, 8]) (by kernel_rfl) (by simp) ?_
    refine AllReadyH.cons (by simp only [List.getElem?_toArray, List.getElem?_cons_succ, List.getElem?_cons_zero]; rfl) (fun K hK => ?_) ?_
    · skip
      go_simp
      refine (rspneed_any a p t _).mono ?_
      rintro e wn ⟨rfl, hb⟩
      have hsz0 := hid (show Wd.heap.size ≤ wn.heap.size from hb.size)
      replace HQ1 := hid (below_then HQ1.out hb)
      clear hb
      rw [← HN.out]
      go_wp2_with fail
      refine hK.out _ _ ⟨(XPM.out.step HQ1.out).cells3.1, (XPM.out.step HQ1.out).cells3.2.1, (XPM.out.step HQ1.out).cells3.2.2.1, (XPS.out.step HQ1.out).cells3.1, (XPS.out.step HQ1.out).cells3.2.1, (XPS.out.step HQ1.out).cells3.2.2.1⟩ (fun hS' => ?_)
      clear hK K hS
      have hS := hS'
      clear hS'
      (try simp only [Act.put, List.setIfInBounds_toArray, List.set_cons_zero, List.set_cons_succ])
      refine wpAnyH_ready (rs := [3, 7, 8]) (by kernel_rfl) (by simp) ?_
      refine AllReadyH.cons (by simp only [List.getElem?_toArray, List.getElem?_cons_succ, List.getElem?_cons_zero]; rfl) (fun K hK => ?_) ?_
      · skip
        go_simp
        refine (rstep_any A k c B k d f ws ls nk na no nn _ (XM.out.step HQ1.out) rfl).mono ?_
        rintro e ws3 ⟨A2, c2, B2, d2, rfl, hmn, hb, htr⟩
        have hsz1 := hid (show wn.heap.size ≤ ws3.heap.size from hb.size)
        replace HQ1 := hid (below_then HQ1.out hb)
        clear hb
        rw [← HST.out] at hmn ⊢
        dsimp only at hmn ⊢
        have MN := hid hmn; have TR := hid (show ∀ g, g < w1.heap.size → FarM k A B g → FarM k A2 B2 g from fun g hg hf => htr g (by have := hszd.out; have := hsz0.out; omega) hf)
        clear hmn htr
        go_wp2_with fail
        refine hK.out _ _ ⟨(XPM.out.step HQ1.out).cells3.1, (XPM.out.step HQ1.out).cells3.2.1, (XPM.out.step HQ1.out).cells3.2.2.1, (XPS.out.step HQ1.out).cells3.1, (XPS.out.step HQ1.out).cells3.2.1, (XPS.out.step HQ1.out).cells3.2.2.1⟩ (fun hS' => ?_)
        clear hK K hS
        have hS := hS'
        clear hS'
        (try simp only [Act.put, List.setIfInBounds_toArray, List.set_cons_zero, List.set_cons_succ])
        refine wpAnyH_take (i := 4) (v := ?_) (by simp only [List.getElem?_toArray, List.getElem?_cons_succ, List.getElem?_cons_zero]; rfl) (by kernel_rfl) (by kernel_rfl) (by kernel_rfl) (fun _ _ _ h => h) (Or.inl ⟨by rfl, ?_⟩) hS ?_
        rotate_left
        · intro w' hSw; (try dsimp only at hSw); go_split_ands; go_simp; (try with_reducible rfl)
        (try simp only [Act.put, List.setIfInBounds_toArray, List.set_cons_zero, List.set_cons_succ])
        refine wpAnyH_take (i := 5) (v := ?_) (by simp only [List.getElem?_toArray, List.getElem?_cons_succ, List.getElem?_cons_zero]; rfl) (by kernel_rfl) (by kernel_rfl) (by kernel_rfl) (fun _ _ _ h => h) (Or.inl ⟨by rfl, ?_⟩) hS ?_
        rotate_left
        · intro w' hSw; (try dsimp only at hSw); go_split_ands; go_simp; (try with_reducible rfl)
        (try simp only [Act.put, List.setIfInBounds_toArray, List.set_cons_zero, List.set_cons_succ])
        refine wpAnyH_take (i := 6) (v := ?_) (by simp only [List.getElem?_toArray, List.getElem?_cons_succ, List.getElem?_cons_zero]; rfl) (by kernel_rfl) (by kernel_rfl) (by kernel_rfl) (fun _ _ _ h => h) (Or.inl ⟨by rfl, ?_⟩) hS ?_
        rotate_left
        · intro w' hSw; (try dsimp only at hSw); go_split_ands; go_simp; (try with_reducible rfl)
        (try simp only [Act.put, List.setIfInBounds_toArray, List.set_cons_zero, List.set_cons_succ])
        refine wpAnyH_ready (rs := [7, 8]) (by kernel_rfl) (by simp) ?_
        refine AllReadyH.cons (by simp only [List.getElem?_toArray, List.getElem?_cons_succ, List.getElem?_cons_zero]; rfl) (fun K hK => ?_) ?_
        · skip
          go_simp
          refine named_alloc ?_
          intro Wa7 hbk hb hsz
          have hsz2 := hid hsz
          have F6 := hid (show FarM k A2 B2 ws3.heap.size from MN.out.far (Nat.le_refl _))
          replace MN := hid (MN.out.step hb); replace HQ1 := hid (below_then HQ1.out hb)
          have P6 := hid hbk
          clear hb hbk hsz
          refine hK.out _ _ ⟨(XPM.out.step HQ1.out).cells3.1, (XPM.out.step HQ1.out).cells3.2.1, (XPM.out.step HQ1.out).cells3.2.2.1, (XPS.out.step HQ1.out).cells3.1, (XPS.out.step HQ1.out).cells3.2.1, (XPS.out.step HQ1.out).cells3.2.2.1⟩ (fun hS' => ?_)
          clear hK K hS
          have hS := hS'
          clear hS'
          (try simp only [Act.put, List.setIfInBounds_toArray, List.set_cons_zero, List.set_cons_succ])
          refine wpAnyH_ready (rs := [8]) (by kernel_rfl) (by simp) ?_
          refine AllReadyH.cons (by simp only [List.getElem?_toArray, List.getElem?_cons_succ, List.getElem?_cons_zero]; rfl) (fun K hK => ?_) ?_
          · skip
            go_simp
            refine named_alloc ?_
            intro Wa8 hbk hb hsz
            have hsz3 := hid hsz
            have F7 := hid (show FarM k A2 B2 Wa7.heap.size from MN.out.far (Nat.le_refl _))
            replace MN := hid (MN.out.step hb); replace P6 := hid (P6.out.step hb); replace HQ1 := hid (below_then HQ1.out hb)
            have P7 := hid hbk
            clear hb hbk hsz
            refine hK.out _ _ ⟨(XPM.out.step HQ1.out).cells3.1, (XPM.out.step HQ1.out).cells3.2.1, (XPM.out.step HQ1.out).cells3.2.2.1, (XPS.out.step HQ1.out).cells3.1, (XPS.out.step HQ1.out).cells3.2.1, (XPS.out.step HQ1.out).cells3.2.2.1⟩ (fun hS' => ?_)
            clear hK K hS
            have hS := hS'
            clear hS'
            (try simp only [Act.put, List.setIfInBounds_toArray, List.set_cons_zero, List.set_cons_succ])
            refine wpAnyH_ready (rs := [9]) (by kernel_rfl) (by simp) ?_
            refine AllReadyH.cons (by simp only [List.getElem?_toArray, List.getElem?_cons_succ, List.getElem?_cons_zero]; rfl) (fun K hK => ?_) ?_
            · skip
              obtain ⟨y00, y01, y02, yf0⟩ := P6.out.cells3
              go_simp
              clear y00 y01 y02 yf0
              refine named_store3 P6.out ?_
              intro Ws9 hbk hgr hsz
              have hsz4 := hid hsz
              clear hsz
              replace P7 := hid (P7.out.grown hgr (fun e => P6.out.ne P7.out (by decide) (by simpa using e.symm)))
              replace MN := hid (mem_kept MN.out F6.out hgr)
              replace HQ1 := hid (HQ1.out.grown hgr HQ1.out.size (fun r e => by cases e; have := hszd.out; have := hsz0.out; have := hsz1.out; have := hsz2.out; have := hsz3.out; have := hsz4.out; omega))
              replace P6 := hid hbk
              clear hbk hgr
              refine hK.out _ _ ⟨(XPM.out.step HQ1.out).cells3.1, (XPM.out.step HQ1.out).cells3.2.1, (XPM.out.step HQ1.out).cells3.2.2.1, (XPS.out.step HQ1.out).cells3.1, (XPS.out.step HQ1.out).cells3.2.1, (XPS.out.step HQ1.out).cells3.2.2.1⟩ (fun hS' => ?_)
              clear hK K hS
              have hS := hS'
              clear hS'
              (try simp only [Act.put, List.setIfInBounds_toArray, List.set_cons_zero, List.set_cons_succ])
              refine wpAnyH_ready (rs := [10]) (by kernel_rfl) (by simp) ?_
              refine AllReadyH.cons (by simp only [List.getElem?_toArray, List.getElem?_cons_succ, List.getElem?_cons_zero]; rfl) (fun K hK => ?_) ?_
              · skip
                obtain ⟨y00, y01, yf0⟩ := P7.out.cells2
                go_simp
                clear y00 y01 yf0
                refine named_store2 P7.out ?_
                intro Ws10 hbk hgr hsz
                have hsz5 := hid hsz
                clear hsz
                replace P6 := hid (P6.out.grown hgr (fun e => P6.out.ne P7.out (by decide) (by simpa using e)))
                replace MN := hid (mem_kept MN.out F7.out hgr)
                replace HQ1 := hid (HQ1.out.grown hgr HQ1.out.size (fun r e => by cases e; have := hszd.out; have := hsz0.out; have := hsz1.out; have := hsz2.out; have := hsz3.out; have := hsz4.out; have := hsz5.out; omega))
                replace P7 := hid hbk
                clear hbk hgr
                refine hK.out _ _ ⟨(XPM.out.step HQ1.out).cells3.1, (XPM.out.step HQ1.out).cells3.2.1, (XPM.out.step HQ1.out).cells3.2.2.1, (XPS.out.step HQ1.out).cells3.1, (XPS.out.step HQ1.out).cells3.2.1, (XPS.out.step HQ1.out).cells3.2.2.1⟩ (fun hS' => ?_)
                clear hK K hS
                have hS := hS'
                clear hS'
                (try simp only [Act.put, List.setIfInBounds_toArray, List.set_cons_zero, List.set_cons_succ])
                refine wpAnyH_done (by kernel_rfl) ?_ _
                refine NoPanic.normal ?_
                clear hS
                go_wp2_with fail
                go_meet
                exact ⟨_, _, A2, c2, B2, d2, rfl, rfl, by have := hszd.out; have := hsz0.out; have := hsz1.out; have := hsz2.out; have := hsz3.out; have := hsz4.out; have := hsz5.out; omega, by have := hszd.out; have := hsz0.out; have := hsz1.out; have := hsz2.out; have := hsz3.out; have := hsz4.out; have := hsz5.out; omega, F6.out, F7.out, ⟨P6.out, P7.out, MN.out, HQ1.out, TR.out⟩⟩
              exact AllReadyH.nil
            exact AllReadyH.nil
          exact AllReadyH.nil
        refine AllReadyH.cons (by simp only [List.getElem?_toArray, List.getElem?_cons_succ, List.getElem?_cons_zero]; rfl) (fun K hK => ?_) ?_
        · skip
          go_simp
          refine named_alloc ?_
          intro Wa8 hbk hb hsz
          have hsz2 := hid hsz
          have F7 := hid (show FarM k A2 B2 ws3.heap.size from MN.out.far (Nat.le_refl _))
          replace MN := hid (MN.out.step hb); replace HQ1 := hid (below_then HQ1.out hb)
          have P7 := hid hbk
          clear hb hbk hsz
          refine hK.out _ _ ⟨(XPM.out.step HQ1.out).cells3.1, (XPM.out.step HQ1.out).cells3.2.1, (XPM.out.step HQ1.out).cells3.2.2.1, (XPS.out.step HQ1.out).cells3.1, (XPS.out.step HQ1.out).cells3.2.1, (XPS.out.step HQ1.out).cells3.2.2.1⟩ (fun hS' => ?_)
          clear hK K hS
          have hS := hS'
          clear hS'
          (try simp only [Act.put, List.setIfInBounds_toArray, List.set_cons_zero, List.set_cons_succ])
          refine wpAnyH_ready (rs := [7]) (by kernel_rfl) (by simp) ?_
          refine AllReadyH.cons (by simp only [List.getElem?_toArray, List.getElem?_cons_succ, List.getElem?_cons_zero]; rfl) (fun K hK => ?_) ?_
          · skip
            go_simp
            refine named_alloc ?_
            intro Wa7 hbk hb hsz
            have hsz3 := hid hsz
            have F6 := hid (show FarM k A2 B2 Wa8.heap.size from MN.out.far (Nat.le_refl _))
            replace MN := hid (MN.out.step hb); replace P7 := hid (P7.out.step hb); replace HQ1 := hid (below_then HQ1.out hb)
            have P6 := hid hbk
            clear hb hbk hsz
            refine hK.out _ _ ⟨(XPM.out.step HQ1.out).cells3.1, (XPM.out.step HQ1.out).cells3.2.1, (XPM.out.step HQ1.out).cells3.2.2.1, (XPS.out.step HQ1.out).cells3.1, (XPS.out.step HQ1.out).cells3.2.1, (XPS.out.step HQ1.out).cells3.2.2.1⟩ (fun hS' => ?_)
            clear hK K hS
            have hS := hS'
            clear hS'
            (try simp only [Act.put, List.setIfInBounds_toArray, List.set_cons_zero, List.set_cons_succ])
            refine wpAnyH_ready (rs := [9]) (by kernel_rfl) (by simp) ?_
            refine AllReadyH.cons (by simp only [List.getElem?_toArray, List.getElem?_cons_succ, List.getElem?_cons_zero]; rfl) (fun K hK => ?_) ?_
            · skip
              obtain ⟨y00, y01, y02, yf0⟩ := P6.out.cells3
              go_simp
              clear y00 y01 y02 yf0
              refine named_store3 P6.out ?_
              intro Ws9 hbk hgr hsz
              have hsz4 := hid hsz
              clear hsz
              replace P7 := hid (P7.out.grown hgr (fun e => P6.out.ne P7.out (by decide) (by simpa using e.symm)))
              replace MN := hid (mem_kept MN.out F6.out hgr)
              replace HQ1 := hid (HQ1.out.grown hgr HQ1.out.size (fun r e => by cases e; have := hszd.out; have := hsz0.out; have := hsz1.out; have := hsz2.out; have := hsz3.out; have := hsz4.out; omega))
              replace P6 := hid hbk
              clear hbk hgr
              refine hK.out _ _ ⟨(XPM.out.step HQ1.out).cells3.1, (XPM.out.step HQ1.out).cells3.2.1, (XPM.out.step HQ1.out).cells3.2.2.1, (XPS.out.step HQ1.out).cells3.1, (XPS.out.step HQ1.out).cells3.2.1, (XPS.out.step HQ1.out).cells3.2.2.1⟩ (fun hS' => ?_)
              clear hK K hS
              have hS := hS'
              clear hS'
              (try simp only [Act.put, List.setIfInBounds_toArray, List.set_cons_zero, List.set_cons_succ])
              refine wpAnyH_ready (rs := [10]) (by kernel_rfl) (by simp) ?_
              refine AllReadyH.cons (by simp only [List.getElem?_toArray, List.getElem?_cons_succ, List.getElem?_cons_zero]; rfl) (fun K hK => ?_) ?_
              · skip
                obtain ⟨y00, y01, yf0⟩ := P7.out.cells2
                go_simp
                clear y00 y01 yf0
                refine named_store2 P7.out ?_
                intro Ws10 hbk hgr hsz
                have hsz5 := hid hsz
                clear hsz
                replace P6 := hid (P6.out.grown hgr (fun e => P6.out.ne P7.out (by decide) (by simpa using e)))
                replace MN := hid (mem_kept MN.out F7.out hgr)
                replace HQ1 := hid (HQ1.out.grown hgr HQ1.out.size (fun r e => by cases e; have := hszd.out; have := hsz0.out; have := hsz1.out; have := hsz2.out; have := hsz3.out; have := hsz4.out; have := hsz5.out; omega))
                replace P7 := hid hbk
                clear hbk hgr
                refine hK.out _ _ ⟨(XPM.out.step HQ1.out).cells3.1, (XPM.out.step HQ1.out).cells3.2.1, (XPM.out.step HQ1.out).cells3.2.2.1, (XPS.out.step HQ1.out).cells3.1, (XPS.out.step HQ1.out).cells3.2.1, (XPS.out.step HQ1.out).cells3.2.2.1⟩ (fun hS' => ?_)
                clear hK K hS
                have hS := hS'
                clear hS'
                (try simp only [Act.put, List.setIfInBounds_toArray, List.set_cons_zero, List.set_cons_succ])
                refine wpAnyH_done (by kernel_rfl) ?_ _
                refine NoPanic.normal ?_
                clear hS
                go_wp2_with fail
                go_meet
                exact ⟨_, _, A2, c2, B2, d2, rfl, rfl, by have := hszd.out; have := hsz0.out; have := hsz1.out; have := hsz2.out; have := hsz3.out; have := hsz4.out; have := hsz5.out; omega, by have := hszd.out; have := hsz0.out; have := hsz1.out; have := hsz2.out; have := hsz3.out; have := hsz4.out; have := hsz5.out; omega, F6.out, F7.out, ⟨P6.out, P7.out, MN.out, HQ1.out, TR.out⟩⟩
              exact AllReadyH.nil
            exact AllReadyH.nil
          exact AllReadyH.nil
        exact AllReadyH.nil
      refine AllReadyH.cons (by simp only [List.getElem?_toArray, List.getElem?_cons_succ, List.getElem?_cons_zero]; rfl) (fun K hK => ?_) ?_
      · skip
        go_simp
        refine named_alloc ?_
        intro Wa7 hbk hb hsz
        have hsz1 := hid hsz
        have F60 := hid (show FarM k A B wn.heap.size from HF.out _ (by have := hszd.out; have := hsz0.out; have := hsz1.out; have := HSZ.out; omega))
        replace HQ1 := hid (below_then HQ1.out hb)
        have P6 := hid hbk
        clear hb hbk hsz
        refine hK.out _ _ ⟨(XPM.out.step HQ1.out).cells3.1, (XPM.out.step HQ1.out).cells3.2.1, (XPM.out.step HQ1.out).cells3.2.2.1, (XPS.out.step HQ1.out).cells3.1, (XPS.out.step HQ1.out).cells3.2.1, (XPS.out.step HQ1.out).cells3.2.2.1⟩ (fun hS' => ?_)
        clear hK K hS
        have hS := hS'
        clear hS'
        (try simp only [Act.put, List.setIfInBounds_toArray, List.set_cons_zero, List.set_cons_succ])
        refine wpAnyH_ready (rs := [3, 8]) (by kernel_rfl) (by simp) ?_
        refine AllReadyH.cons (by simp only [List.getElem?_toArray, List.getElem?_cons_succ, List.getElem?_cons_zero]; rfl) (fun K hK => ?_) ?_
        · skip
          go_simp
          refine (rstep_any A k c B k d f ws ls nk na no nn _ (XM.out.step HQ1.out) rfl).mono ?_
          rintro e ws3 ⟨A2, c2, B2, d2, rfl, hmn, hb, htr⟩
          have hsz2 := hid (show Wa7.heap.size ≤ ws3.heap.size from hb.size)
          replace P6 := hid (P6.out.step hb); replace HQ1 := hid (below_then HQ1.out hb)
          clear hb
          rw [← HST.out] at hmn ⊢
          dsimp only at hmn ⊢
          have MN := hid hmn; have TR := hid (show ∀ g, g < w1.heap.size → FarM k A B g → FarM k A2 B2 g from fun g hg hf => htr g (by have := hszd.out; have := hsz0.out; have := hsz1.out; omega) hf)
          have F6 := hid (htr _ (by have := hszd.out; have := hsz0.out; have := hsz1.out; omega) F60.out)
          clear hmn htr
          go_wp2_with fail
          refine hK.out _ _ ⟨(XPM.out.step HQ1.out).cells3.1, (XPM.out.step HQ1.out).cells3.2.1, (XPM.out.step HQ1.out).cells3.2.2.1, (XPS.out.step HQ1.out).cells3.1, (XPS.out.step HQ1.out).cells3.2.1, (XPS.out.step HQ1.out).cells3.2.2.1⟩ (fun hS' => ?_)
          clear hK K hS
          have hS := hS'
          clear hS'
          (try simp only [Act.put, List.setIfInBounds_toArray, List.set_cons_zero, List.set_cons_succ])
          refine wpAnyH_take (i := 4) (v := ?_) (by simp only [List.getElem?_toArray, List.getElem?_cons_succ, List.getElem?_cons_zero]; rfl) (by kernel_rfl) (by kernel_rfl) (by kernel_rfl) (fun _ _ _ h => h) (Or.inl ⟨by rfl, ?_⟩) hS ?_
          rotate_left
          · intro w' hSw; (try dsimp only at hSw); go_split_ands; go_simp; (try with_reducible rfl)
          (try simp only [Act.put, List.setIfInBounds_toArray, List.set_cons_zero, List.set_cons_succ])
          refine wpAnyH_take (i := 5) (v := ?_) (by simp only [List.getElem?_toArray, List.getElem?_cons_succ, List.getElem?_cons_zero]; rfl) (by kernel_rfl) (by kernel_rfl) (by kernel_rfl) (fun _ _ _ h => h) (Or.inl ⟨by rfl, ?_⟩) hS ?_
          rotate_left
          · intro w' hSw; (try dsimp only at hSw); go_split_ands; go_simp; (try with_reducible rfl)
          (try simp only [Act.put, List.setIfInBounds_toArray, List.set_cons_zero, List.set_cons_succ])
          refine wpAnyH_take (i := 6) (v := ?_) (by simp only [List.getElem?_toArray, List.getElem?_cons_succ, List.getElem?_cons_zero]; rfl) (by kernel_rfl) (by kernel_rfl) (by kernel_rfl) (fun _ _ _ h => h) (Or.inl ⟨by rfl, ?_⟩) hS ?_
          rotate_left
          · intro w' hSw; (try dsimp only at hSw); go_split_ands; go_simp; (try with_reducible rfl)
          (try simp only [Act.put, List.setIfInBounds_toArray, List.set_cons_zero, List.set_cons_succ])
          refine wpAnyH_ready (rs := [8]) (by kernel_rfl) (by simp) ?_
          refine AllReadyH.cons (by simp only [List.getElem?_toArray, List.getElem?_cons_succ, List.getElem?_cons_zero]; rfl) (fun K hK => ?_) ?_
          · skip
            go_simp
            refine named_alloc ?_
            intro Wa8 hbk hb hsz
            have hsz3 := hid hsz
            have F7 := hid (show FarM k A2 B2 ws3.heap.size from MN.out.far (Nat.le_refl _))
            replace P6 := hid (P6.out.step hb); replace MN := hid (MN.out.step hb); replace HQ1 := hid (below_then HQ1.out hb)
            have P7 := hid hbk
            clear hb hbk hsz
            refine hK.out _ _ ⟨(XPM.out.step HQ1.out).cells3.1, (XPM.out.step HQ1.out).cells3.2.1, (XPM.out.step HQ1.out).cells3.2.2.1, (XPS.out.step HQ1.out).cells3.1, (XPS.out.step HQ1.out).cells3.2.1, (XPS.out.step HQ1.out).cells3.2.2.1⟩ (fun hS' => ?_)
            clear hK K hS
            have hS := hS'
            clear hS'
            (try simp only [Act.put, List.setIfInBounds_toArray, List.set_cons_zero, List.set_cons_succ])
            refine wpAnyH_ready (rs := [9]) (by kernel_rfl) (by simp) ?_
            refine AllReadyH.cons (by simp only [List.getElem?_toArray, List.getElem?_cons_succ, List.getElem?_cons_zero]; rfl) (fun K hK => ?_) ?_
            · skip
              obtain ⟨y00, y01, y02, yf0⟩ := P6.out.cells3
              go_simp
              clear y00 y01 y02 yf0
              refine named_store3 P6.out ?_
              intro Ws9 hbk hgr hsz
              have hsz4 := hid hsz
              clear hsz
              replace P7 := hid (P7.out.grown hgr (fun e => P6.out.ne P7.out (by decide) (by simpa using e.symm)))
              replace MN := hid (mem_kept MN.out F6.out hgr)
              replace HQ1 := hid (HQ1.out.grown hgr HQ1.out.size (fun r e => by cases e; have := hszd.out; have := hsz0.out; have := hsz1.out; have := hsz2.out; have := hsz3.out; have := hsz4.out; omega))
              replace P6 := hid hbk
              clear hbk hgr
              refine hK.out _ _ ⟨(XPM.out.step HQ1.out).cells3.1, (XPM.out.step HQ1.out).cells3.2.1, (XPM.out.step HQ1.out).cells3.2.2.1, (XPS.out.step HQ1.out).cells3.1, (XPS.out.step HQ1.out).cells3.2.1, (XPS.out.step HQ1.out).cells3.2.2.1⟩ (fun hS' => ?_)
              clear hK K hS
              have hS := hS'
              clear hS'
              (try simp only [Act.put, List.setIfInBounds_toArray, List.set_cons_zero, List.set_cons_succ])
              refine wpAnyH_ready (rs := [10]) (by kernel_rfl) (by simp) ?_
              refine AllReadyH.cons (by simp only [List.getElem?_toArray, List.getElem?_cons_succ, List.getElem?_cons_zero]; rfl) (fun K hK => ?_) ?_
              · skip
                obtain ⟨y00, y01, yf0⟩ := P7.out.cells2
                go_simp
                clear y00 y01 yf0
                refine named_store2 P7.out ?_
                intro Ws10 hbk hgr hsz
                have hsz5 := hid hsz
                clear hsz
                replace P6 := hid (P6.out.grown hgr (fun e => P6.out.ne P7.out (by decide) (by simpa using e)))
                replace MN := hid (mem_kept MN.out F7.out hgr)
                replace HQ1 := hid (HQ1.out.grown hgr HQ1.out.size (fun r e => by cases e; have := hszd.out; have := hsz0.out; have := hsz1.out; have := hsz2.out; have := hsz3.out; have := hsz4.out; have := hsz5.out; omega))
                replace P7 := hid hbk
                clear hbk hgr
                refine hK.out _ _ ⟨(XPM.out.step HQ1.out).cells3.1, (XPM.out.step HQ1.out).cells3.2.1, (XPM.out.step HQ1.out).cells3.2.2.1, (XPS.out.step HQ1.out).cells3.1, (XPS.out.step HQ1.out).cells3.2.1, (XPS.out.step HQ1.out).cells3.2.2.1⟩ (fun hS' => ?_)
                clear hK K hS
                have hS := hS'
                clear hS'
                (try simp only [Act.put, List.setIfInBounds_toArray, List.set_cons_zero, List.set_cons_succ])
                refine wpAnyH_done (by kernel_rfl) ?_ _
                refine NoPanic.normal ?_
                clear hS
                go_wp2_with fail
                go_meet
                exact ⟨_, _, A2, c2, B2, d2, rfl, rfl, by have := hszd.out; have := hsz0.out; have := hsz1.out; have := hsz2.out; have := hsz3.out; have := hsz4.out; have := hsz5.out; omega, by have := hszd.out; have := hsz0.out; have := hsz1.out; have := hsz2.out; have := hsz3.out; have := hsz4.out; have := hsz5.out; omega, F6.out, F7.out, ⟨P6.out, P7.out, MN.out, HQ1.out, TR.out⟩⟩
              exact AllReadyH.nil
            exact AllReadyH.nil
          exact AllReadyH.nil
        refine AllReadyH.cons (by simp only [List.getElem?_toArray, List.getElem?_cons_succ, List.getElem?_cons_zero]; rfl) (fun K hK => ?_) ?_
        · skip
          go_simp
          refine named_alloc ?_
          intro Wa8 hbk hb hsz
          have hsz2 := hid hsz
          have F70 := hid (show FarM k A B Wa7.heap.size from HF.out _ (by have := hszd.out; have := hsz0.out; have := hsz1.out; have := hsz2.out; have := HSZ.out; omega))
          replace P6 := hid (P6.out.step hb); replace HQ1 := hid (below_then HQ1.out hb)
          have P7 := hid hbk
          clear hb hbk hsz
          refine hK.out _ _ ⟨(XPM.out.step HQ1.out).cells3.1, (XPM.out.step HQ1.out).cells3.2.1, (XPM.out.step HQ1.out).cells3.2.2.1, (XPS.out.step HQ1.out).cells3.1, (XPS.out.step HQ1.out).cells3.2.1, (XPS.out.step HQ1.out).cells3.2.2.1⟩ (fun hS' => ?_)
          clear hK K hS
          have hS := hS'
          clear hS'
          (try simp only [Act.put, List.setIfInBounds_toArray, List.set_cons_zero, List.set_cons_succ])
          refine wpAnyH_ready (rs := [3]) (by kernel_rfl) (by simp) ?_
          refine AllReadyH.cons (by simp only [List.getElem?_toArray, List.getElem?_cons_succ, List.getElem?_cons_zero]; rfl) (fun K hK => ?_) ?_
          · skip
            go_simp
            refine (rstep_any A k c B k d f ws ls nk na no nn _ (XM.out.step HQ1.out) rfl).mono ?_
            rintro e ws3 ⟨A2, c2, B2, d2, rfl, hmn, hb, htr⟩
            have hsz3 := hid (show Wa8.heap.size ≤ ws3.heap.size from hb.size)
            replace P6 := hid (P6.out.step hb); replace P7 := hid (P7.out.step hb); replace HQ1 := hid (below_then HQ1.out hb)
            clear hb
            rw [← HST.out] at hmn ⊢
            dsimp only at hmn ⊢
            have MN := hid hmn; have TR := hid (show ∀ g, g < w1.heap.size → FarM k A B g → FarM k A2 B2 g from fun g hg hf => htr g (by have := hszd.out; have := hsz0.out; have := hsz1.out; have := hsz2.out; omega) hf)
            have F6 := hid (htr _ (by have := hszd.out; have := hsz0.out; have := hsz1.out; have := hsz2.out; omega) F60.out)
            have F7 := hid (htr _ (by have := hszd.out; have := hsz0.out; have := hsz1.out; have := hsz2.out; omega) F70.out)
            clear hmn htr
            go_wp2_with fail
            refine hK.out _ _ ⟨(XPM.out.step HQ1.out).cells3.1, (XPM.out.step HQ1.out).cells3.2.1, (XPM.out.step HQ1.out).cells3.2.2.1, (XPS.out.step HQ1.out).cells3.1, (XPS.out.step HQ1.out).cells3.2.1, (XPS.out.step HQ1.out).cells3.2.2.1⟩ (fun hS' => ?_)
            clear hK K hS
            have hS := hS'
            clear hS'
            (try simp only [Act.put, List.setIfInBounds_toArray, List.set_cons_zero, List.set_cons_succ])
            refine wpAnyH_take (i := 4) (v := ?_) (by simp only [List.getElem?_toArray, List.getElem?_cons_succ, List.getElem?_cons_zero]; rfl) (by kernel_rfl) (by kernel_rfl) (by kernel_rfl) (fun _ _ _ h => h) (Or.inl ⟨by rfl, ?_⟩) hS ?_
            rotate_left
            · intro w' hSw; (try dsimp only at hSw); go_split_ands; go_simp; (try with_reducible rfl)
            (try simp only [Act.put, List.setIfInBounds_toArray, List.set_cons_zero, List.set_cons_succ])
            refine wpAnyH_take (i := 5) (v := ?_) (by simp only [List.getElem?_toArray, List.getElem?_cons_succ, List.getElem?_cons_zero]; rfl) (by kernel_rfl) (by kernel_rfl) (by kernel_rfl) (fun _ _ _ h => h) (Or.inl ⟨by rfl, ?_⟩) hS ?_
            rotate_left
            · intro w' hSw; (try dsimp only at hSw); go_split_ands; go_simp; (try with_reducible rfl)
            (try simp only [Act.put, List.setIfInBounds_toArray, List.set_cons_zero, List.set_cons_succ])
            refine wpAnyH_take (i := 6) (v := ?_) (by simp only [List.getElem?_toArray, List.getElem?_cons_succ, List.getElem?_cons_zero]; rfl) (by kernel_rfl) (by kernel_rfl) (by kernel_rfl) (fun _ _ _ h => h) (Or.inl ⟨by rfl, ?_⟩) hS ?_
            rotate_left
            · intro w' hSw; (try dsimp only at hSw); go_split_ands; go_simp; (try with_reducible rfl)
            (try simp only [Act.put, List.setIfInBounds_toArray, List.set_cons_zero, List.set_cons_succ])
            refine wpAnyH_ready (rs := [9]) (by kernel_rfl) (by simp) ?_
            refine AllReadyH.cons (by simp only [List.getElem?_toArray, List.getElem?_cons_succ, List.getElem?_cons_zero]; rfl) (fun K hK => ?_) ?_
            · skip
              obtain ⟨y00, y01, y02, yf0⟩ := P6.out.cells3
              go_simp
              clear y00 y01 y02 yf0
              refine named_store3 P6.out ?_
              intro Ws9 hbk hgr hsz
              have hsz4 := hid hsz
              clear hsz
              replace P7 := hid (P7.out.grown hgr (fun e => P6.out.ne P7.out (by decide) (by simpa using e.symm)))
              replace MN := hid (mem_kept MN.out F6.out hgr)
              replace HQ1 := hid (HQ1.out.grown hgr HQ1.out.size (fun r e => by cases e; have := hszd.out; have := hsz0.out; have := hsz1.out; have := hsz2.out; have := hsz3.out; have := hsz4.out; omega))
              replace P6 := hid hbk
              clear hbk hgr
              refine hK.out _ _ ⟨(XPM.out.step HQ1.out).cells3.1, (XPM.out.step HQ1.out).cells3.2.1, (XPM.out.step HQ1.out).cells3.2.2.1, (XPS.out.step HQ1.out).cells3.1, (XPS.out.step HQ1.out).cells3.2.1, (XPS.out.step HQ1.out).cells3.2.2.1⟩ (fun hS' => ?_)
              clear hK K hS
              have hS := hS'
              clear hS'
              (try simp only [Act.put, List.setIfInBounds_toArray, List.set_cons_zero, List.set_cons_succ])
              refine wpAnyH_ready (rs := [10]) (by kernel_rfl) (by simp) ?_
              refine AllReadyH.cons (by simp only [List.getElem?_toArray, List.getElem?_cons_succ, List.getElem?_cons_zero]; rfl) (fun K hK => ?_) ?_
              · skip
                obtain ⟨y00, y01, yf0⟩ := P7.out.cells2
                go_simp
                clear y00 y01 yf0
                refine named_store2 P7.out ?_
                intro Ws10 hbk hgr hsz
                have hsz5 := hid hsz
                clear hsz
                replace P6 := hid (P6.out.grown hgr (fun e => P6.out.ne P7.out (by decide) (by simpa using e)))
                replace MN := hid (mem_kept MN.out F7.out hgr)
                replace HQ1 := hid (HQ1.out.grown hgr HQ1.out.size (fun r e => by cases e; have := hszd.out; have := hsz0.out; have := hsz1.out; have := hsz2.out; have := hsz3.out; have := hsz4.out; have := hsz5.out; omega))
                replace P7 := hid hbk
                clear hbk hgr
                refine hK.out _ _ ⟨(XPM.out.step HQ1.out).cells3.1, (XPM.out.step HQ1.out).cells3.2.1, (XPM.out.step HQ1.out).cells3.2.2.1, (XPS.out.step HQ1.out).cells3.1, (XPS.out.step HQ1.out).cells3.2.1, (XPS.out.step HQ1.out).cells3.2.2.1⟩ (fun hS' => ?_)
                clear hK K hS
                have hS := hS'
                clear hS'
                (try simp only [Act.put, List.setIfInBounds_toArray, List.set_cons_zero, List.set_cons_succ])
                refine wpAnyH_done (by kernel_rfl) ?_ _
                refine NoPanic.normal ?_
                clear hS
                go_wp2_with fail
                go_meet
                exact ⟨_, _, A2, c2, B2, d2, rfl, rfl, by have := hszd.out; have := hsz0.out; have := hsz1.out; have := hsz2.out; have := hsz3.out; have := hsz4.out; have := hsz5.out; omega, by have := hszd.out; have := hsz0.out; have := hsz1.out; have := hsz2.out; have := hsz3.out; have := hsz4.out; have := hsz5.out; omega, F6.out, F7.out, ⟨P6.out, P7.out, MN.out, HQ1.out, TR.out⟩⟩
              exact AllReadyH.nil
            exact AllReadyH.nil
          exact AllReadyH.nil
        exact AllReadyH.nil
      refine AllReadyH.cons (by simp only [List.getElem?_toArray, List.getElem?_cons_succ, List.getElem?_cons_zero]; rfl) (fun K hK => ?_) ?_
      · skip
        go_simp
        refine named_alloc ?_
        intro Wa8 hbk hb hsz
        have hsz1 := hid hsz
        have F70 := hid (show FarM k A B wn.heap.size from HF.out _ (by have := hszd.out; have := hsz0.out; have := hsz1.out; have := HSZ.out; omega))
        replace HQ1 := hid (below_then HQ1.out hb)
        have P7 := hid hbk
        clear hb hbk hsz
        refine hK.out _ _ ⟨(XPM.out.step HQ1.out).cells3.1, (XPM.out.step HQ1.out).cells3.2.1, (XPM.out.step HQ1.out).cells3.2.2.1, (XPS.out.step HQ1.out).cells3.1, (XPS.out.step HQ1.out).cells3.2.1, (XPS.out.step HQ1.out).cells3.2.2.1⟩ (fun hS' => ?_)
        clear hK K hS
        have hS := hS'
        clear hS'
        (try simp only [Act.put, List.setIfInBounds_toArray, List.set_cons_zero, List.set_cons_succ])
        refine wpAnyH_ready (rs := [3, 7]) (by kernel_rfl) (by simp) ?_
        refine AllReadyH.cons (by simp only [List.getElem?_toArray, List.getElem?_cons_succ, List.getElem?_cons_zero]; rfl) (fun K hK => ?_) ?_
        · skip
          go_simp
          refine (rstep_any A k c B k d f ws ls nk na no nn _ (XM.out.step HQ1.out) rfl).mono ?_
          rintro e ws3 ⟨A2, c2, B2, d2, rfl, hmn, hb, htr⟩
          have hsz2 := hid (show Wa8.heap.size ≤ ws3.heap.size from hb.size)
          replace P7 := hid (P7.out.step hb); replace HQ1 := hid (below_then HQ1.out hb)
          clear hb
          rw [← HST.out] at hmn ⊢
          dsimp only at hmn ⊢
          have MN := hid hmn; have TR := hid (show ∀ g, g < w1.heap.size → FarM k A B g → FarM k A2 B2 g from fun g hg hf => htr g (by have := hszd.out; have := hsz0.out; have := hsz1.out; omega) hf)
          have F7 := hid (htr _ (by have := hszd.out; have := hsz0.out; have := hsz1.out; omega) F70.out)
          clear hmn htr
          go_wp2_with fail
          refine hK.out _ _ ⟨(XPM.out.step HQ1.out).cells3.1, (XPM.out.step HQ1.out).cells3.2.1, (XPM.out.step HQ1.out).cells3.2.2.1, (XPS.out.step HQ1.out).cells3.1, (XPS.out.step HQ1.out).cells3.2.1, (XPS.out.step HQ1.out).cells3.2.2.1⟩ (fun hS' => ?_)
          clear hK K hS
          have hS := hS'
          clear hS'
          (try simp only [Act.put, List.setIfInBounds_toArray, List.set_cons_zero, List.set_cons_succ])
          refine wpAnyH_take (i := 4) (v := ?_) (by simp only [List.getElem?_toArray, List.getElem?_cons_succ, List.getElem?_cons_zero]; rfl) (by kernel_rfl) (by kernel_rfl) (by kernel_rfl) (fun _ _ _ h => h) (Or.inl ⟨by rfl, ?_⟩) hS ?_
          rotate_left
          · intro w' hSw; (try dsimp only at hSw); go_split_ands; go_simp; (try with_reducible rfl)
          (try simp only [Act.put, List.setIfInBounds_toArray, List.set_cons_zero, List.set_cons_succ])
          refine wpAnyH_take (i := 5) (v := ?_) (by simp only [List.getElem?_toArray, List.getElem?_cons_succ, List.getElem?_cons_zero]; rfl) (by kernel_rfl) (by kernel_rfl) (by kernel_rfl) (fun _ _ _ h => h) (Or.inl ⟨by rfl, ?_⟩) hS ?_
          rotate_left
          · intro w' hSw; (try dsimp only at hSw); go_split_ands; go_simp; (try with_reducible rfl)
          (try simp only [Act.put, List.setIfInBounds_toArray, List.set_cons_zero, List.set_cons_succ])
          refine wpAnyH_take (i := 6) (v := ?_) (by simp only [List.getElem?_toArray, List.getElem?_cons_succ, List.getElem?_cons_zero]; rfl) (by kernel_rfl) (by kernel_rfl) (by kernel_rfl) (fun _ _ _ h => h) (Or.inl ⟨by rfl, ?_⟩) hS ?_
          rotate_left
          · intro w' hSw; (try dsimp only at hSw); go_split_ands; go_simp; (try with_reducible rfl)
          (try simp only [Act.put, List.setIfInBounds_toArray, List.set_cons_zero, List.set_cons_succ])
          refine wpAnyH_ready (rs := [7]) (by kernel_rfl) (by simp) ?_
          refine AllReadyH.cons (by simp only [List.getElem?_toArray, List.getElem?_cons_succ, List.getElem?_cons_zero]; rfl) (fun K hK => ?_) ?_
          · skip
            go_simp
            refine named_alloc ?_
            intro Wa7 hbk hb hsz
            have hsz3 := hid hsz
            have F6 := hid (show FarM k A2 B2 ws3.heap.size from MN.out.far (Nat.le_refl _))
            replace P7 := hid (P7.out.step hb); replace MN := hid (MN.out.step hb); replace HQ1 := hid (below_then HQ1.out hb)
            have P6 := hid hbk
            clear hb hbk hsz
            refine hK.out _ _ ⟨(XPM.out.step HQ1.out).cells3.1, (XPM.out.step HQ1.out).cells3.2.1, (XPM.out.step HQ1.out).cells3.2.2.1, (XPS.out.step HQ1.out).cells3.1, (XPS.out.step HQ1.out).cells3.2.1, (XPS.out.step HQ1.out).cells3.2.2.1⟩ (fun hS' => ?_)
            clear hK K hS
            have hS := hS'
            clear hS'
            (try simp only [Act.put, List.setIfInBounds_toArray, List.set_cons_zero, List.set_cons_succ])
            refine wpAnyH_ready (rs := [9]) (by kernel_rfl) (by simp) ?_
            refine AllReadyH.cons (by simp only [List.getElem?_toArray, List.getElem?_cons_succ, List.getElem?_cons_zero]; rfl) (fun K hK => ?_) ?_
            · skip
              obtain ⟨y00, y01, y02, yf0⟩ := P6.out.cells3
              go_simp
              clear y00 y01 y02 yf0
              refine named_store3 P6.out ?_
              intro Ws9 hbk hgr hsz
              have hsz4 := hid hsz
              clear hsz
              replace P7 := hid (P7.out.grown hgr (fun e => P6.out.ne P7.out (by decide) (by simpa using e.symm)))
              replace MN := hid (mem_kept MN.out F6.out hgr)
              replace HQ1 := hid (HQ1.out.grown hgr HQ1.out.size (fun r e => by cases e; have := hszd.out; have := hsz0.out; have := hsz1.out; have := hsz2.out; have := hsz3.out; have := hsz4.out; omega))
              replace P6 := hid hbk
              clear hbk hgr
              refine hK.out _ _ ⟨(XPM.out.step HQ1.out).cells3.1, (XPM.out.step HQ1.out).cells3.2.1, (XPM.out.step HQ1.out).cells3.2.2.1, (XPS.out.step HQ1.out).cells3.1, (XPS.out.step HQ1.out).cells3.2.1, (XPS.out.step HQ1.out).cells3.2.2.1⟩ (fun hS' => ?_)
              clear hK K hS
              have hS := hS'
              clear hS'
              (try simp only [Act.put, List.setIfInBounds_toArray, List.set_cons_zero, List.set_cons_succ])
              refine wpAnyH_ready (rs := [10]) (by kernel_rfl) (by simp) ?_
              refine AllReadyH.cons (by simp only [List.getElem?_toArray, List.getElem?_cons_succ, List.getElem?_cons_zero]; rfl) (fun K hK => ?_) ?_
              · skip
                obtain ⟨y00, y01, yf0⟩ := P7.out.cells2
                go_simp
                clear y00 y01 yf0
                refine named_store2 P7.out ?_
                intro Ws10 hbk hgr hsz
                have hsz5 := hid hsz
                clear hsz
                replace P6 := hid (P6.out.grown hgr (fun e => P6.out.ne P7.out (by decide) (by simpa using e)))
                replace MN := hid (mem_kept MN.out F7.out hgr)
                replace HQ1 := hid (HQ1.out.grown hgr HQ1.out.size (fun r e => by cases e; have := hszd.out; have := hsz0.out; have := hsz1.out; have := hsz2.out; have := hsz3.out; have := hsz4.out; have := hsz5.out; omega))
                replace P7 := hid hbk
                clear hbk hgr
                refine hK.out _ _ ⟨(XPM.out.step HQ1.out).cells3.1, (XPM.out.step HQ1.out).cells3.2.1, (XPM.out.step HQ1.out).cells3.2.2.1, (XPS.out.step HQ1.out).cells3.1, (XPS.out.step HQ1.out).cells3.2.1, (XPS.out.step HQ1.out).cells3.2.2.1⟩ (fun hS' => ?_)
                clear hK K hS
                have hS := hS'
                clear hS'
                (try simp only [Act.put, List.setIfInBounds_toArray, List.set_cons_zero, List.set_cons_succ])
                refine wpAnyH_done (by kernel_rfl) ?_ _
                refine NoPanic.normal ?_
                clear hS
                go_wp2_with fail
                go_meet
                exact ⟨_, _, A2, c2, B2, d2, rfl, rfl, by have := hszd.out; have := hsz0.out; have := hsz1.out; have := hsz2.out; have := hsz3.out; have := hsz4.out; have := hsz5.out; omega, by have := hszd.out; have := hsz0.out; have := hsz1.out; have := hsz2.out; have := hsz3.out; have := hsz4.out; have := hsz5.out; omega, F6.out, F7.out, ⟨P6.out, P7.out, MN.out, HQ1.out, TR.out⟩⟩
              exact AllReadyH.nil
            exact AllReadyH.nil
          exact AllReadyH.nil
        refine AllReadyH.cons (by simp only [List.getElem?_toArray, List.getElem?_cons_succ, List.getElem?_cons_zero]; rfl) (fun K hK => ?_) ?_
        · skip
          go_simp
          refine named_alloc ?_
          intro Wa7 hbk hb hsz
          have hsz2 := hid hsz
          have F60 := hid (show FarM k A B Wa8.heap.size from HF.out _ (by have := hszd.out; have := hsz0.out; have := hsz1.out; have := hsz2.out; have := HSZ.out; omega))
          replace P7 := hid (P7.out.step hb); replace HQ1 := hid (below_then HQ1.out hb)
          have P6 := hid hbk
          clear hb hbk hsz
          refine hK.out _ _ ⟨(XPM.out.step HQ1.out).cells3.1, (XPM.out.step HQ1.out).cells3.2.1, (XPM.out.step HQ1.out).cells3.2.2.1, (XPS.out.step HQ1.out).cells3.1, (XPS.out.step HQ1.out).cells3.2.1, (XPS.out.step HQ1.out).cells3.2.2.1⟩ (fun hS' => ?_)
          clear hK K hS
          have hS := hS'
          clear hS'
          (try simp only [Act.put, List.setIfInBounds_toArray, List.set_cons_zero, List.set_cons_succ])
          refine wpAnyH_ready (rs := [3]) (by kernel_rfl) (by simp) ?_
          refine AllReadyH.cons (by simp only [List.getElem?_toArray, List.getElem?_cons_succ, List.getElem?_cons_zero]; rfl) (fun K hK => ?_) ?_
          · skip
            go_simp
            refine (rstep_any A k c B k d f ws ls nk na no nn _ (XM.out.step HQ1.out) rfl).mono ?_
            rintro e ws3 ⟨A2, c2, B2, d2, rfl, hmn, hb, htr⟩
            have hsz3 := hid (show Wa7.heap.size ≤ ws3.heap.size from hb.size)
            replace P7 := hid (P7.out.step hb); replace P6 := hid (P6.out.step hb); replace HQ1 := hid (below_then HQ1.out hb)
            clear hb
            rw [← HST.out] at hmn ⊢
            dsimp only at hmn ⊢
            have MN := hid hmn; have TR := hid (show ∀ g, g < w1.heap.size → FarM k A B g → FarM k A2 B2 g from fun g hg hf => htr g (by have := hszd.out; have := hsz0.out; have := hsz1.out; have := hsz2.out; omega) hf)
            have F6 := hid (htr _ (by have := hszd.out; have := hsz0.out; have := hsz1.out; have := hsz2.out; omega) F60.out)
            have F7 := hid (htr _ (by have := hszd.out; have := hsz0.out; have := hsz1.out; have := hsz2.out; omega) F70.out)
            clear hmn htr
            go_wp2_with fail
            refine hK.out _ _ ⟨(XPM.out.step HQ1.out).cells3.1, (XPM.out.step HQ1.out).cells3.2.1, (XPM.out.step HQ1.out).cells3.2.2.1, (XPS.out.step HQ1.out).cells3.1, (XPS.out.step HQ1.out).cells3.2.1, (XPS.out.step HQ1.out).cells3.2.2.1⟩ (fun hS' => ?_)
            clear hK K hS
            have hS := hS'
            clear hS'
            (try simp only [Act.put, List.setIfInBounds_toArray, List.set_cons_zero, List.set_cons_succ])
            refine wpAnyH_take (i := 4) (v := ?_) (by simp only [List.getElem?_toArray, List.getElem?_cons_succ, List.getElem?_cons_zero]; rfl) (by kernel_rfl) (by kernel_rfl) (by kernel_rfl) (fun _ _ _ h => h) (Or.inl ⟨by rfl, ?_⟩) hS ?_
            rotate_left
            · intro w' hSw; (try dsimp only at hSw); go_split_ands; go_simp; (try with_reducible rfl)
            (try simp only [Act.put, List.setIfInBounds_toArray, List.set_cons_zero, List.set_cons_succ])
            refine wpAnyH_take (i := 5) (v := ?_) (by simp only [List.getElem?_toArray, List.getElem?_cons_succ, List.getElem?_cons_zero]; rfl) (by kernel_rfl) (by kernel_rfl) (by kernel_rfl) (fun _ _ _ h => h) (Or.inl ⟨by rfl, ?_⟩) hS ?_
            rotate_left
            · intro w' hSw; (try dsimp only at hSw); go_split_ands; go_simp; (try with_reducible rfl)
            (try simp only [Act.put, List.setIfInBounds_toArray, List.set_cons_zero, List.set_cons_succ])
            refine wpAnyH_take (i := 6) (v := ?_) (by simp only [List.getElem?_toArray, List.getElem?_cons_succ, List.getElem?_cons_zero]; rfl) (by kernel_rfl) (by kernel_rfl) (by kernel_rfl) (fun _ _ _ h => h) (Or.inl ⟨by rfl, ?_⟩) hS ?_
            rotate_left
            · intro w' hSw; (try dsimp only at hSw); go_split_ands; go_simp; (try with_reducible rfl)
            (try simp only [Act.put, List.setIfInBounds_toArray, List.set_cons_zero, List.set_cons_succ])
            refine wpAnyH_ready (rs := [9]) (by kernel_rfl) (by simp) ?_
            refine AllReadyH.cons (by simp only [List.getElem?_toArray, List.getElem?_cons_succ, List.getElem?_cons_zero]; rfl) (fun K hK => ?_) ?_
            · skip
              obtain ⟨y00, y01, y02, yf0⟩ := P6.out.cells3
              go_simp
              clear y00 y01 y02 yf0
              refine named_store3 P6.out ?_
              intro Ws9 hbk hgr hsz
              have hsz4 := hid hsz
              clear hsz
              replace P7 := hid (P7.out.grown hgr (fun e => P6.out.ne P7.out (by decide) (by simpa using e.symm)))
              replace MN := hid (mem_kept MN.out F6.out hgr)
              replace HQ1 := hid (HQ1.out.grown hgr HQ1.out.size (fun r e => by cases e; have := hszd.out; have := hsz0.out; have := hsz1.out; have := hsz2.out; have := hsz3.out; have := hsz4.out; omega))
              replace P6 := hid hbk
              clear hbk hgr
              refine hK.out _ _ ⟨(XPM.out.step HQ1.out).cells3.1, (XPM.out.step HQ1.out).cells3.2.1, (XPM.out.step HQ1.out).cells3.2.2.1, (XPS.out.step HQ1.out).cells3.1, (XPS.out.step HQ1.out).cells3.2.1, (XPS.out.step HQ1.out).cells3.2.2.1⟩ (fun hS' => ?_)
              clear hK K hS
              have hS := hS'
              clear hS'
              (try simp only [Act.put, List.setIfInBounds_toArray, List.set_cons_zero, List.set_cons_succ])
              refine wpAnyH_ready (rs := [10]) (by kernel_rfl) (by simp) ?_
              refine AllReadyH.cons (by simp only [List.getElem?_toArray, List.getElem?_cons_succ, List.getElem?_cons_zero]; rfl) (fun K hK => ?_) ?_
              · skip
                obtain ⟨y00, y01, yf0⟩ := P7.out.cells2
                go_simp
                clear y00 y01 yf0
                refine named_store2 P7.out ?_
                intro Ws10 hbk hgr hsz
                have hsz5 := hid hsz
                clear hsz
                replace P6 := hid (P6.out.grown hgr (fun e => P6.out.ne P7.out (by decide) (by simpa using e)))
                replace MN := hid (mem_kept MN.out F7.out hgr)
                replace HQ1 := hid (HQ1.out.grown hgr HQ1.out.size (fun r e => by cases e; have := hszd.out; have := hsz0.out; have := hsz1.out; have := hsz2.out; have := hsz3.out; have := hsz4.out; have := hsz5.out; omega))
                replace P7 := hid hbk
                clear hbk hgr
                refine hK.out _ _ ⟨(XPM.out.step HQ1.out).cells3.1, (XPM.out.step HQ1.out).cells3.2.1, (XPM.out.step HQ1.out).cells3.2.2.1, (XPS.out.step HQ1.out).cells3.1, (XPS.out.step HQ1.out).cells3.2.1, (XPS.out.step HQ1.out).cells3.2.2.1⟩ (fun hS' => ?_)
                clear hK K hS
                have hS := hS'
                clear hS'
                (try simp only [Act.put, List.setIfInBounds_toArray, List.set_cons_zero, List.set_cons_succ])
                refine wpAnyH_done (by kernel_rfl) ?_ _
                refine NoPanic.normal ?_
                clear hS
                go_wp2_with fail
                go_meet
                exact ⟨_, _, A2, c2, B2, d2, rfl, rfl, by have := hszd.out; have := hsz0.out; have := hsz1.out; have := hsz2.out; have := hsz3.out; have := hsz4.out; have := hsz5.out; omega, by have := hszd.out; have := hsz0.out; have := hsz1.out; have := hsz2.out; have := hsz3.out; have := hsz4.out; have := hsz5.out; omega, F6.out, F7.out, ⟨P6.out, P7.out, MN.out, HQ1.out, TR.out⟩⟩
              exact AllReadyH.nil
            exact AllReadyH.nil
          exact AllReadyH.nil
        exact AllReadyH.nil
      exact AllReadyH.nil
    refine AllReadyH.cons (by simp only [List.getElem?_toArray, List.getElem?_cons_succ, List.getElem?_cons_zero]; rfl) (fun K hK => ?_) ?_
    · skip
      go_simp
      refine named_alloc ?_
      intro Wa7 hbk hb hsz
      have hsz0 := hid hsz
      have F60 := hid (show FarM k A B Wd.heap.size from HF.out _ (by have := hszd.out; have := hsz0.out; have := HSZ.out; omega))
      replace HQ1 := hid (below_then HQ1.out hb)
      have P6 := hid hbk
      clear hb hbk hsz
      refine hK.out _ _ ⟨(XPM.out.step HQ1.out).cells3.1, (XPM.out.step HQ1.out).cells3.2.1, (XPM.out.step HQ1.out).cells3.2.2.1, (XPS.out.step HQ1.out).cells3.1, (XPS.out.step HQ1.out).cells3.2.1, (XPS.out.step HQ1.out).cells3.2.2.1⟩ (fun hS' => ?_)
      clear hK K hS
      have hS := hS'
      clear hS'
      (try simp only [Act.put, List.setIfInBounds_toArray, List.set_cons_zero, List.set_cons_succ])
      refine wpAnyH_ready (rs := [2, 8]) (by kernel_rfl) (by simp) ?_
      refine AllReadyH.cons (by simp only [List.getElem?_toArray, List.getElem?_cons_succ, List.getElem?_cons_zero]; rfl) (fun K hK => ?_) ?_
      · skip
        go_simp
        refine (rspneed_any a p t _).mono ?_
        rintro e wn ⟨rfl, hb⟩
        have hsz1 := hid (show Wa7.heap.size ≤ wn.heap.size from hb.size)
        replace P6 := hid (P6.out.step hb); replace HQ1 := hid (below_then HQ1.out hb)
        clear hb
        rw [← HN.out]
        go_wp2_with fail
        refine hK.out _ _ ⟨(XPM.out.step HQ1.out).cells3.1, (XPM.out.step HQ1.out).cells3.2.1, (XPM.out.step HQ1.out).cells3.2.2.1, (XPS.out.step HQ1.out).cells3.1, (XPS.out.step HQ1.out).cells3.2.1, (XPS.out.step HQ1.out).cells3.2.2.1⟩ (fun hS' => ?_)
        clear hK K hS
        have hS := hS'
        clear hS'
        (try simp only [Act.put, List.setIfInBounds_toArray, List.set_cons_zero, List.set_cons_succ])
        refine wpAnyH_ready (rs := [3, 8]) (by kernel_rfl) (by simp) ?_
        refine AllReadyH.cons (by simp only [List.getElem?_toArray, List.getElem?_cons_succ, List.getElem?_cons_zero]; rfl) (fun K hK => ?_) ?_
        · skip
          go_simp
          refine (rstep_any A k c B k d f ws ls nk na no nn _ (XM.out.step HQ1.out) rfl).mono ?_
          rintro e ws3 ⟨A2, c2, B2, d2, rfl, hmn, hb, htr⟩
          have hsz2 := hid (show wn.heap.size ≤ ws3.heap.size from hb.size)
          replace P6 := hid (P6.out.step hb); replace HQ1 := hid (below_then HQ1.out hb)
          clear hb
          rw [← HST.out] at hmn ⊢
          dsimp only at hmn ⊢
          have MN := hid hmn; have TR := hid (show ∀ g, g < w1.heap.size → FarM k A B g → FarM k A2 B2 g from fun g hg hf => htr g (by have := hszd.out; have := hsz0.out; have := hsz1.out; omega) hf)
          have F6 := hid (htr _ (by have := hszd.out; have := hsz0.out; have := hsz1.out; omega) F60.out)
          clear hmn htr
          go_wp2_with fail
          refine hK.out _ _ ⟨(XPM.out.step HQ1.out).cells3.1, (XPM.out.step HQ1.out).cells3.2.1, (XPM.out.step HQ1.out).cells3.2.2.1, (XPS.out.step HQ1.out).cells3.1, (XPS.out.step HQ1.out).cells3.2.1, (XPS.out.step HQ1.out).cells3.2.2.1⟩ (fun hS' => ?_)
          clear hK K hS
          have hS := hS'
          clear hS'
          (try simp only [Act.put, List.setIfInBounds_toArray, List.set_cons_zero, List.set_cons_succ])
          refine wpAnyH_take (i := 4) (v := ?_) (by simp only [List.getElem?_toArray, List.getElem?_cons_succ, List.getElem?_cons_zero]; rfl) (by kernel_rfl) (by kernel_rfl) (by kernel_rfl) (fun _ _ _ h => h) (Or.inl ⟨by rfl, ?_⟩) hS ?_
          rotate_left
          · intro w' hSw; (try dsimp only at hSw); go_split_ands; go_simp; (try with_reducible rfl)
          (try simp only [Act.put, List.setIfInBounds_toArray, List.set_cons_zero, List.set_cons_succ])
          refine wpAnyH_take (i := 5) (v := ?_) (by simp only [List.getElem?_toArray, List.getElem?_cons_succ, List.getElem?_cons_zero]; rfl) (by kernel_rfl) (by kernel_rfl) (by kernel_rfl) (fun _ _ _ h => h) (Or.inl ⟨by rfl, ?_⟩) hS ?_
          rotate_left
          · intro w' hSw; (try dsimp only at hSw); go_split_ands; go_simp; (try with_reducible rfl)
          (try simp only [Act.put, List.setIfInBounds_toArray, List.set_cons_zero, List.set_cons_succ])
          refine wpAnyH_take (i := 6) (v := ?_) (by simp only [List.getElem?_toArray, List.getElem?_cons_succ, List.getElem?_cons_zero]; rfl) (by kernel_rfl) (by kernel_rfl) (by kernel_rfl) (fun _ _ _ h => h) (Or.inl ⟨by rfl, ?_⟩) hS ?_
          rotate_left
          · intro w' hSw; (try dsimp only at hSw); go_split_ands; go_simp; (try with_reducible rfl)
          (try simp only [Act.put, List.setIfInBounds_toArray, List.set_cons_zero, List.set_cons_succ])
          refine wpAnyH_ready (rs := [8]) (by kernel_rfl) (by simp) ?_
          refine AllReadyH.cons (by simp only [List.getElem?_toArray, List.getElem?_cons_succ, List.getElem?_cons_zero]; rfl) (fun K hK => ?_) ?_
          · skip
            go_simp
            refine named_alloc ?_
            intro Wa8 hbk hb hsz
            have hsz3 := hid hsz
            have F7 := hid (show FarM k A2 B2 ws3.heap.size from MN.out.far (Nat.le_refl _))
            replace P6 := hid (P6.out.step hb); replace MN := hid (MN.out.step hb); replace HQ1 := hid (below_then HQ1.out hb)
            have P7 := hid hbk
            clear hb hbk hsz
            refine hK.out _ _ ⟨(XPM.out.step HQ1.out).cells3.1, (XPM.out.step HQ1.out).cells3.2.1, (XPM.out.step HQ1.out).cells3.2.2.1, (XPS.out.step HQ1.out).cells3.1, (XPS.out.step HQ1.out).cells3.2.1, (XPS.out.step HQ1.out).cells3.2.2.1⟩ (fun hS' => ?_)
            clear hK K hS
            have hS := hS'
            clear hS'
            (try simp only [Act.put, List.setIfInBounds_toArray, List.set_cons_zero, List.set_cons_succ])
            refine wpAnyH_ready (rs := [9]) (by kernel_rfl) (by simp) ?_
            refine AllReadyH.cons (by simp only [List.getElem?_toArray, List.getElem?_cons_succ, List.getElem?_cons_zero]; rfl) (fun K hK => ?_) ?_
            · skip
              obtain ⟨y00, y01, y02, yf0⟩ := P6.out.cells3
              go_simp
              clear y00 y01 y02 yf0
              refine named_store3 P6.out ?_
              intro Ws9 hbk hgr hsz
              have hsz4 := hid hsz
              clear hsz
              replace P7 := hid (P7.out.grown hgr (fun e => P6.out.ne P7.out (by decide) (by simpa using e.symm)))
              replace MN := hid (mem_kept MN.out F6.out hgr)
              replace HQ1 := hid (HQ1.out.grown hgr HQ1.out.size (fun r e => by cases e; have := hszd.out; have := hsz0.out; have := hsz1.out; have := hsz2.out; have := hsz3.out; have := hsz4.out; omega))
              replace P6 := hid hbk
              clear hbk hgr
              refine hK.out _ _ ⟨(XPM.out.step HQ1.out).cells3.1, (XPM.out.step HQ1.out).cells3.2.1, (XPM.out.step HQ1.out).cells3.2.2.1, (XPS.out.step HQ1.out).cells3.1, (XPS.out.step HQ1.out).cells3.2.1, (XPS.out.step HQ1.out).cells3.2.2.1⟩ (fun hS' => ?_)
              clear hK K hS
              have hS := hS'
              clear hS'
              (try simp only [Act.put, List.setIfInBounds_toArray, List.set_cons_zero, List.set_cons_succ])
              refine wpAnyH_ready (rs := [10]) (by kernel_rfl) (by simp) ?_
              refine AllReadyH.cons (by simp only [List.getElem?_toArray, List.getElem?_cons_succ, List.getElem?_cons_zero]; rfl) (fun K hK => ?_) ?_
              · skip
                obtain ⟨y00, y01, yf0⟩ := P7.out.cells2
                go_simp
                clear y00 y01 yf0
                refine named_store2 P7.out ?_
                intro Ws10 hbk hgr hsz
                have hsz5 := hid hsz
                clear hsz
                replace P6 := hid (P6.out.grown hgr (fun e => P6.out.ne P7.out (by decide) (by simpa using e)))
                replace MN := hid (mem_kept MN.out F7.out hgr)
                replace HQ1 := hid (HQ1.out.grown hgr HQ1.out.size (fun r e => by cases e; have := hszd.out; have := hsz0.out; have := hsz1.out; have := hsz2.out; have := hsz3.out; have := hsz4.out; have := hsz5.out; omega))
                replace P7 := hid hbk
                clear hbk hgr
                refine hK.out _ _ ⟨(XPM.out.step HQ1.out).cells3.1, (XPM.out.step HQ1.out).cells3.2.1, (XPM.out.step HQ1.out).cells3.2.2.1, (XPS.out.step HQ1.out).cells3.1, (XPS.out.step HQ1.out).cells3.2.1, (XPS.out.step HQ1.out).cells3.2.2.1⟩ (fun hS' => ?_)
                clear hK K hS
                have hS := hS'
                clear hS'
                (try simp only [Act.put, List.setIfInBounds_toArray, List.set_cons_zero, List.set_cons_succ])
                refine wpAnyH_done (by kernel_rfl) ?_ _
                refine NoPanic.normal ?_
                clear hS
                go_wp2_with fail
                go_meet
                exact ⟨_, _, A2, c2, B2, d2, rfl, rfl, by have := hszd.out; have := hsz0.out; have := hsz1.out; have := hsz2.out; have := hsz3.out; have := hsz4.out; have := hsz5.out; omega, by have := hszd.out; have := hsz0.out; have := hsz1.out; have := hsz2.out; have := hsz3.out; have := hsz4.out; have := hsz5.out; omega, F6.out, F7.out, ⟨P6.out, P7.out, MN.out, HQ1.out, TR.out⟩⟩
              exact AllReadyH.nil
            exact AllReadyH.nil
          exact AllReadyH.nil
        refine AllReadyH.cons (by simp only [List.getElem?_toArray, List.getElem?_cons_succ, List.getElem?_cons_zero]; rfl) (fun K hK => ?_) ?_
        · skip
          go_simp
          refine named_alloc ?_
          intro Wa8 hbk hb hsz
          have hsz2 := hid hsz
          have F70 := hid (show FarM k A B wn.heap.size from HF.out _ (by have := hszd.out; have := hsz0.out; have := hsz1.out; have := hsz2.out; have := HSZ.out; omega))
          replace P6 := hid (P6.out.step hb); replace HQ1 := hid (below_then HQ1.out hb)
          have P7 := hid hbk
          clear hb hbk hsz
          refine hK.out _ _ ⟨(XPM.out.step HQ1.out).cells3.1, (XPM.out.step HQ1.out).cells3.2.1, (XPM.out.step HQ1.out).cells3.2.2.1, (XPS.out.step HQ1.out).cells3.1, (XPS.out.step HQ1.out).cells3.2.1, (XPS.out.step HQ1.out).cells3.2.2.1⟩ (fun hS' => ?_)
          clear hK K hS
          have hS := hS'
          clear hS'
          (try simp only [Act.put, List.setIfInBounds_toArray, List.set_cons_zero, List.set_cons_succ])
          refine wpAnyH_ready (rs := [3]) (by kernel_rfl) (by simp) ?_
          refine AllReadyH.cons (by simp only [List.getElem?_toArray, List.getElem?_cons_succ, List.getElem?_cons_zero]; rfl) (fun K hK => ?_) ?_
          · skip
            go_simp
            refine (rstep_any A k c B k d f ws ls nk na no nn _ (XM.out.step HQ1.out) rfl).mono ?_
            rintro e ws3 ⟨A2, c2, B2, d2, rfl, hmn, hb, htr⟩
            have hsz3 := hid (show Wa8.heap.size ≤ ws3.heap.size from hb.size)
            replace P6 := hid (P6.out.step hb); replace P7 := hid (P7.out.step hb); replace HQ1 := hid (below_then HQ1.out hb)
            clear hb
            rw [← HST.out] at hmn ⊢
            dsimp only at hmn ⊢
            have MN := hid hmn; have TR := hid (show ∀ g, g < w1.heap.size → FarM k A B g → FarM k A2 B2 g from fun g hg hf => htr g (by have := hszd.out; have := hsz0.out; have := hsz1.out; have := hsz2.out; omega) hf)
            have F6 := hid (htr _ (by have := hszd.out; have := hsz0.out; have := hsz1.out; have := hsz2.out; omega) F60.out)
            have F7 := hid (htr _ (by have := hszd.out; have := hsz0.out; have := hsz1.out; have := hsz2.out; omega) F70.out)
            clear hmn htr
            go_wp2_with fail
            refine hK.out _ _ ⟨(XPM.out.step HQ1.out).cells3.1, (XPM.out.step HQ1.out).cells3.2.1, (XPM.out.step HQ1.out).cells3.2.2.1, (XPS.out.step HQ1.out).cells3.1, (XPS.out.step HQ1.out).cells3.2.1, (XPS.out.step HQ1.out).cells3.2.2.1⟩ (fun hS' => ?_)
            clear hK K hS
            have hS := hS'
            clear hS'
            (try simp only [Act.put, List.setIfInBounds_toArray, List.set_cons_zero, List.set_cons_succ])
            refine wpAnyH_take (i := 4) (v := ?_) (by simp only [List.getElem?_toArray, List.getElem?_cons_succ, List.getElem?_cons_zero]; rfl) (by kernel_rfl) (by kernel_rfl) (by kernel_rfl) (fun _ _ _ h => h) (Or.inl ⟨by rfl, ?_⟩) hS ?_
            rotate_left
            · intro w' hSw; (try dsimp only at hSw); go_split_ands; go_simp; (try with_reducible rfl)
            (try simp only [Act.put, List.setIfInBounds_toArray, List.set_cons_zero, List.set_cons_succ])
            refine wpAnyH_take (i := 5) (v := ?_) (by simp only [List.getElem?_toArray, List.getElem?_cons_succ, List.getElem?_cons_zero]; rfl) (by kernel_rfl) (by kernel_rfl) (by kernel_rfl) (fun _ _ _ h => h) (Or.inl ⟨by rfl, ?_⟩) hS ?_
            rotate_left
            · intro w' hSw; (try dsimp only at hSw); go_split_ands; go_simp; (try with_reducible rfl)
            (try simp only [Act.put, List.setIfInBounds_toArray, List.set_cons_zero, List.set_cons_succ])
            refine wpAnyH_take (i := 6) (v := ?_) (by simp only [List.getElem?_toArray, List.getElem?_cons_succ, List.getElem?_cons_zero]; rfl) (by kernel_rfl) (by kernel_rfl) (by kernel_rfl) (fun _ _ _ h => h) (Or.inl ⟨by rfl, ?_⟩) hS ?_
            rotate_left
            · intro w' hSw; (try dsimp only at hSw); go_split_ands; go_simp; (try with_reducible rfl)
            (try simp only [Act.put, List.setIfInBounds_toArray, List.set_cons_zero, List.set_cons_succ])
            refine wpAnyH_ready (rs := [9]) (by kernel_rfl) (by simp) ?_
            refine AllReadyH.cons (by simp only [List.getElem?_toArray, List.getElem?_cons_succ, List.getElem?_cons_zero]; rfl) (fun K hK => ?_) ?_
            · skip
              obtain ⟨y00, y01, y02, yf0⟩ := P6.out.cells3
              go_simp
              clear y00 y01 y02 yf0
              refine named_store3 P6.out ?_
              intro Ws9 hbk hgr hsz
              have hsz4 := hid hsz
              clear hsz
              replace P7 := hid (P7.out.grown hgr (fun e => P6.out.ne P7.out (by decide) (by simpa using e.symm)))
              replace MN := hid (mem_kept MN.out F6.out hgr)
              replace HQ1 := hid (HQ1.out.grown hgr HQ1.out.size (fun r e => by cases e; have := hszd.out; have := hsz0.out; have := hsz1.out; have := hsz2.out; have := hsz3.out; have := hsz4.out; omega))
              replace P6 := hid hbk
              clear hbk hgr
              refine hK.out _ _ ⟨(XPM.out.step HQ1.out).cells3.1, (XPM.out.step HQ1.out).cells3.2.1, (XPM.out.step HQ1.out).cells3.2.2.1, (XPS.out.step HQ1.out).cells3.1, (XPS.out.step HQ1.out).cells3.2.1, (XPS.out.step HQ1.out).cells3.2.2.1⟩ (fun hS' => ?_)
              clear hK K hS
              have hS := hS'
              clear hS'
              (try simp only [Act.put, List.setIfInBounds_toArray, List.set_cons_zero, List.set_cons_succ])
              refine wpAnyH_ready (rs := [10]) (by kernel_rfl) (by simp) ?_
              refine AllReadyH.cons (by simp only [List.getElem?_toArray, List.getElem?_cons_succ, List.getElem?_cons_zero]; rfl) (fun K hK => ?_) ?_
              · skip
                obtain ⟨y00, y01, yf0⟩ := P7.out.cells2
                go_simp
                clear y00 y01 yf0
                refine named_store2 P7.out ?_
                intro Ws10 hbk hgr hsz
                have hsz5 := hid hsz
                clear hsz
                replace P6 := hid (P6.out.grown hgr (fun e => P6.out.ne P7.out (by decide) (by simpa using e)))
                replace MN := hid (mem_kept MN.out F7.out hgr)
                replace HQ1 := hid (HQ1.out.grown hgr HQ1.out.size (fun r e => by cases e; have := hszd.out; have := hsz0.out; have := hsz1.out; have := hsz2.out; have := hsz3.out; have := hsz4.out; have := hsz5.out; omega))
                replace P7 := hid hbk
                clear hbk hgr
                refine hK.out _ _ ⟨(XPM.out.step HQ1.out).cells3.1, (XPM.out.step HQ1.out).cells3.2.1, (XPM.out.step HQ1.out).cells3.2.2.1, (XPS.out.step HQ1.out).cells3.1, (XPS.out.step HQ1.out).cells3.2.1, (XPS.out.step HQ1.out).cells3.2.2.1⟩ (fun hS' => ?_)
                clear hK K hS
                have hS := hS'
                clear hS'
                (try simp only [Act.put, List.setIfInBounds_toArray, List.set_cons_zero, List.set_cons_succ])
                refine wpAnyH_done (by kernel_rfl) ?_ _
                refine NoPanic.normal ?_
                clear hS
                go_wp2_with fail
                go_meet
                exact ⟨_, _, A2, c2, B2, d2, rfl, rfl, by have := hszd.out; have := hsz0.out; have := hsz1.out; have := hsz2.out; have := hsz3.out; have := hsz4.out; have := hsz5.out; omega, by have := hszd.out; have := hsz0.out; have := hsz1.out; have := hsz2.out; have := hsz3.out; have := hsz4.out; have := hsz5.out; omega, F6.out, F7.out, ⟨P6.out, P7.out, MN.out, HQ1.out, TR.out⟩⟩
              exact AllReadyH.nil
            exact AllReadyH.nil
          exact AllReadyH.nil
        exact AllReadyH.nil
      refine AllReadyH.cons (by simp only [List.getElem?_toArray, List.getElem?_cons_succ, List.getElem?_cons_zero]; rfl) (fun K hK => ?_) ?_
      · skip
        go_simp
        refine named_alloc ?_
        intro Wa8 hbk hb hsz
        have hsz1 := hid hsz
        have F70 := hid (show FarM k A B Wa7.heap.size from HF.out _ (by have := hszd.out; have := hsz0.out; have := hsz1.out; have := HSZ.out; omega))
        replace P6 := hid (P6.out.step hb); replace HQ1 := hid (below_then HQ1.out hb)
        have P7 := hid hbk
        clear hb hbk hsz
        refine hK.out _ _ ⟨(XPM.out.step HQ1.out).cells3.1, (XPM.out.step HQ1.out).cells3.2.1, (XPM.out.step HQ1.out).cells3.2.2.1, (XPS.out.step HQ1.out).cells3.1, (XPS.out.step HQ1.out).cells3.2.1, (XPS.out.step HQ1.out).cells3.2.2.1⟩ (fun hS' => ?_)
        clear hK K hS
        have hS := hS'
        clear hS'
        (try simp only [Act.put, List.setIfInBounds_toArray, List.set_cons_zero, List.set_cons_succ])
        refine wpAnyH_ready (rs := [2]) (by kernel_rfl) (by simp) ?_
        refine AllReadyH.cons (by simp only [List.getElem?_toArray, List.getElem?_cons_succ, List.getElem?_cons_zero]; rfl) (fun K hK => ?_) ?_
        · skip
          go_simp
          refine (rspneed_any a p t _).mono ?_
          rintro e wn ⟨rfl, hb⟩
          have hsz2 := hid (show Wa8.heap.size ≤ wn.heap.size from hb.size)
          replace P6 := hid (P6.out.step hb); replace P7 := hid (P7.out.step hb); replace HQ1 := hid (below_then HQ1.out hb)
          clear hb
          rw [← HN.out]
          go_wp2_with fail
          refine hK.out _ _ ⟨(XPM.out.step HQ1.out).cells3.1, (XPM.out.step HQ1.out).cells3.2.1, (XPM.out.step HQ1.out).cells3.2.2.1, (XPS.out.step HQ1.out).cells3.1, (XPS.out.step HQ1.out).cells3.2.1, (XPS.out.step HQ1.out).cells3.2.2.1⟩ (fun hS' => ?_)
          clear hK K hS
          have hS := hS'
          clear hS'
          (try simp only [Act.put, List.setIfInBounds_toArray, List.set_cons_zero, List.set_cons_succ])
          refine wpAnyH_ready (rs := [3]) (by kernel_rfl) (by simp) ?_
          refine AllReadyH.cons (by simp only [List.getElem?_toArray, List.getElem?_cons_succ, List.getElem?_cons_zero]; rfl) (fun K hK => ?_) ?_
          · skip
            go_simp
            refine (rstep_any A k c B k d f ws ls nk na no nn _ (XM.out.step HQ1.out) rfl).mono ?_
            rintro e ws3 ⟨A2, c2, B2, d2, rfl, hmn, hb, htr⟩
            have hsz3 := hid (show wn.heap.size ≤ ws3.heap.size from hb.size)
            replace P6 := hid (P6.out.step hb); replace P7 := hid (P7.out.step hb); replace HQ1 := hid (below_then HQ1.out hb)
            clear hb
            rw [← HST.out] at hmn ⊢
            dsimp only at hmn ⊢
            have MN := hid hmn; have TR := hid (show ∀ g, g < w1.heap.size → FarM k A B g → FarM k A2 B2 g from fun g hg hf => htr g (by have := hszd.out; have := hsz0.out; have := hsz1.out; have := hsz2.out; omega) hf)
            have F6 := hid (htr _ (by have := hszd.out; have := hsz0.out; have := hsz1.out; have := hsz2.out; omega) F60.out)
            have F7 := hid (htr _ (by have := hszd.out; have := hsz0.out; have := hsz1.out; have := hsz2.out; omega) F70.out)
            clear hmn htr
            go_wp2_with fail
            refine hK.out _ _ ⟨(XPM.out.step HQ1.out).cells3.1, (XPM.out.step HQ1.out).cells3.2.1, (XPM.out.step HQ1.out).cells3.2.2.1, (XPS.out.step HQ1.out).cells3.1, (XPS.out.step HQ1.out).cells3.2.1, (XPS.out.step HQ1.out).cells3.2.2.1⟩ (fun hS' => ?_)
            clear hK K hS
            have hS := hS'
            clear hS'
            (try simp only [Act.put, List.setIfInBounds_toArray, List.set_cons_zero, List.set_cons_succ])
            refine wpAnyH_take (i := 4) (v := ?_) (by simp only [List.getElem?_toArray, List.getElem?_cons_succ, List.getElem?_cons_zero]; rfl) (by kernel_rfl) (by kernel_rfl) (by kernel_rfl) (fun _ _ _ h => h) (Or.inl ⟨by rfl, ?_⟩) hS ?_
            rotate_left
            · intro w' hSw; (try dsimp only at hSw); go_split_ands; go_simp; (try with_reducible rfl)
            (try simp only [Act.put, List.setIfInBounds_toArray, List.set_cons_zero, List.set_cons_succ])
            refine wpAnyH_take (i := 5) (v := ?_) (by simp only [List.getElem?_toArray, List.getElem?_cons_succ, List.getElem?_cons_zero]; rfl) (by kernel_rfl) (by kernel_rfl) (by kernel_rfl) (fun _ _ _ h => h) (Or.inl ⟨by rfl, ?_⟩) hS ?_
            rotate_left
            · intro w' hSw; (try dsimp only at hSw); go_split_ands; go_simp; (try with_reducible rfl)
            (try simp only [Act.put, List.setIfInBounds_toArray, List.set_cons_zero, List.set_cons_succ])
            refine wpAnyH_take (i := 6) (v := ?_) (by simp only [List.getElem?_toArray, List.getElem?_cons_succ, List.getElem?_cons_zero]; rfl) (by kernel_rfl) (by kernel_rfl) (by kernel_rfl) (fun _ _ _ h => h) (Or.inl ⟨by rfl, ?_⟩) hS ?_
            rotate_left
            · intro w' hSw; (try dsimp only at hSw); go_split_ands; go_simp; (try with_reducible rfl)
            (try simp only [Act.put, List.setIfInBounds_toArray, List.set_cons_zero, List.set_cons_succ])
            refine wpAnyH_ready (rs := [9]) (by kernel_rfl) (by simp) ?_
            refine AllReadyH.cons (by simp only [List.getElem?_toArray, List.getElem?_cons_succ, List.getElem?_cons_zero]; rfl) (fun K hK => ?_) ?_
            · skip
              obtain ⟨y00, y01, y02, yf0⟩ := P6.out.cells3
              go_simp
              clear y00 y01 y02 yf0
              refine named_store3 P6.out ?_
              intro Ws9 hbk hgr hsz
              have hsz4 := hid hsz
              clear hsz
              replace P7 := hid (P7.out.grown hgr (fun e => P6.out.ne P7.out (by decide) (by simpa using e.symm)))
              replace MN := hid (mem_kept MN.out F6.out hgr)
              replace HQ1 := hid (HQ1.out.grown hgr HQ1.out.size (fun r e => by cases e; have := hszd.out; have := hsz0.out; have := hsz1.out; have := hsz2.out; have := hsz3.out; have := hsz4.out; omega))
              replace P6 := hid hbk
              clear hbk hgr
              refine hK.out _ _ ⟨(XPM.out.step HQ1.out).cells3.1, (XPM.out.step HQ1.out).cells3.2.1, (XPM.out.step HQ1.out).cells3.2.2.1, (XPS.out.step HQ1.out).cells3.1, (XPS.out.step HQ1.out).cells3.2.1, (XPS.out.step HQ1.out).cells3.2.2.1⟩ (fun hS' => ?_)
              clear hK K hS
              have hS := hS'
              clear hS'
              (try simp only [Act.put, List.setIfInBounds_toArray, List.set_cons_zero, List.set_cons_succ])
              refine wpAnyH_ready (rs := [10]) (by kernel_rfl) (by simp) ?_
              refine AllReadyH.cons (by simp only [List.getElem?_toArray, List.getElem?_cons_succ, List.getElem?_cons_zero]; rfl) (fun K hK => ?_) ?_
              · skip
                obtain ⟨y00, y01, yf0⟩ := P7.out.cells2
                go_simp
                clear y00 y01 yf0
                refine named_store2 P7.out ?_
                intro Ws10 hbk hgr hsz
                have hsz5 := hid hsz
                clear hsz
                replace P6 := hid (P6.out.grown hgr (fun e => P6.out.ne P7.out (by decide) (by simpa using e)))
                replace MN := hid (mem_kept MN.out F7.out hgr)
                replace HQ1 := hid (HQ1.out.grown hgr HQ1.out.size (fun r e => by cases e; have := hszd.out; have := hsz0.out; have := hsz1.out; have := hsz2.out; have := hsz3.out; have := hsz4.out; have := hsz5.out; omega))
                replace P7 := hid hbk
                clear hbk hgr
                refine hK.out _ _ ⟨(XPM.out.step HQ1.out).cells3.1, (XPM.out.step HQ1.out).cells3.2.1, (XPM.out.step HQ1.out).cells3.2.2.1, (XPS.out.step HQ1.out).cells3.1, (XPS.out.step HQ1.out).cells3.2.1, (XPS.out.step HQ1.out).cells3.2.2.1⟩ (fun hS' => ?_)
                clear hK K hS
                have hS := hS'
                clear hS'
                (try simp only [Act.put, List.setIfInBounds_toArray, List.set_cons_zero, List.set_cons_succ])
                refine wpAnyH_done (by kernel_rfl) ?_ _
                refine NoPanic.normal ?_
                clear hS
                go_wp2_with fail
                go_meet
                exact ⟨_, _, A2, c2, B2, d2, rfl, rfl, by have := hszd.out; have := hsz0.out; have := hsz1.out; have := hsz2.out; have := hsz3.out; have := hsz4.out; have := hsz5.out; omega, by have := hszd.out; have := hsz0.out; have := hsz1.out; have := hsz2.out; have := hsz3.out; have := hsz4.out; have := hsz5.out; omega, F6.out, F7.out, ⟨P6.out, P7.out, MN.out, HQ1.out, TR.out⟩⟩
              exact AllReadyH.nil
            exact AllReadyH.nil
          exact AllReadyH.nil
        exact AllReadyH.nil
      exact AllReadyH.nil
    refine AllReadyH.cons (by simp only [List.getElem?_toArray, List.getElem?_cons_succ, List.getElem?_cons_zero]; rfl) (fun K hK => ?_) ?_
    · skip
      go_simp
      refine named_alloc ?_
      intro Wa8 hbk hb hsz
      have hsz0 := hid hsz
      have F70 := hid (show FarM k A B Wd.heap.size from HF.out _ (by have := hszd.out; have := hsz0.out; have := HSZ.out; omega))
      replace HQ1 := hid (below_then HQ1.out hb)
      have P7 := hid hbk
      clear hb hbk hsz
      refine hK.out _ _ ⟨(XPM.out.step HQ1.out).cells3.1, (XPM.out.step HQ1.out).cells3.2.1, (XPM.out.step HQ1.out).cells3.2.2.1, (XPS.out.step HQ1.out).cells3.1, (XPS.out.step HQ1.out).cells3.2.1, (XPS.out.step HQ1.out).cells3.2.2.1⟩ (fun hS' => ?_)
      clear hK K hS
      have hS := hS'
      clear hS'
      (try simp only [Act.put, List.setIfInBounds_toArray, List.set_cons_zero, List.set_cons_succ])
      refine wpAnyH_ready (rs := [2, 7]) (by kernel_rfl) (by simp) ?_
      refine AllReadyH.cons (by simp only [List.getElem?_toArray, List.getElem?_cons_succ, List.getElem?_cons_zero]; rfl) (fun K hK => ?_) ?_
      · skip
        go_simp
        refine (rspneed_any a p t _).mono ?_
        rintro e wn ⟨rfl, hb⟩
        have hsz1 := hid (show Wa8.heap.size ≤ wn.heap.size from hb.size)
        replace P7 := hid (P7.out.step hb); replace HQ1 := hid (below_then HQ1.out hb)
        clear hb
        rw [← HN.out]
        go_wp2_with fail
        refine hK.out _ _ ⟨(XPM.out.step HQ1.out).cells3.1, (XPM.out.step HQ1.out).cells3.2.1, (XPM.out.step HQ1.out).cells3.2.2.1, (XPS.out.step HQ1.out).cells3.1, (XPS.out.step HQ1.out).cells3.2.1, (XPS.out.step HQ1.out).cells3.2.2.1⟩ (fun hS' => ?_)
        clear hK K hS
        have hS := hS'
        clear hS'
        (try simp only [Act.put, List.setIfInBounds_toArray, List.set_cons_zero, List.set_cons_succ])
        refine wpAnyH_ready (rs := [3, 7]) (by kernel_rfl) (by simp) ?_
        refine AllReadyH.cons (by simp only [List.getElem?_toArray, List.getElem?_cons_succ, List.getElem?_cons_zero]; rfl) (fun K hK => ?_) ?_
        · skip
          go_simp
          refine (rstep_any A k c B k d f ws ls nk na no nn _ (XM.out.step HQ1.out) rfl).mono ?_
          rintro e ws3 ⟨A2, c2, B2, d2, rfl, hmn, hb, htr⟩
          have hsz2 := hid (show wn.heap.size ≤ ws3.heap.size from hb.size)
          replace P7 := hid (P7.out.step hb); replace HQ1 := hid (below_then HQ1.out hb)
          clear hb
          rw [← HST.out] at hmn ⊢
          dsimp only at hmn ⊢
          have MN := hid hmn; have TR := hid (show ∀ g, g < w1.heap.size → FarM k A B g → FarM k A2 B2 g from fun g hg hf => htr g (by have := hszd.out; have := hsz0.out; have := hsz1.out; omega) hf)
          have F7 := hid (htr _ (by have := hszd.out; have := hsz0.out; have := hsz1.out; omega) F70.out)
          clear hmn htr
          go_wp2_with fail
          refine hK.out _ _ ⟨(XPM.out.step HQ1.out).cells3.1, (XPM.out.step HQ1.out).cells3.2.1, (XPM.out.step HQ1.out).cells3.2.2.1, (XPS.out.step HQ1.out).cells3.1, (XPS.out.step HQ1.out).cells3.2.1, (XPS.out.step HQ1.out).cells3.2.2.1⟩ (fun hS' => ?_)
          clear hK K hS
          have hS := hS'
          clear hS'
          (try simp only [Act.put, List.setIfInBounds_toArray, List.set_cons_zero, List.set_cons_succ])
          refine wpAnyH_take (i := 4) (v := ?_) (by simp only [List.getElem?_toArray, List.getElem?_cons_succ, List.getElem?_cons_zero]; rfl) (by kernel_rfl) (by kernel_rfl) (by kernel_rfl) (fun _ _ _ h => h) (Or.inl ⟨by rfl, ?_⟩) hS ?_
          rotate_left
          · intro w' hSw; (try dsimp only at hSw); go_split_ands; go_simp; (try with_reducible rfl)
          (try simp only [Act.put, List.setIfInBounds_toArray, List.set_cons_zero, List.set_cons_succ])
          refine wpAnyH_take (i := 5) (v := ?_) (by simp only [List.getElem?_toArray, List.getElem?_cons_succ, List.getElem?_cons_zero]; rfl) (by kernel_rfl) (by kernel_rfl) (by kernel_rfl) (fun _ _ _ h => h) (Or.inl ⟨by rfl, ?_⟩) hS ?_
          rotate_left
          · intro w' hSw; (try dsimp only at hSw); go_split_ands; go_simp; (try with_reducible rfl)
          (try simp only [Act.put, List.setIfInBounds_toArray, List.set_cons_zero, List.set_cons_succ])
          refine wpAnyH_take (i := 6) (v := ?_) (by simp only [List.getElem?_toArray, List.getElem?_cons_succ, List.getElem?_cons_zero]; rfl) (by kernel_rfl) (by kernel_rfl) (by kernel_rfl) (fun _ _ _ h => h) (Or.inl ⟨by rfl, ?_⟩) hS ?_
          rotate_left
          · intro w' hSw; (try dsimp only at hSw); go_split_ands; go_simp; (try with_reducible rfl)
          (try simp only [Act.put, List.setIfInBounds_toArray, List.set_cons_zero, List.set_cons_succ])
          refine wpAnyH_ready (rs := [7]) (by kernel_rfl) (by simp) ?_
          refine AllReadyH.cons (by simp only [List.getElem?_toArray, List.getElem?_cons_succ, List.getElem?_cons_zero]; rfl) (fun K hK => ?_) ?_
          · skip
            go_simp
            refine named_alloc ?_
            intro Wa7 hbk hb hsz
            have hsz3 := hid hsz
            have F6 := hid (show FarM k A2 B2 ws3.heap.size from MN.out.far (Nat.le_refl _))
            replace P7 := hid (P7.out.step hb); replace MN := hid (MN.out.step hb); replace HQ1 := hid (below_then HQ1.out hb)
            have P6 := hid hbk
            clear hb hbk hsz
            refine hK.out _ _ ⟨(XPM.out.step HQ1.out).cells3.1, (XPM.out.step HQ1.out).cells3.2.1, (XPM.out.step HQ1.out).cells3.2.2.1, (XPS.out.step HQ1.out).cells3.1, (XPS.out.step HQ1.out).cells3.2.1, (XPS.out.step HQ1.out).cells3.2.2.1⟩ (fun hS' => ?_)
            clear hK K hS
            have hS := hS'
            clear hS'
            (try simp only [Act.put, List.setIfInBounds_toArray, List.set_cons_zero, List.set_cons_succ])
            refine wpAnyH_ready (rs := [9]) (by kernel_rfl) (by simp) ?_
            refine AllReadyH.cons (by simp only [List.getElem?_toArray, List.getElem?_cons_succ, List.getElem?_cons_zero]; rfl) (fun K hK => ?_) ?_
            · skip
              obtain ⟨y00, y01, y02, yf0⟩ := P6.out.cells3
              go_simp
              clear y00 y01 y02 yf0
              refine named_store3 P6.out ?_
              intro Ws9 hbk hgr hsz
              have hsz4 := hid hsz
              clear hsz
              replace P7 := hid (P7.out.grown hgr (fun e => P6.out.ne P7.out (by decide) (by simpa using e.symm)))
              replace MN := hid (mem_kept MN.out F6.out hgr)
              replace HQ1 := hid (HQ1.out.grown hgr HQ1.out.size (fun r e => by cases e; have := hszd.out; have := hsz0.out; have := hsz1.out; have := hsz2.out; have := hsz3.out; have := hsz4.out; omega))
              replace P6 := hid hbk
              clear hbk hgr
              refine hK.out _ _ ⟨(XPM.out.step HQ1.out).cells3.1, (XPM.out.step HQ1.out).cells3.2.1, (XPM.out.step HQ1.out).cells3.2.2.1, (XPS.out.step HQ1.out).cells3.1, (XPS.out.step HQ1.out).cells3.2.1, (XPS.out.step HQ1.out).cells3.2.2.1⟩ (fun hS' => ?_)
              clear hK K hS
              have hS := hS'
              clear hS'
              (try simp only [Act.put, List.setIfInBounds_toArray, List.set_cons_zero, List.set_cons_succ])
              refine wpAnyH_ready (rs := [10]) (by kernel_rfl) (by simp) ?_
              refine AllReadyH.cons (by simp only [List.getElem?_toArray, List.getElem?_cons_succ, List.getElem?_cons_zero]; rfl) (fun K hK => ?_) ?_
              · skip
                obtain ⟨y00, y01, yf0⟩ := P7.out.cells2
                go_simp
                clear y00 y01 yf0
                refine named_store2 P7.out ?_
                intro Ws10 hbk hgr hsz
                have hsz5 := hid hsz
                clear hsz
                replace P6 := hid (P6.out.grown hgr (fun e => P6.out.ne P7.out (by decide) (by simpa using e)))
                replace MN := hid (mem_kept MN.out F7.out hgr)
                replace HQ1 := hid (HQ1.out.grown hgr HQ1.out.size (fun r e => by cases e; have := hszd.out; have := hsz0.out; have := hsz1.out; have := hsz2.out; have := hsz3.out; have := hsz4.out; have := hsz5.out; omega))
                replace P7 := hid hbk
                clear hbk hgr
                refine hK.out _ _ ⟨(XPM.out.step HQ1.out).cells3.1, (XPM.out.step HQ1.out).cells3.2.1, (XPM.out.step HQ1.out).cells3.2.2.1, (XPS.out.step HQ1.out).cells3.1, (XPS.out.step HQ1.out).cells3.2.1, (XPS.out.step HQ1.out).cells3.2.2.1⟩ (fun hS' => ?_)
                clear hK K hS
                have hS := hS'
                clear hS'
                (try simp only [Act.put, List.setIfInBounds_toArray, List.set_cons_zero, List.set_cons_succ])
                refine wpAnyH_done (by kernel_rfl) ?_ _
                refine NoPanic.normal ?_
                clear hS
                go_wp2_with fail
                go_meet
                exact ⟨_, _, A2, c2, B2, d2, rfl, rfl, by have := hszd.out; have := hsz0.out; have := hsz1.out; have := hsz2.out; have := hsz3.out; have := hsz4.out; have := hsz5.out; omega, by have := hszd.out; have := hsz0.out; have := hsz1.out; have := hsz2.out; have := hsz3.out; have := hsz4.out; have := hsz5.out; omega, F6.out, F7.out, ⟨P6.out, P7.out, MN.out, HQ1.out, TR.out⟩⟩
              exact AllReadyH.nil
            exact AllReadyH.nil
          exact AllReadyH.nil
        refine AllReadyH.cons (by simp only [List.getElem?_toArray, List.getElem?_cons_succ, List.getElem?_cons_zero]; rfl) (fun K hK => ?_) ?_
        · skip
          go_simp
          refine named_alloc ?_
          intro Wa7 hbk hb hsz
          have hsz2 := hid hsz
          have F60 := hid (show FarM k A B wn.heap.size from HF.out _ (by have := hszd.out; have := hsz0.out; have := hsz1.out; have := hsz2.out; have := HSZ.out; omega))
          replace P7 := hid (P7.out.step hb); replace HQ1 := hid (below_then HQ1.out hb)
          have P6 := hid hbk
          clear hb hbk hsz
          refine hK.out _ _ ⟨(XPM.out.step HQ1.out).cells3.1, (XPM.out.step HQ1.out).cells3.2.1, (XPM.out.step HQ1.out).cells3.2.2.1, (XPS.out.step HQ1.out).cells3.1, (XPS.out.step HQ1.out).cells3.2.1, (XPS.out.step HQ1.out).cells3.2.2.1⟩ (fun hS' => ?_)
          clear hK K hS
          have hS := hS'
          clear hS'
          (try simp only [Act.put, List.setIfInBounds_toArray, List.set_cons_zero, List.set_cons_succ])
          refine wpAnyH_ready (rs := [3]) (by kernel_rfl) (by simp) ?_
          refine AllReadyH.cons (by simp only [List.getElem?_toArray, List.getElem?_cons_succ, List.getElem?_cons_zero]; rfl) (fun K hK => ?_) ?_
          · skip
            go_simp
            refine (rstep_any A k c B k d f ws ls nk na no nn _ (XM.out.step HQ1.out) rfl).mono ?_
            rintro e ws3 ⟨A2, c2, B2, d2, rfl, hmn, hb, htr⟩
            have hsz3 := hid (show Wa7.heap.size ≤ ws3.heap.size from hb.size)
            replace P7 := hid (P7.out.step hb); replace P6 := hid (P6.out.step hb); replace HQ1 := hid (below_then HQ1.out hb)
            clear hb
            rw [← HST.out] at hmn ⊢
            dsimp only at hmn ⊢
            have MN := hid hmn; have TR := hid (show ∀ g, g < w1.heap.size → FarM k A B g → FarM k A2 B2 g from fun g hg hf => htr g (by have := hszd.out; have := hsz0.out; have := hsz1.out; have := hsz2.out; omega) hf)
            have F6 := hid (htr _ (by have := hszd.out; have := hsz0.out; have := hsz1.out; have := hsz2.out; omega) F60.out)
            have F7 := hid (htr _ (by have := hszd.out; have := hsz0.out; have := hsz1.out; have := hsz2.out; omega) F70.out)
            clear hmn htr
            go_wp2_with fail
            refine hK.out _ _ ⟨(XPM.out.step HQ1.out).cells3.1, (XPM.out.step HQ1.out).cells3.2.1, (XPM.out.step HQ1.out).cells3.2.2.1, (XPS.out.step HQ1.out).cells3.1, (XPS.out.step HQ1.out).cells3.2.1, (XPS.out.step HQ1.out).cells3.2.2.1⟩ (fun hS' => ?_)
            clear hK K hS
            have hS := hS'
            clear hS'
            (try simp only [Act.put, List.setIfInBounds_toArray, List.set_cons_zero, List.set_cons_succ])
            refine wpAnyH_take (i := 4) (v := ?_) (by simp only [List.getElem?_toArray, List.getElem?_cons_succ, List.getElem?_cons_zero]; rfl) (by kernel_rfl) (by kernel_rfl) (by kernel_rfl) (fun _ _ _ h => h) (Or.inl ⟨by rfl, ?_⟩) hS ?_
            rotate_left
            · intro w' hSw; (try dsimp only at hSw); go_split_ands; go_simp; (try with_reducible rfl)
            (try simp only [Act.put, List.setIfInBounds_toArray, List.set_cons_zero, List.set_cons_succ])
            refine wpAnyH_take (i := 5) (v := ?_) (by simp only [List.getElem?_toArray, List.getElem?_cons_succ, List.getElem?_cons_zero]; rfl) (by kernel_rfl) (by kernel_rfl) (by kernel_rfl) (fun _ _ _ h => h) (Or.inl ⟨by rfl, ?_⟩) hS ?_
            rotate_left
            · intro w' hSw; (try dsimp only at hSw); go_split_ands; go_simp; (try with_reducible rfl)
            (try simp only [Act.put, List.setIfInBounds_toArray, List.set_cons_zero, List.set_cons_succ])
            refine wpAnyH_take (i := 6) (v := ?_) (by simp only [List.getElem?_toArray, List.getElem?_cons_succ, List.getElem?_cons_zero]; rfl) (by kernel_rfl) (by kernel_rfl) (by kernel_rfl) (fun _ _ _ h => h) (Or.inl ⟨by rfl, ?_⟩) hS ?_
            rotate_left
            · intro w' hSw; (try dsimp only at hSw); go_split_ands; go_simp; (try with_reducible rfl)
            (try simp only [Act.put, List.setIfInBounds_toArray, List.set_cons_zero, List.set_cons_succ])
            refine wpAnyH_ready (rs := [9]) (by kernel_rfl) (by simp) ?_
            refine AllReadyH.cons (by simp only [List.getElem?_toArray, List.getElem?_cons_succ, List.getElem?_cons_zero]; rfl) (fun K hK => ?_) ?_
            · skip
              obtain ⟨y00, y01, y02, yf0⟩ := P6.out.cells3
              go_simp
              clear y00 y01 y02 yf0
              refine named_store3 P6.out ?_
              intro Ws9 hbk hgr hsz
              have hsz4 := hid hsz
              clear hsz
              replace P7 := hid (P7.out.grown hgr (fun e => P6.out.ne P7.out (by decide) (by simpa using e.symm)))
              replace MN := hid (mem_kept MN.out F6.out hgr)
              replace HQ1 := hid (HQ1.out.grown hgr HQ1.out.size (fun r e => by cases e; have := hszd.out; have := hsz0.out; have := hsz1.out; have := hsz2.out; have := hsz3.out; have := hsz4.out; omega))
              replace P6 := hid hbk
              clear hbk hgr
              refine hK.out _ _ ⟨(XPM.out.step HQ1.out).cells3.1, (XPM.out.step HQ1.out).cells3.2.1, (XPM.out.step HQ1.out).cells3.2.2.1, (XPS.out.step HQ1.out).cells3.1, (XPS.out.step HQ1.out).cells3.2.1, (XPS.out.step HQ1.out).cells3.2.2.1⟩ (fun hS' => ?_)
              clear hK K hS
              have hS := hS'
              clear hS'
              (try simp only [Act.put, List.setIfInBounds_toArray, List.set_cons_zero, List.set_cons_succ])
              refine wpAnyH_ready (rs := [10]) (by kernel_rfl) (by simp) ?_
              refine AllReadyH.cons (by simp only [List.getElem?_toArray, List.getElem?_cons_succ, List.getElem?_cons_zero]; rfl) (fun K hK => ?_) ?_
              · skip
                obtain ⟨y00, y01, yf0⟩ := P7.out.cells2
                go_simp
                clear y00 y01 yf0
                refine named_store2 P7.out ?_
                intro Ws10 hbk hgr hsz
                have hsz5 := hid hsz
                clear hsz
                replace P6 := hid (P6.out.grown hgr (fun e => P6.out.ne P7.out (by decide) (by simpa using e)))
                replace MN := hid (mem_kept MN.out F7.out hgr)
                replace HQ1 := hid (HQ1.out.grown hgr HQ1.out.size (fun r e => by cases e; have := hszd.out; have := hsz0.out; have := hsz1.out; have := hsz2.out; have := hsz3.out; have := hsz4.out; have := hsz5.out; omega))
                replace P7 := hid hbk
                clear hbk hgr
                refine hK.out _ _ ⟨(XPM.out.step HQ1.out).cells3.1, (XPM.out.step HQ1.out).cells3.2.1, (XPM.out.step HQ1.out).cells3.2.2.1, (XPS.out.step HQ1.out).cells3.1, (XPS.out.step HQ1.out).cells3.2.1, (XPS.out.step HQ1.out).cells3.2.2.1⟩ (fun hS' => ?_)
                clear hK K hS
                have hS := hS'
                clear hS'
                (try simp only [Act.put, List.setIfInBounds_toArray, List.set_cons_zero, List.set_cons_succ])
                refine wpAnyH_done (by kernel_rfl) ?_ _
                refine NoPanic.normal ?_
                clear hS
                go_wp2_with fail
                go_meet
                exact ⟨_, _, A2, c2, B2, d2, rfl, rfl, by have := hszd.out; have := hsz0.out; have := hsz1.out; have := hsz2.out; have := hsz3.out; have := hsz4.out; have := hsz5.out; omega, by have := hszd.out; have := hsz0.out; have := hsz1.out; have := hsz2.out; have := hsz3.out; have := hsz4.out; have := hsz5.out; omega, F6.out, F7.out, ⟨P6.out, P7.out, MN.out, HQ1.out, TR.out⟩⟩
              exact AllReadyH.nil
            exact AllReadyH.nil
          exact AllReadyH.nil
        exact AllReadyH.nil
      refine AllReadyH.cons (by simp only [List.getElem?_toArray, List.getElem?_cons_succ, List.getElem?_cons_zero]; rfl) (fun K hK => ?_) ?_
      · skip
        go_simp
        refine named_alloc ?_
        intro Wa7 hbk hb hsz
        have hsz1 := hid hsz
        have F60 := hid (show FarM k A B Wa8.heap.size from HF.out _ (by have := hszd.out; have := hsz0.out; have := hsz1.out; have := HSZ.out; omega))
        replace P7 := hid (P7.out.step hb); replace HQ1 := hid (below_then HQ1.out hb)
        have P6 := hid hbk
        clear hb hbk hsz
        refine hK.out _ _ ⟨(XPM.out.step HQ1.out).cells3.1, (XPM.out.step HQ1.out).cells3.2.1, (XPM.out.step HQ1.out).cells3.2.2.1, (XPS.out.step HQ1.out).cells3.1, (XPS.out.step HQ1.out).cells3.2.1, (XPS.out.step HQ1.out).cells3.2.2.1⟩ (fun hS' => ?_)
        clear hK K hS
        have hS := hS'
        clear hS'
        (try simp only [Act.put, List.setIfInBounds_toArray, List.set_cons_zero, List.set_cons_succ])
        refine wpAnyH_ready (rs := [2]) (by kernel_rfl) (by simp) ?_
        refine AllReadyH.cons (by simp only [List.getElem?_toArray, List.getElem?_cons_succ, List.getElem?_cons_zero]; rfl) (fun K hK => ?_) ?_
        · skip
          go_simp
          refine (rspneed_any a p t _).mono ?_
          rintro e wn ⟨rfl, hb⟩
          have hsz2 := hid (show Wa7.heap.size ≤ wn.heap.size from hb.size)
          replace P7 := hid (P7.out.step hb); replace P6 := hid (P6.out.step hb); replace HQ1 := hid (below_then HQ1.out hb)
          clear hb
          rw [← HN.out]
          go_wp2_with fail
          refine hK.out _ _ ⟨(XPM.out.step HQ1.out).cells3.1, (XPM.out.step HQ1.out).cells3.2.1, (XPM.out.step HQ1.out).cells3.2.2.1, (XPS.out.step HQ1.out).cells3.1, (XPS.out.step HQ1.out).cells3.2.1, (XPS.out.step HQ1.out).cells3.2.2.1⟩ (fun hS' => ?_)
          clear hK K hS
          have hS := hS'
          clear hS'
          (try simp only [Act.put, List.setIfInBounds_toArray, List.set_cons_zero, List.set_cons_succ])
          refine wpAnyH_ready (rs := [3]) (by kernel_rfl) (by simp) ?_
          refine AllReadyH.cons (by simp only [List.getElem?_toArray, List.getElem?_cons_succ, List.getElem?_cons_zero]; rfl) (fun K hK => ?_) ?_
          · skip
            go_simp
            refine (rstep_any A k c B k d f ws ls nk na no nn _ (XM.out.step HQ1.out) rfl).mono ?_
            rintro e ws3 ⟨A2, c2, B2, d2, rfl, hmn, hb, htr⟩
            have hsz3 := hid (show wn.heap.size ≤ ws3.heap.size from hb.size)
            replace P7 := hid (P7.out.step hb); replace P6 := hid (P6.out.step hb); replace HQ1 := hid (below_then HQ1.out hb)
            clear hb
            rw [← HST.out] at hmn ⊢
            dsimp only at hmn ⊢
            have MN := hid hmn; have TR := hid (show ∀ g, g < w1.heap.size → FarM k A B g → FarM k A2 B2 g from fun g hg hf => htr g (by have := hszd.out; have := hsz0.out; have := hsz1.out; have := hsz2.out; omega) hf)
            have F6 := hid (htr _ (by have := hszd.out; have := hsz0.out; have := hsz1.out; have := hsz2.out; omega) F60.out)
            have F7 := hid (htr _ (by have := hszd.out; have := hsz0.out; have := hsz1.out; have := hsz2.out; omega) F70.out)
            clear hmn htr
            go_wp2_with fail
            refine hK.out _ _ ⟨(XPM.out.step HQ1.out).cells3.1, (XPM.out.step HQ1.out).cells3.2.1, (XPM.out.step HQ1.out).cells3.2.2.1, (XPS.out.step HQ1.out).cells3.1, (XPS.out.step HQ1.out).cells3.2.1, (XPS.out.step HQ1.out).cells3.2.2.1⟩ (fun hS' => ?_)
            clear hK K hS
            have hS := hS'
            clear hS'
            (try simp only [Act.put, List.setIfInBounds_toArray, List.set_cons_zero, List.set_cons_succ])
            refine wpAnyH_take (i := 4) (v := ?_) (by simp only [List.getElem?_toArray, List.getElem?_cons_succ, List.getElem?_cons_zero]; rfl) (by kernel_rfl) (by kernel_rfl) (by kernel_rfl) (fun _ _ _ h => h) (Or.inl ⟨by rfl, ?_⟩) hS ?_
            rotate_left
            · intro w' hSw; (try dsimp only at hSw); go_split_ands; go_simp; (try with_reducible rfl)
            (try simp only [Act.put, List.setIfInBounds_toArray, List.set_cons_zero, List.set_cons_succ])
            refine wpAnyH_take (i := 5) (v := ?_) (by simp only [List.getElem?_toArray, List.getElem?_cons_succ, List.getElem?_cons_zero]; rfl) (by kernel_rfl) (by kernel_rfl) (by kernel_rfl) (fun _ _ _ h => h) (Or.inl ⟨by rfl, ?_⟩) hS ?_
            rotate_left
            · intro w' hSw; (try dsimp only at hSw); go_split_ands; go_simp; (try with_reducible rfl)
            (try simp only [Act.put, List.setIfInBounds_toArray, List.set_cons_zero, List.set_cons_succ])
            refine wpAnyH_take (i := 6) (v := ?_) (by simp only [List.getElem?_toArray, List.getElem?_cons_succ, List.getElem?_cons_zero]; rfl) (by kernel_rfl) (by kernel_rfl) (by kernel_rfl) (fun _ _ _ h => h) (Or.inl ⟨by rfl, ?_⟩) hS ?_
            rotate_left
            · intro w' hSw; (try dsimp only at hSw); go_split_ands; go_simp; (try with_reducible rfl)
            (try simp only [Act.put, List.setIfInBounds_toArray, List.set_cons_zero, List.set_cons_succ])
            refine wpAnyH_ready (rs := [9]) (by kernel_rfl) (by simp) ?_
            refine AllReadyH.cons (by simp only [List.getElem?_toArray, List.getElem?_cons_succ, List.getElem?_cons_zero]; rfl) (fun K hK => ?_) ?_
            · skip
              obtain ⟨y00, y01, y02, yf0⟩ := P6.out.cells3
              go_simp
              clear y00 y01 y02 yf0
              refine named_store3 P6.out ?_
              intro Ws9 hbk hgr hsz
              have hsz4 := hid hsz
              clear hsz
              replace P7 := hid (P7.out.grown hgr (fun e => P6.out.ne P7.out (by decide) (by simpa using e.symm)))
              replace MN := hid (mem_kept MN.out F6.out hgr)
              replace HQ1 := hid (HQ1.out.grown hgr HQ1.out.size (fun r e => by cases e; have := hszd.out; have := hsz0.out; have := hsz1.out; have := hsz2.out; have := hsz3.out; have := hsz4.out; omega))
              replace P6 := hid hbk
              clear hbk hgr
              refine hK.out _ _ ⟨(XPM.out.step HQ1.out).cells3.1, (XPM.out.step HQ1.out).cells3.2.1, (XPM.out.step HQ1.out).cells3.2.2.1, (XPS.out.step HQ1.out).cells3.1, (XPS.out.step HQ1.out).cells3.2.1, (XPS.out.step HQ1.out).cells3.2.2.1⟩ (fun hS' => ?_)
              clear hK K hS
              have hS := hS'
              clear hS'
              (try simp only [Act.put, List.setIfInBounds_toArray, List.set_cons_zero, List.set_cons_succ])
              refine wpAnyH_ready (rs := [10]) (by kernel_rfl) (by simp) ?_
              refine AllReadyH.cons (by simp only [List.getElem?_toArray, List.getElem?_cons_succ, List.getElem?_cons_zero]; rfl) (fun K hK => ?_) ?_
              · skip
                obtain ⟨y00, y01, yf0⟩ := P7.out.cells2
                go_simp
                clear y00 y01 yf0
                refine named_store2 P7.out ?_
                intro Ws10 hbk hgr hsz
                have hsz5 := hid hsz
                clear hsz
                replace P6 := hid (P6.out.grown hgr (fun e => P6.out.ne P7.out (by decide) (by simpa using e)))
                replace MN := hid (mem_kept MN.out F7.out hgr)
                replace HQ1 := hid (HQ1.out.grown hgr HQ1.out.size (fun r e => by cases e; have := hszd.out; have := hsz0.out; have := hsz1.out; have := hsz2.out; have := hsz3.out; have := hsz4.out; have := hsz5.out; omega))
                replace P7 := hid hbk
                clear hbk hgr
                refine hK.out _ _ ⟨(XPM.out.step HQ1.out).cells3.1, (XPM.out.step HQ1.out).cells3.2.1, (XPM.out.step HQ1.out).cells3.2.2.1, (XPS.out.step HQ1.out).cells3.1, (XPS.out.step HQ1.out).cells3.2.1, (XPS.out.step HQ1.out).cells3.2.2.1⟩ (fun hS' => ?_)
                clear hK K hS
                have hS := hS'
                clear hS'
                (try simp only [Act.put, List.setIfInBounds_toArray, List.set_cons_zero, List.set_cons_succ])
                refine wpAnyH_done (by kernel_rfl) ?_ _
                refine NoPanic.normal ?_
                clear hS
                go_wp2_with fail
                go_meet
                exact ⟨_, _, A2, c2, B2, d2, rfl, rfl, by have := hszd.out; have := hsz0.out; have := hsz1.out; have := hsz2.out; have := hsz3.out; have := hsz4.out; have := hsz5.out; omega, by have := hszd.out; have := hsz0.out; have := hsz1.out; have := hsz2.out; have := hsz3.out; have := hsz4.out; have := hsz5.out; omega, F6.out, F7.out, ⟨P6.out, P7.out, MN.out, HQ1.out, TR.out⟩⟩
              exact AllReadyH.nil
            exact AllReadyH.nil
          exact AllReadyH.nil
        exact AllReadyH.nil
      exact AllReadyH.nil
    exact AllReadyH.nil
  case rest =>
    obtain ⟨g6, g7, A2, c2, B2, d2, rfl, rfl, hg6, hg7, hf6, hf7, hmid⟩ := hcut
    rename World => W4
    have hb := hmid.be
    have P6 := hid hmid.b6; have P7 := hid hmid.b7; have MN := hid hmid.mem; have TR := hid hmid.tr; have HF6 := hid hf6; have HF7 := hid hf7
    clear hmid hf6 hf7
    replace PM := hid (PM.out.step hb); replace PS := hid (PS.out.step hb); replace PR := hid (PR.out.step hb); replace PQ := hid (PQ.out.step hb); replace HB := hid (below_then HB.out hb)
    clear hb HQ1 HM XM XPM XPS
    obtain ⟨⟨ta, tp, tt⟩, htk⟩ : ∃ s, s = spTake (a, p, t) (gx, gy) := ⟨_, rfl⟩
    have HTK := hid htk
    clear htk
    have HE := hid (show rspStep (ws, ls, f) (a, p, t) = ((ws2, ls2, f2), (ta, tp, tt)) by unfold rspStep; rw [if_pos HH.out, ← HN.out, ← HST.out, ← HTK.out])
    go_upto_region 4 with fail
    have bx := (Below.refl W4.heap.size W4).drew
    replace PM := hid (PM.out.step bx); replace PS := hid (PS.out.step bx); replace PR := hid (PR.out.step bx); replace PQ := hid (PQ.out.step bx); replace P6 := hid (P6.out.step bx); replace P7 := hid (P7.out.step bx); replace MN := hid (MN.out.step bx); replace HB := hid (below_then HB.out bx)
    clear bx
    have hszd := hid (show W4.drew.heap.size = W4.heap.size from rfl)
    refine wp_region_noPanic ?_
    refine wp_region_held_drew (S := (fun W' : World => W'.cell? ⟨g6, 0, none⟩ = some (.slice A2 k c2) ∧ W'.cell? ⟨g6, 1, none⟩ = some (.slice B2 k d2) ∧ W'.cell? ⟨g6, 2, none⟩ = some (.bool f2) ∧ W'.cell? ⟨w.heap.size + 1, 0, none⟩ = some (.int .i64 a) ∧ W'.cell? ⟨w.heap.size + 1, 1, none⟩ = some (.int .i64 p) ∧ W'.cell? ⟨w.heap.size + 1, 2, none⟩ = some (.int .u64 t) ∧ W'.cell? ⟨g7, 0, none⟩ = some (.int .u64 gx) ∧ W'.cell? ⟨g7, 1, none⟩ = some (.bool gy))) (by kernel_rfl) ⟨P6.out.cells3.1, P6.out.cells3.2.1, P6.out.cells3.2.2.1, PS.out.cells3.1, PS.out.cells3.2.1, PS.out.cells3.2.2.1, P7.out.cells2.1, P7.out.cells2.2.1⟩ (fun hS => ?_)
    generalize W4.drew = Wd at *
    refine wpAnyH_take (i := 0) (v := ?_) (by simp only [List.getElem?_toArray, List.getElem?_cons_succ, List.getElem?_cons_zero]; rfl) (by kernel_rfl) (by kernel_rfl) (by kernel_rfl) (fun _ _ _ h => h) (Or.inl ⟨by rfl, ?_⟩) hS ?_
    rotate_left
    · intro w' hSw; (try dsimp only at hSw); go_split_ands; go_simp; (try with_reducible rfl)
    (try simp only [Act.put, List.setIfInBounds_toArray, List.set_cons_zero, List.set_cons_succ])
    refine wpAnyH_take (i := 1) (v := ?_) (by simp only [List.getElem?_toArray, List.getElem?_cons_succ, List.getElem?_cons_zero]; rfl) (by kernel_rfl) (by kernel_rfl) (by kernel_rfl) (fun _ _ _ h => h) (Or.inl ⟨by rfl, ?_⟩) hS ?_
    rotate_left
    · intro w' hSw; (try dsimp only at hSw); go_split_ands; go_simp; (try with_reducible rfl)
    (try simp only [Act.put, List.setIfInBounds_toArray, List.set_cons_zero, List.set_cons_succ])
    refine wpAnyH_take (i := 2) (v := ?_) (by simp only [List.getElem?_toArray, List.getElem?_cons_succ, List.getElem?_cons_zero]; rfl) (by kernel_rfl) (by kernel_rfl) (by kernel_rfl) (fun _ _ _ h => h) (Or.inl ⟨by rfl, ?_⟩) hS ?_
    rotate_left
    · intro w' hSw; (try dsimp only at hSw); go_split_ands; go_simp; (try with_reducible rfl)
    (try simp only [Act.put, List.setIfInBounds_toArray, List.set_cons_zero, List.set_cons_succ])
    refine wpAnyH_ready (rs := [3]) (by kernel_rfl) (by simp) ?_
    refine AllReadyH.cons (by simp only [List.getElem?_toArray, List.getElem?_cons_succ, List.getElem?_cons_zero]; rfl) (fun K hK => ?_) ?_
    · skip
      go_simp
      refine (rsptake_any a p t gx gy _).mono ?_
      rintro e w5 ⟨rfl, hb⟩
      have hsz0 := hid (show Wd.heap.size ≤ w5.heap.size from hb.size)
      replace PM := hid (PM.out.step hb); replace PS := hid (PS.out.step hb); replace PR := hid (PR.out.step hb); replace PQ := hid (PQ.out.step hb); replace P6 := hid (P6.out.step hb); replace P7 := hid (P7.out.step hb); replace MN := hid (MN.out.step hb); replace HB := hid (below_then HB.out hb)
      clear hb
      rw [← HTK.out]
      dsimp only
      go_wp2_with fail
      refine hK.out _ _ ⟨P6.out.cells3.1, P6.out.cells3.2.1, P6.out.cells3.2.2.1, PS.out.cells3.1, PS.out.cells3.2.1, PS.out.cells3.2.2.1, P7.out.cells2.1, P7.out.cells2.2.1⟩ (fun hS' => ?_)
      clear hK K hS
      have hS := hS'
      clear hS'
      (try simp only [Act.put, List.setIfInBounds_toArray, List.set_cons_zero, List.set_cons_succ])
      refine wpAnyH_ready (rs := [4]) (by kernel_rfl) (by simp) ?_
      refine AllReadyH.cons (by simp only [List.getElem?_toArray, List.getElem?_cons_succ, List.getElem?_cons_zero]; rfl) (fun K hK => ?_) ?_
      · skip
        obtain ⟨y00, y01, y02, yf0⟩ := PR.out.cells3
        go_simp
        clear y00 y01 y02 yf0
        refine named_store3 PR.out ?_
        intro Ws4 hbk hgr hsz
        have hsz1 := hid hsz
        clear hsz
        replace PM := hid (PM.out.grown hgr (by simp <;> omega))
        replace PS := hid (PS.out.grown hgr (by simp <;> omega))
        replace PQ := hid (PQ.out.grown hgr (by simp <;> omega))
        replace P6 := hid (P6.out.grown hgr (by simp; have := HSZ.out; omega))
        replace P7 := hid (P7.out.grown hgr (by simp; have := HSZ.out; omega))
        replace MN := hid (mem_kept MN.out (TR.out _ (by have := HSZ.out; omega) (HF.out _ (by omega))) hgr)
        replace HB := hid (HB.out.grown hgr HB.out.size (fun r e => by cases e; omega))
        replace PR := hid hbk
        clear hbk hgr
        refine hK.out _ _ ⟨P6.out.cells3.1, P6.out.cells3.2.1, P6.out.cells3.2.2.1, PS.out.cells3.1, PS.out.cells3.2.1, PS.out.cells3.2.2.1, P7.out.cells2.1, P7.out.cells2.2.1⟩ (fun hS' => ?_)
        clear hK K hS
        have hS := hS'
        clear hS'
        (try simp only [Act.put, List.setIfInBounds_toArray, List.set_cons_zero, List.set_cons_succ])
        refine wpAnyH_ready (rs := [5]) (by kernel_rfl) (by simp) ?_
        refine AllReadyH.cons (by simp only [List.getElem?_toArray, List.getElem?_cons_succ, List.getElem?_cons_zero]; rfl) (fun K hK => ?_) ?_
        · skip
          obtain ⟨y00, y01, y02, yf0⟩ := PQ.out.cells3
          go_simp
          clear y00 y01 y02 yf0
          refine named_store3 PQ.out ?_
          intro Ws5 hbk hgr hsz
          have hsz2 := hid hsz
          clear hsz
          replace PM := hid (PM.out.grown hgr (by simp <;> omega))
          replace PS := hid (PS.out.grown hgr (by simp <;> omega))
          replace PR := hid (PR.out.grown hgr (by simp <;> omega))
          replace P6 := hid (P6.out.grown hgr (by simp; have := HSZ.out; omega))
          replace P7 := hid (P7.out.grown hgr (by simp; have := HSZ.out; omega))
          replace MN := hid (mem_kept MN.out (TR.out _ (by have := HSZ.out; omega) (HF.out _ (by omega))) hgr)
          replace HB := hid (HB.out.grown hgr HB.out.size (fun r e => by cases e; omega))
          replace PQ := hid hbk
          clear hbk hgr
          refine hK.out _ _ ⟨P6.out.cells3.1, P6.out.cells3.2.1, P6.out.cells3.2.2.1, PS.out.cells3.1, PS.out.cells3.2.1, PS.out.cells3.2.2.1, P7.out.cells2.1, P7.out.cells2.2.1⟩ (fun hS' => ?_)
          clear hK K hS
          have hS := hS'
          clear hS'
          (try simp only [Act.put, List.setIfInBounds_toArray, List.set_cons_zero, List.set_cons_succ])
          refine wpAnyH_done (by kernel_rfl) ?_ _
          refine NoPanic.normal ?_
          clear hS
          go_wp2
          obtain ⟨q0, q1, q2, qf⟩ := PR.out.cells3; obtain ⟨v0, v1, v2, vf⟩ := PQ.out.cells3
          refine bodyPost_ret (v := .tuple #[mv A2 k c2 B2 k d2 f2, sv ta tp tt]) (by simp [results, Try.results30, go_sem, q0, q1, q2, v0, v1, v2]) rfl ?_
          rw [HE.out]
          exact ⟨A2, c2, B2, d2, rfl, MN.out, HB.out, fun g hg hf => TR.out g (by have := HSZ.out; omega) hf⟩
        exact AllReadyH.nil
      exact AllReadyH.nil
    exact AllReadyH.nil
end Go.Proofs.Ytaeanmkbongfcaa
