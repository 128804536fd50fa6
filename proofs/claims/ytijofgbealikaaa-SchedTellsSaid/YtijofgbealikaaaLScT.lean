/- afterglowlaw04.SchedTells returns true at every number of CPUs, row, and k, and turns nothing old. No condition. -/
import Derived.Test.YtijofgbealikaaaSc24
namespace Go.Proofs.Ytijofgbealikaaa
open Go.RowKit
theorem rwaitb_any (P : Option Addr) (n c lo hi : Nat) (xs : List Int) (q : Int) (w : World) (h : Sl i64 0 w lo hi P n xs) (hn : n ≤ 1000000) :
    Calls Try.prog 17 #[.slice P n c, .int .i64 q] w fun e w' => e = .returned (.int .i64 (waitR xs q)) ∧ Below w.heap.size w w' :=
  (rwait_any P n c lo hi xs q w h hn).mono fun _ _ ⟨h1, h2⟩ => ⟨h1, h2 ▸ Below.refl _ _⟩
theorem equalb_int (A B : Option Addr) (n c m c' lo hi lo' hi' : Nat) (xs ys : List Int) (w : World) (hx : Sl i64 0 w lo hi A n xs) (hy : Sl i64 0 w lo' hi' B m ys) (hn : n ≤ 1000000) (hm : m ≤ 1000000) :
    Calls Try.prog 18 #[.slice A n c, .slice B m c'] w fun e w' => e = .returned (.bool (decide (xs = ys))) ∧ Below w.heap.size w w' :=
  (equal_int A B n c m c' lo hi lo' hi' xs ys w hx hy hn hm).mono fun _ _ ⟨h1, q, h2⟩ => ⟨h1, h2 ▸ below_drewN (Below.refl _ _) q⟩
theorem fairC_ref {q : Nat} {l : List Int} {kk : Int} (hs : SchR (q : Int) l) : fairC (q : Int) l kk = decide (FairP q l kk) := by
  have h8 : ∀ x ∈ l, 0 ≤ x ∧ x < 8 := fun x hx => by have := hs.2 x hx; have := hs.1.2; omega
  have hf := fairP_least (c := q) (by have := hs.1.1; omega) (by have := hs.1.2; omega) h8 kk
  have hl : leastC (q : Int) l = leastF q l l.length := if_pos hs
  unfold fairC
  refine decide_eq_decide.2 ⟨fun h => hf.2 (by rw [← hl]; exact h.2.2), fun h => ⟨h.1, hs, by rw [hl]; exact hf.1 h⟩⟩
set_option maxRecDepth 100000 in
set_option maxHeartbeats 8000000 in
theorem schedtells_any (c : Int) (P : Option Addr) (n cp : Nat) (xs : List Int) (kk : Int) (w : World) (h : Sl i64 0 w 0 w.heap.size P n xs) (hnc : n ≤ cp) :
    Calls Try.prog 3 #[.int .i64 c, .slice P n cp, .int .i64 kk] w fun e w' => e = .returned (.bool true) ∧ Below w.heap.size w w' := by
  have HX := hid h; have HB := hid (Below.refl w.heap.size w)
  clear h
  go_enter Try.func3, Try.ntmps3
  go_wp2_with fail
  refine (swakes_any w).mono ?_
  rintro e w1 ⟨rfl, hb⟩
  replace HB := hid (below_then HB.out hb)
  clear hb
  go_wp2_with fail
  refine (fewI_any P n cp xs w1 ((HX.out.below HB.out (Nat.le_refl _)).mono (Nat.le_refl _) HB.out.size) hnc).mono ?_
  rintro e w2 ⟨⟨A, m, d, rfl, hm, hmd, ho⟩, hb⟩
  have OL := hid ho
  obtain ⟨l, hl⟩ : ∃ l, l = xs.take 60 := ⟨_, rfl⟩
  rw [← hl] at OL
  have HLL := hid hl
  have hlm := hid OL.out.len
  clear ho hl
  replace HB := hid (below_then HB.out hb)
  clear hb
  go_wp2_with fail
  refine (rsright_any c A m d 0 _ l w2 ((OL.out.sl (d := 0)).mono (Nat.zero_le _) (Nat.le_refl _)) (by omega)).mono ?_
  rintro e w3 ⟨rfl, rfl⟩
  go_wp2_with fail
  refine (scheck_any c A m d l w2 ((OL.out.sl (d := 0)).mono (Nat.zero_le _) (Nat.le_refl _)) (by omega)).mono ?_
  rintro e w3 ⟨rfl, hb⟩
  replace OL := hid (OL.out.step hb); replace HB := hid (below_then HB.out hb)
  clear hb
  go_wp2_with fail
  refine (swaits_any c A m d l w3 ((OL.out.sl (d := 0)).mono (Nat.zero_le _) (Nat.le_refl _)) (by omega)).mono ?_
  rintro e w4 ⟨⟨A4, m4, d4, rfl, ho⟩, hb⟩
  have OW := hid ho
  clear ho
  replace OL := hid (OL.out.step hb); replace HB := hid (below_then HB.out hb)
  clear hb
  go_wp2_with fail
  refine (ssplit_any c A m d l w4 ((OL.out.sl (d := 0)).mono (Nat.zero_le _) (Nat.le_refl _)) (by omega)).mono ?_
  rintro e w5 ⟨⟨A5, m5, d5, es, rfl, ho, hra, hes⟩, hb⟩
  have OR := hid ho; have RA := hid hra; have HES := hid hes
  clear ho hra hes
  replace OL := hid (OL.out.step hb); replace OW := hid (OW.out.step hb); replace HB := hid (below_then HB.out hb)
  clear hb
  by_cases hs : SchR c l
  rotate_left
  · skip
    have ew : waitsC c l = [] := if_neg hs
    have es0 : splitC c l = [] := if_neg hs
    have EC := hid (show scheckC c l = 140 from if_neg hs)
    have EF := hid (show fairC c l kk = false from decide_eq_false (fun h => hs h.2.1))
    have EL := hid (show leastC c l = 0 from if_neg hs)
    have ER := hid (show roundsC c l = 0 from if_neg hs)
    rw [ew] at OW
    obtain rfl : m4 = 0 := OW.out.len.symm
    obtain rfl : m5 = 0 := by have h := OR.out.len; have h2 := congrArg List.length HES.out; rw [es0, List.length_map] at h2; simpa using h.symm.trans h2
    rw [decide_eq_false hs, EC.out]
    clear ew es0 OW OR RA HES hs
    go_wp2_with fail
    refine (sfair_any c A m d l kk w5 ((OL.out.sl (d := 0)).mono (Nat.zero_le _) (Nat.le_refl _)) (by omega)).mono ?_
    rintro e w6 ⟨rfl, hb⟩
    rw [EF.out]
    replace OL := hid (OL.out.step hb); replace HB := hid (below_then HB.out hb)
    clear hb
    go_wp2_with fail
    refine (sleast_any c A m d l w6 ((OL.out.sl (d := 0)).mono (Nat.zero_le _) (Nat.le_refl _)) (by omega)).mono ?_
    rintro e w7 ⟨rfl, hb⟩
    rw [EL.out]
    replace OL := hid (OL.out.step hb); replace HB := hid (below_then HB.out hb)
    clear hb
    go_wp2_with fail
    refine (srounds_any c A m d l w7 ((OL.out.sl (d := 0)).mono (Nat.zero_le _) (Nat.le_refl _)) (by omega)).mono ?_
    rintro e w8 ⟨rfl, hb⟩
    rw [ER.out]
    replace OL := hid (OL.out.step hb); replace HB := hid (below_then HB.out hb)
    clear hb
    go_wp2
    refine bodyPost_ret (v := .bool true) (by simp [results, Try.results3, go_sem]) rfl ⟨rfl, HB.out⟩
  have HS := hid hs
  have EC := hid (show scheckC c l = 0 from if_pos hs)
  obtain ⟨q, rfl⟩ := Int.eq_ofNat_of_zero_le (show 0 ≤ c by have := hs.1.1; omega)
  have EW := hid (show waitsC (q : Int) l = (wL l).take q from if_pos hs)
  have EP := hid (show splitC (q : Int) l = (List.range q).map (fun i : Nat => placesL l (i : Int)) from if_pos hs)
  have EL := hid (show leastC (q : Int) l = leastF q l l.length from if_pos hs)
  have ER := hid (show roundsC (q : Int) l = ((rdF q l l.length).1 : Int) from if_pos hs)
  have h8 := hid (show ∀ x ∈ l, 0 ≤ x ∧ x < 8 from fun x hx => by have := hs.2 x hx; have := hs.1.2; omega)
  have hq1 : 1 ≤ q := by have := hs.1.1; omega
  have hq8 : q ≤ 8 := by have := hs.1.2; omega
  rw [decide_eq_true hs, EC.out]
  rw [EW.out] at OW
  rw [EP.out] at HES
  obtain rfl : q = m4 := by rw [← OW.out.len, List.length_take, wL_len]; omega
  obtain rfl : q = m5 := by rw [← OR.out.len, ← List.length_map (f := Prod.fst), HES.out]; simp
  clear hs EC EW EP
  go_wp2_with fail
  have X5 := hid (Below.refl w5.heap.size w5); have HB5 := HB; have OL5 := OL; have OW5 := OW; have OR5 := OR; have RA5 := RA
  clear OL OW OR RA HB
  go_loopw [12, 13, 77] (fun _ _ v wr => ∃ j : Nat, j ≤ q ∧ v = .int .i64 j ∧ Below w5.heap.size w5 wr) (fun _ _ v _ => q - (intOf v).toNat)
  case atStart => exact ⟨0, Nat.zero_le _, rfl, X5.out⟩
  case round =>
    obtain ⟨j, hj, rfl, hbr⟩ := hrel
    clear X5
    have XR := hid hbr
    have OL := hid (OL5.out.step hbr); have OW := hid (OW5.out.step hbr); have OR := hid (OR5.out.step hbr); have RA := hid (RA5.out.step hbr); have HB := hid (below_then HB5.out hbr)
    clear hbr
    by_cases hjq : j < q
    · skip
      have hji : (j : Int) < (q : Int) := by omega
      have hw2 : IntKind.i64.wrap ((j : Int) + 1) = (j : Int) + 1 := by rw [IntKind.wrap_i64]; omega
      obtain ⟨gW, rfl, _, _, hcw, _⟩ := OW.out.at_ 0 hjq
      have hwv : ((wL l).take q)[j]?.getD 0 = (waitR l (j : Int) : Int) := by rw [List.getElem?_take, if_pos hjq]; exact wL_wait h8.out (by omega)
      rw [hwv] at hcw
      clear hwv
      go_wp2_with fail
      clear hcw
      obtain ⟨⟨ys, Ay, ny, cy⟩, hy⟩ : ∃ y, y = es[j]?.getD zRw := ⟨_, rfl⟩
      have hel := OR.out.len
      have hro := RA.out.1 j (by rw [hel]; exact hjq)
      rw [← hy] at hro
      have HRO := hid hro
      have hys := hid (show ys = placesL l (j : Int) by
        have e := congrArg (fun l => l[j]?) HES.out
        simp only [List.getElem?_map] at e
        rw [List.getElem?_range hjq, List.getElem?_eq_getElem (show j < es.length by rw [hel]; exact hjq)] at e
        rw [List.getElem?_eq_getElem (show j < es.length by rw [hel]; exact hjq)] at hy
        simp only [Option.map_some, Option.some.injEq, Option.getD_some] at e hy
        rw [← hy] at e
        exact e)
      have hny := hid (show ny ≤ 1000000 by have h := hro.len; dsimp only at h; have h2 := plF_len l (j : Int) l.length; rw [hys.out] at h; unfold placesL at h; have := hlm.out; omega)
      obtain ⟨gR, hgR, _, _, hcr, _⟩ := OR.out.at_ zRw hjq
      have HCR := hid (show ∀ W, Below wr.heap.size wr W → W.cell? ⟨gR, j, none⟩ = some (.slice Ay ny cy) from fun W hb => by
        obtain ⟨g', e', _, _, hc', _⟩ := (OR.out.step hb).at_ zRw hjq
        rw [hgR] at e'
        cases e'
        rw [← hy] at hc'
        exact hc')
      have HGR := hid hgR
      have XW := hid (Below.refl wr.heap.size wr)
      subst hgR
      clear hy hro hcr hel
      have bx := (Below.refl wr.heap.size wr).drew
      replace OL := hid (OL.out.step bx); replace HRO := hid (HRO.out.step bx); replace XW := hid (below_then XW.out bx)
      clear bx
      have hszd := hid (show wr.drew.heap.size = wr.heap.size from rfl)
      refine wp_region_noPanic ?_
      refine wp_region_held_drew (S := (fun W' : World => W'.cell? ⟨gR, j, none⟩ = some (.slice Ay ny cy))) (by kernel_rfl) (HCR.out _ XW.out) (fun hS => ?_)
      generalize wr.drew = Wd at *
      refine wpAnyH_take (i := 0) (v := ?_) (by simp only [List.getElem?_toArray, List.getElem?_cons_succ, List.getElem?_cons_zero]; rfl) (by kernel_rfl) (by kernel_rfl) (by kernel_rfl) (fun _ _ _ h => h) (Or.inl ⟨by rfl, ?_⟩) hS ?_
      rotate_left
      · intro w' hSw; (try dsimp only at hSw); go_split_ands; go_simp; (try with_reducible rfl)
      (try simp only [Act.put, List.setIfInBounds_toArray, List.set_cons_zero, List.set_cons_succ])
      refine wpAnyH_take (i := 1) (v := ?_) (by simp only [List.getElem?_toArray, List.getElem?_cons_succ, List.getElem?_cons_zero]; rfl) (by kernel_rfl) (by kernel_rfl) (by kernel_rfl) (fun _ _ _ h => h) (Or.inl ⟨by rfl, ?_⟩) hS ?_
      rotate_left
      · intro w' hSw; (try dsimp only at hSw); go_split_ands; go_simp; (try with_reducible rfl)
      (try simp only [Act.put, List.setIfInBounds_toArray, List.set_cons_zero, List.set_cons_succ])
      refine wpAnyH_take (i := 2) (v := ?_) (by simp only [List.getElem?_toArray, List.getElem?_cons_succ, List.getElem?_cons_zero]; rfl) (by kernel_rfl) (by kernel_rfl) (by kernel_rfl) (fun _ _ _ h => h) (Or.inl ⟨by rfl, ?_⟩) hS ?_
      rotate_left
      · intro w' hSw; (try dsimp only at hSw); go_split_ands; go_simp; (try with_reducible rfl)
      (try simp only [Act.put, List.setIfInBounds_toArray, List.set_cons_zero, List.set_cons_succ])
      refine wpAnyH_ready (rs := [3]) (by kernel_rfl) (by simp) ?_
      refine AllReadyH.cons (by simp only [List.getElem?_toArray, List.getElem?_cons_succ, List.getElem?_cons_zero]; rfl) (fun K hK => ?_) ?_
      · skip
        go_simp
        refine (rwaitb_any A m d 0 _ l j _ ((OL.out.sl (d := 0)).mono (Nat.zero_le _) (Nat.le_refl _)) (by omega)).mono ?_
        rintro e ws3 ⟨rfl, hb⟩
        have hsz0 := hid (show Wd.heap.size ≤ ws3.heap.size from hb.size)
        replace OL := hid (OL.out.step hb); replace HRO := hid (HRO.out.step hb); replace XW := hid (below_then XW.out hb)
        clear hb
        go_wp2_with fail
        refine hK.out _ _ (HCR.out _ XW.out) (fun hS' => ?_)
        clear hK K hS
        have hS := hS'
        clear hS'
        (try simp only [Act.put, List.setIfInBounds_toArray, List.set_cons_zero, List.set_cons_succ])
        refine wpAnyH_take (i := 4) (v := ?_) (by simp only [List.getElem?_toArray, List.getElem?_cons_succ, List.getElem?_cons_zero]; rfl) (by kernel_rfl) (by kernel_rfl) (by kernel_rfl) (fun _ _ _ h => h) (Or.inl ⟨by rfl, ?_⟩) hS ?_
        rotate_left
        · intro w' hSw; (try dsimp only at hSw); go_split_ands; go_simp; (try with_reducible rfl)
        (try simp only [Act.put, List.setIfInBounds_toArray, List.set_cons_zero, List.set_cons_succ])
        refine wpAnyH_take (i := 5) (v := ?_) (by simp only [List.getElem?_toArray, List.getElem?_cons_succ, List.getElem?_cons_zero]; rfl) (by kernel_rfl) (by kernel_rfl) (by kernel_rfl) (fun _ _ _ h => h) (Or.inl ⟨by rfl, ?_⟩) hS ?_
        rotate_left
        · intro w' hSw; (try dsimp only at hSw); go_split_ands; go_simp; (try with_reducible rfl)
        (try simp only [Act.put, List.setIfInBounds_toArray, List.set_cons_zero, List.set_cons_succ])
        refine wpAnyH_take (i := 6) (v := ?_) (by simp only [List.getElem?_toArray, List.getElem?_cons_succ, List.getElem?_cons_zero]; rfl) (by kernel_rfl) (by kernel_rfl) (by kernel_rfl) (fun _ _ _ h => h) (Or.inl ⟨by rfl, ?_⟩) hS ?_
        rotate_left
        · intro w' hSw; (try dsimp only at hSw); go_split_ands; go_simp; (try with_reducible rfl)
        (try simp only [Act.put, List.setIfInBounds_toArray, List.set_cons_zero, List.set_cons_succ])
        refine wpAnyH_take (i := 7) (v := ?_) (by simp only [List.getElem?_toArray, List.getElem?_cons_succ, List.getElem?_cons_zero]; rfl) (by kernel_rfl) (by kernel_rfl) (by kernel_rfl) (fun _ _ _ h => h) (Or.inl ⟨by rfl, ?_⟩) hS ?_
        rotate_left
        · intro w' hSw; (try dsimp only at hSw); go_split_ands; go_simp; (try with_reducible rfl)
        (try simp only [Act.put, List.setIfInBounds_toArray, List.set_cons_zero, List.set_cons_succ])
        refine wpAnyH_take (i := 8) (v := ?_) (by simp only [List.getElem?_toArray, List.getElem?_cons_succ, List.getElem?_cons_zero]; rfl) (by kernel_rfl) (by kernel_rfl) (by kernel_rfl) (fun _ _ _ h => h) (Or.inl ⟨by rfl, ?_⟩) hS ?_
        rotate_left
        · intro w' hSw; (try dsimp only at hSw); go_split_ands; go_simp; (try with_reducible rfl)
        (try simp only [Act.put, List.setIfInBounds_toArray, List.set_cons_zero, List.set_cons_succ])
        refine wpAnyH_take (i := 9) (v := ?_) (by simp only [List.getElem?_toArray, List.getElem?_cons_succ, List.getElem?_cons_zero]; rfl) (by kernel_rfl) (by kernel_rfl) (by kernel_rfl) (fun _ _ _ h => h) (Or.inl ⟨by rfl, ?_⟩) hS ?_
        rotate_left
        · intro w' hSw; (try dsimp only at hSw); go_split_ands; go_simp; (try with_reducible rfl)
        (try simp only [Act.put, List.setIfInBounds_toArray, List.set_cons_zero, List.set_cons_succ])
        refine wpAnyH_take (i := 10) (v := ?_) (by simp only [List.getElem?_toArray, List.getElem?_cons_succ, List.getElem?_cons_zero]; rfl) (by kernel_rfl) (by kernel_rfl) (by kernel_rfl) (fun _ _ _ h => h) (Or.inl ⟨by rfl, ?_⟩) hS ?_
        rotate_left
        · intro w' hSw; (try dsimp only at hSw); go_split_ands; go_simp; (try with_reducible rfl)
        (try simp only [Act.put, List.setIfInBounds_toArray, List.set_cons_zero, List.set_cons_succ])
        refine wpAnyH_take (i := 11) (v := ?_) (by simp only [List.getElem?_toArray, List.getElem?_cons_succ, List.getElem?_cons_zero]; rfl) (by kernel_rfl) (by kernel_rfl) (by kernel_rfl) (fun _ _ _ h => h) (Or.inl ⟨by rfl, ?_⟩) hS ?_
        rotate_left
        · intro w' hSw; (try dsimp only at hSw); go_split_ands; go_simp; (try with_reducible rfl)
        (try simp only [Act.put, List.setIfInBounds_toArray, List.set_cons_zero, List.set_cons_succ])
        refine wpAnyH_ready (rs := [12]) (by kernel_rfl) (by simp) ?_
        refine AllReadyH.cons (by simp only [List.getElem?_toArray, List.getElem?_cons_succ, List.getElem?_cons_zero]; rfl) (fun K hK => ?_) ?_
        · skip
          go_simp
          refine (rplaces_any A m d l j _ ((OL.out.sl (d := 0)).mono (Nat.zero_le _) (Nat.le_refl _)) (by omega)).mono ?_
          rintro e ws12 ⟨⟨Ap, mp, dp, rfl, hop⟩, hb⟩
          have hsz1 := hid (show ws3.heap.size ≤ ws12.heap.size from hb.size)
          replace OL := hid (OL.out.step hb); replace HRO := hid (HRO.out.step hb); replace XW := hid (below_then XW.out hb)
          clear hb
          have OP := hid hop
          clear hop
          go_wp2_with fail
          refine hK.out _ _ (HCR.out _ XW.out) (fun hS' => ?_)
          clear hK K hS
          have hS := hS'
          clear hS'
          (try simp only [Act.put, List.setIfInBounds_toArray, List.set_cons_zero, List.set_cons_succ])
          refine wpAnyH_ready (rs := [13]) (by kernel_rfl) (by simp) ?_
          refine AllReadyH.cons (by simp only [List.getElem?_toArray, List.getElem?_cons_succ, List.getElem?_cons_zero]; rfl) (fun K hK => ?_) ?_
          · skip
            go_simp
            refine (equalb_int Ay Ap ny cy mp dp 0 _ 0 _ ys ys _ ((HRO.out.sl (d := 0)).mono (Nat.zero_le _) (Nat.le_refl _)) (by rw [hys.out]; exact ((OP.out.sl (d := 0)).mono (Nat.zero_le _) (Nat.le_refl _))) hny.out (by have h := OP.out.len; have h2 := plF_len l (j : Int) l.length; unfold placesL at h; have := hlm.out; omega)).mono ?_
            rintro e ws13 ⟨rfl, hb⟩
            have hsz2 := hid (show ws12.heap.size ≤ ws13.heap.size from hb.size)
            replace OL := hid (OL.out.step hb); replace HRO := hid (HRO.out.step hb); replace OP := hid (OP.out.step hb); replace XW := hid (below_then XW.out hb)
            clear hb
            rw [decide_eq_true rfl]
            go_wp2_with fail
            refine hK.out _ _ (HCR.out _ XW.out) (fun hS' => ?_)
            clear hK K hS
            have hS := hS'
            clear hS'
            (try simp only [Act.put, List.setIfInBounds_toArray, List.set_cons_zero, List.set_cons_succ])
            refine wpAnyH_take (i := 14) (v := ?_) (by simp only [List.getElem?_toArray, List.getElem?_cons_succ, List.getElem?_cons_zero]; rfl) (by kernel_rfl) (by kernel_rfl) (by kernel_rfl) (fun _ _ _ h => h) (Or.inl ⟨by rfl, ?_⟩) hS ?_
            rotate_left
            · intro w' hSw; (try dsimp only at hSw); go_split_ands; go_simp; (try with_reducible rfl)
            (try simp only [Act.put, List.setIfInBounds_toArray, List.set_cons_zero, List.set_cons_succ])
            refine wpAnyH_take (i := 15) (v := ?_) (by simp only [List.getElem?_toArray, List.getElem?_cons_succ, List.getElem?_cons_zero]; rfl) (by kernel_rfl) (by kernel_rfl) (by kernel_rfl) (fun _ _ _ h => h) (Or.inl ⟨by rfl, ?_⟩) hS ?_
            rotate_left
            · intro w' hSw; (try dsimp only at hSw); go_split_ands; go_simp; (try with_reducible rfl)
            (try simp only [Act.put, List.setIfInBounds_toArray, List.set_cons_zero, List.set_cons_succ])
            refine wpAnyH_done (by kernel_rfl) ?_ _
            refine NoPanic.normal ?_
            clear hS
            go_wp2_with fail
            go_roundw
            case rel => exact ⟨j + 1, by omega, by go_num, XR.out.trans ⟨XW.out.os, XW.out.tape, XW.out.output, XW.out.size, fun i hi => XW.out.block i (Nat.lt_of_lt_of_le hi XR.out.size)⟩⟩
            case measure => simp [intOf]; omega
          exact AllReadyH.nil
        exact AllReadyH.nil
      exact AllReadyH.nil
    obtain rfl : j = q := by omega
    have hnn : ¬ ((j : Int) < (j : Int)) := by omega
    clear OL5 OW5 OR5 RA5 HB5 OW OR RA XR
    have hle := hid (leastF_in hq1 hq8 l l.length (Nat.le_refl _))
    have HFL := hid (fun k : Int => fairP_least hq1 hq8 h8.out k)
    have HFR := hid (fairC_ref (kk := kk) HS.out)
    have hlm2 := hlm.out
    go_wp2_with fail
    refine (sfair_any (j : Int) A m d l kk wr ((OL.out.sl (d := 0)).mono (Nat.zero_le _) (Nat.le_refl _)) (by omega)).mono ?_
    rintro e w6 ⟨rfl, hb⟩
    rw [HFR.out]
    replace OL := hid (OL.out.step hb); replace HB := hid (below_then HB.out hb)
    clear hb
    go_wp2_with fail
    refine (rfair_any j A m d 0 _ l kk w6 ((OL.out.sl (d := 0)).mono (Nat.zero_le _) (Nat.le_refl _)) (by omega) hq8 hmd).mono ?_
    rintro e w7 ⟨rfl, rfl⟩
    obtain ⟨bf, hbf⟩ : ∃ b, b = decide (FairP j l kk) := ⟨_, rfl⟩
    rw [← hbf]
    clear hbf
    have hbb : (bf == bf) = true := by simp
    go_wp2_with fail
    refine (sleast_any (j : Int) A m d l w6 ((OL.out.sl (d := 0)).mono (Nat.zero_le _) (Nat.le_refl _)) (by omega)).mono ?_
    rintro e w7 ⟨rfl, hb⟩
    rw [EL.out]
    replace OL := hid (OL.out.step hb); replace HB := hid (below_then HB.out hb)
    clear hb
    go_wp2_with fail
    refine (rleast_any j A m d 0 _ l (leastF j l l.length) w7 ((OL.out.sl (d := 0)).mono (Nat.zero_le _) (Nat.le_refl _)) (by omega) hq8 hmd HFL.out hle.out.1 (by have := hle.out.2; omega)).mono ?_
    rintro e w8 ⟨rfl, rfl⟩
    go_wp2_with fail
    refine (srounds_any (j : Int) A m d l w7 ((OL.out.sl (d := 0)).mono (Nat.zero_le _) (Nat.le_refl _)) (by omega)).mono ?_
    rintro e w8 ⟨rfl, hb⟩
    rw [ER.out, hlm.out]
    replace OL := hid (OL.out.step hb); replace HB := hid (below_then HB.out hb)
    clear hb
    go_wp2_with fail
    refine (rrounds_any j A m d 0 _ l w8 ((OL.out.sl (d := 0)).mono (Nat.zero_le _) (Nat.le_refl _)) (by omega) hq8 hmd).mono ?_
    rintro e w9 ⟨rfl, rfl⟩
    go_wp2_with fail
    refine (fewI_any P n cp xs w8 ((HX.out.below HB.out (Nat.le_refl _)).mono (Nat.le_refl _) HB.out.size) hnc).mono ?_
    rintro e w9 ⟨⟨A8, m8, d8, rfl, hm8, hmd8, ho⟩, hb⟩
    rw [← HLL.out] at ho
    have O8 := hid ho
    clear ho
    replace OL := hid (OL.out.step hb); replace HB := hid (below_then HB.out hb)
    clear hb
    go_wp2_with fail
    refine (equalb_int A A8 m d m8 d8 0 _ 0 _ l l w9 ((OL.out.sl (d := 0)).mono (Nat.zero_le _) (Nat.le_refl _)) ((O8.out.sl (d := 0)).mono (Nat.zero_le _) (Nat.le_refl _)) (by omega) (by omega)).mono ?_
    rintro e w10 ⟨rfl, hb⟩
    rw [decide_eq_true rfl]
    replace OL := hid (OL.out.step hb); replace O8 := hid (O8.out.step hb); replace HB := hid (below_then HB.out hb)
    clear hb
    go_wp2
    refine bodyPost_ret (v := .bool true) (by simp [results, Try.results3, go_sem]) rfl ⟨rfl, HB.out⟩
end Go.Proofs.Ytijofgbealikaaa
