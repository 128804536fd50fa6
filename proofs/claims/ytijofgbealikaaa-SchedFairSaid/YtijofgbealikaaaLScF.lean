/- afterglowlaw04.SchedFair returns true at every number of CPUs, k, and row of wishes, and turns nothing old. No condition but that k is an int. -/
import Derived.Test.YtijofgbealikaaaLScT
import Derived.Test.YtijofgbealikaaaLScM
namespace Go.Proofs.Ytijofgbealikaaa
open Go.RowKit
theorem mendF_fairP {m : Nat} {kk : Int} (hm : 1 ≤ m) (hm8 : m ≤ 8) (hk : (m : Int) ≤ kk) (xs : List Int) : FairP m (mendF m kk xs).1 kk := by
  have hin : ∀ y ∈ (mendF m kk xs).1, 0 ≤ y ∧ y < 8 := fun y hy => by have := mendF_in (kk := kk) hm hm8 xs y hy; omega
  refine ⟨by omega, fun j hj i hi => ?_⟩
  have hl := (mendF_all m kk xs).1
  have h1 := canB_lt hm (by rw [(mendF_all m kk (xs.take j)).2, wL_len]; exact hm8) (mendF_can hm hm8 hk (xs.take j)) i hi
  rw [(mendF_all m kk (xs.take j)).2, ← mendF_take m kk xs j (by omega), wL_trail hin (by omega) j (by omega)] at h1
  exact h1
theorem mendC_fair {q : Nat} {kk : Int} (h1 : 1 ≤ q) (h8 : q ≤ 8) (hk : (q : Int) ≤ kk) (l : List Int) : SchR (q : Int) (mendF q kk l).1 ∧ fairC (q : Int) (mendF q kk l).1 kk = true ∧ (mendF q kk l).1.length / kk.toNat ≤ (rdF q (mendF q kk l).1 (mendF q kk l).1.length).1 := by
  have hs : SchR (q : Int) (mendF q kk l).1 := ⟨⟨by omega, by omega⟩, fun y hy => mendF_in h1 h8 l y hy⟩
  have hf := mendF_fairP h1 h8 hk l
  refine ⟨hs, by rw [fairC_ref hs]; exact decide_eq_true hf, rounds_fair h1 (by omega) (fun j hj i hi => ?_)⟩
  have := hf.2 j hj i hi
  omega
set_option maxRecDepth 100000 in
set_option maxHeartbeats 8000000 in
theorem schedfair_any (c kk : Int) (P : Option Addr) (n cp : Nat) (xs : List Int) (w : World) (h : Sl i64 0 w 0 w.heap.size P n xs) (hnc : n ≤ cp) (hk : kk ≤ 9223372036854775807) :
    Calls Try.prog 5 #[.int .i64 c, .int .i64 kk, .slice P n cp] w fun e w' => e = .returned (.bool true) ∧ Below w.heap.size w w' := by
  have HX := hid h; have HB := hid (Below.refl w.heap.size w)
  clear h
  go_enter Try.func5, Try.ntmps5
  go_wp2_with fail
  refine (swakes_any w).mono ?_
  rintro e w1 ⟨rfl, hb⟩
  replace HB := hid (below_then HB.out hb)
  clear hb
  go_wp2_with fail
  refine (fewI_any P n cp xs w1 ((HX.out.below HB.out (Nat.le_refl _)).mono (Nat.le_refl _) HB.out.size) hnc).mono ?_
  rintro e w2 ⟨⟨A, m, d, rfl, hm, hmd, ho⟩, hb⟩
  have OL := hid ho
  obtain ⟨l, hl⟩ : ∃ l, l = xs.take 60 := ⟨_, rfl⟩
  rw [← hl] at OL
  have hlm := hid OL.out.len
  clear ho hl
  replace HB := hid (below_then HB.out hb)
  clear hb
  go_wp2_with fail
  refine (smend_any c kk A m d l w2 ((OL.out.sl (d := 0)).mono (Nat.zero_le _) (Nat.le_refl _)) (by omega) hk).mono ?_
  rintro e w3 ⟨⟨A3, m3, d3, rfl, ho⟩, hb⟩
  obtain ⟨⟨co, got⟩, hr⟩ : ∃ r, r = mendC c kk l := ⟨_, rfl⟩
  rw [← hr] at ho ⊢
  dsimp only at ho ⊢
  have HC := hid hr
  have OG := hid ho
  clear ho hr
  replace OL := hid (OL.out.step hb); replace HB := hid (below_then HB.out hb)
  clear hb
  by_cases h1 : 1 ≤ c ∧ c ≤ 8
  rotate_left
  · skip
    obtain ⟨rfl, rfl⟩ : co = 140 ∧ got = [] := by
      have e := HC.out
      unfold mendC at e
      rw [if_pos h1] at e
      exact ⟨congrArg Prod.fst e, congrArg Prod.snd e⟩
    obtain rfl : m3 = 0 := OG.out.len.symm
    go_wp2
    refine bodyPost_ret (v := .bool true) (by simp [results, Try.results5, go_sem]) rfl ⟨rfl, HB.out⟩
  have H1 := hid h1
  by_cases h2 : kk < c
  · skip
    obtain ⟨rfl, rfl⟩ : co = 2 ∧ got = [] := by
      have e := HC.out
      unfold mendC at e
      rw [if_neg (not_not_intro H1.out), if_pos h2] at e
      exact ⟨congrArg Prod.fst e, congrArg Prod.snd e⟩
    obtain rfl : m3 = 0 := OG.out.len.symm
    go_wp2
    refine bodyPost_ret (v := .bool true) (by simp [results, Try.results5, go_sem]) rfl ⟨rfl, HB.out⟩
  obtain ⟨rfl, rfl⟩ : co = 0 ∧ got = (mendF c.toNat kk l).1 := by
    have e := HC.out
    unfold mendC at e
    rw [if_neg (not_not_intro H1.out), if_neg h2] at e
    exact ⟨congrArg Prod.fst e, congrArg Prod.snd e⟩
  obtain ⟨q, rfl⟩ := Int.eq_ofNat_of_zero_le (show 0 ≤ c by omega)
  obtain ⟨K, rfl⟩ := Int.eq_ofNat_of_zero_le (show 0 ≤ kk by omega)
  rw [Int.toNat_natCast] at OG
  have hq1 : 1 ≤ q := by omega
  have hq8 : q ≤ 8 := by omega
  have hqK : (q : Int) ≤ (K : Int) := by omega
  have HFA := hid (mendC_fair hq1 hq8 hqK l)
  obtain ⟨O, hO⟩ : ∃ O, O = (mendF q (K : Int) l).1 := ⟨_, rfl⟩
  have HK := hid (show mendC (q : Int) (K : Int) O = (0, O) by
    unfold mendC
    rw [if_neg (not_not_intro H1.out), if_neg h2, Int.toNat_natCast, hO, mendF_kept hq1 hq8 hqK l])
  rw [← hO] at OG HFA
  have hOl := hid (show O.length = m by rw [hO, (mendF_all q (K : Int) l).1, hlm.out])
  obtain rfl : m = m3 := by rw [← hOl.out, OG.out.len]
  have EC := hid (show scheckC (q : Int) O = 0 from if_pos HFA.out.1)
  have ER := hid (show roundsC (q : Int) O = ((rdF q O O.length).1 : Int) from if_pos HFA.out.1)
  have hK0 : ¬ K = 0 := by omega
  have hK0i : ¬ (K : Int) = 0 := by omega
  clear h1 h2 HC hO
  go_wp2_with fail
  refine (sfair_any (q : Int) A3 m d3 O (K : Int) w3 ((OG.out.sl (d := 0)).mono (Nat.zero_le _) (Nat.le_refl _)) (by omega)).mono ?_
  rintro e w4 ⟨rfl, hb⟩
  rw [HFA.out.2.1]
  replace OL := hid (OL.out.step hb); replace OG := hid (OG.out.step hb); replace HB := hid (below_then HB.out hb)
  clear hb
  go_wp2_with fail
  refine (scheck_any (q : Int) A3 m d3 O w4 ((OG.out.sl (d := 0)).mono (Nat.zero_le _) (Nat.le_refl _)) (by omega)).mono ?_
  rintro e w5 ⟨rfl, hb⟩
  rw [EC.out]
  replace OL := hid (OL.out.step hb); replace OG := hid (OG.out.step hb); replace HB := hid (below_then HB.out hb)
  clear hb
  go_wp2_with fail
  refine (smend_any (q : Int) (K : Int) A3 m d3 O w5 ((OG.out.sl (d := 0)).mono (Nat.zero_le _) (Nat.le_refl _)) (by omega) hk).mono ?_
  rintro e w6 ⟨⟨A6, m6, d6, rfl, ho⟩, hb⟩
  rw [HK.out] at ho ⊢
  dsimp only at ho ⊢
  have OA := hid ho
  obtain rfl : m = m6 := by rw [← hOl.out, OA.out.len]
  clear ho
  replace OL := hid (OL.out.step hb); replace OG := hid (OG.out.step hb); replace HB := hid (below_then HB.out hb)
  clear hb
  go_upto_region 10 with fail
  obtain ⟨R, hR⟩ : ∃ R, R = (rdF q O O.length).1 := ⟨_, rfl⟩
  rw [← hR] at ER
  have hdiv := HFA.out.2.2
  rw [← hR, hOl.out, Int.toNat_natCast] at hdiv
  have hRl := rdF_le q O O.length
  rw [← hR, hOl.out] at hRl
  have hdl := Nat.div_le_self m K
  obtain ⟨dv, hdv⟩ : ∃ dv, dv = m / K := ⟨_, rfl⟩
  have htd : (m : Int).tdiv (K : Int) = (dv : Int) := by rw [hdv]; rfl
  have htd2 : (m : Int) / (K : Int) = (dv : Int) := by rw [hdv]; rfl
  rw [← hdv] at hdiv hdl
  have hw1 : IntKind.i64.wrap ((m : Int).tdiv (K : Int)) = (dv : Int) := by rw [htd, IntKind.wrap_i64]; omega
  have hw2 : IntKind.i64.wrap ((m : Int) / (K : Int)) = (dv : Int) := by rw [htd2, IntKind.wrap_i64]; omega
  have hge : (dv : Int) ≤ (R : Int) := by omega
  have hw3 : IntKind.i64.wrap (dv : Int) = (dv : Int) := by rw [IntKind.wrap_i64]; omega
  clear hdv
  clear htd
  clear hR
  have bx := (Below.refl w6.heap.size w6).drew
  replace OG := hid (OG.out.step bx); replace OA := hid (OA.out.step bx); replace HB := hid (below_then HB.out bx)
  clear bx
  have hszd := hid (show w6.drew.heap.size = w6.heap.size from rfl)
  refine wp_region_noPanic ?_
  refine wp_region_held_drew (S := (fun W' : World => True)) (by kernel_rfl) trivial (fun hS => ?_)
  generalize w6.drew = Wd at *
  refine wpAnyH_take (i := 0) (v := ?_) (by simp only [List.getElem?_toArray, List.getElem?_cons_succ, List.getElem?_cons_zero]; rfl) (by kernel_rfl) (by kernel_rfl) (by kernel_rfl) (fun _ _ _ h => h) (Or.inl ⟨by rfl, ?_⟩) hS ?_
  rotate_left
  · intro w' hSw; (try dsimp only at hSw); go_split_ands; go_simp; (try with_reducible rfl)
  (try simp only [Act.put, List.setIfInBounds_toArray, List.set_cons_zero, List.set_cons_succ])
  refine wpAnyH_take (i := 1) (v := ?_) (by simp only [List.getElem?_toArray, List.getElem?_cons_succ, List.getElem?_cons_zero]; rfl) (by kernel_rfl) (by kernel_rfl) (by kernel_rfl) (fun _ _ _ h => h) (Or.inl ⟨by rfl, ?_⟩) hS ?_
  rotate_left
  · intro w' hSw; (try dsimp only at hSw); go_split_ands; go_simp; (try with_reducible rfl)
  (try simp only [Act.put, List.setIfInBounds_toArray, List.set_cons_zero, List.set_cons_succ])
  refine wpAnyH_take (i := 2) (v := ?_) (by simp only [List.getElem?_toArray, List.getElem?_cons_succ, List.getElem?_cons_zero]; rfl) (by kernel_rfl) (by kernel_rfl) (by kernel_rfl) (fun _ _ _ h => h) (Or.inl ⟨by rfl, ?_⟩) hS ?_
  rotate_left
  · intro w' hSw; (try dsimp only at hSw); go_split_ands; go_simp; (try with_reducible rfl)
  (try simp only [Act.put, List.setIfInBounds_toArray, List.set_cons_zero, List.set_cons_succ])
  refine wpAnyH_take (i := 3) (v := ?_) (by simp only [List.getElem?_toArray, List.getElem?_cons_succ, List.getElem?_cons_zero]; rfl) (by kernel_rfl) (by kernel_rfl) (by kernel_rfl) (fun _ _ _ h => h) (Or.inl ⟨by rfl, ?_⟩) hS ?_
  rotate_left
  · intro w' hSw; (try dsimp only at hSw); go_split_ands; go_simp; (try with_reducible rfl)
  (try simp only [Act.put, List.setIfInBounds_toArray, List.set_cons_zero, List.set_cons_succ])
  refine wpAnyH_take (i := 4) (v := ?_) (by simp only [List.getElem?_toArray, List.getElem?_cons_succ, List.getElem?_cons_zero]; rfl) (by kernel_rfl) (by kernel_rfl) (by kernel_rfl) (fun _ _ _ h => h) (Or.inl ⟨by rfl, ?_⟩) hS ?_
  rotate_left
  · intro w' hSw; (try dsimp only at hSw); go_split_ands; go_simp; (try with_reducible rfl)
  (try simp only [Act.put, List.setIfInBounds_toArray, List.set_cons_zero, List.set_cons_succ])
  refine wpAnyH_ready (rs := [5]) (by kernel_rfl) (by simp) ?_
  refine AllReadyH.cons (by simp only [List.getElem?_toArray, List.getElem?_cons_succ, List.getElem?_cons_zero]; rfl) (fun K hK => ?_) ?_
  · skip
    go_simp
    refine (equalb_int A6 A3 m d6 m d3 0 _ 0 _ O O _ ((OA.out.sl (d := 0)).mono (Nat.zero_le _) (Nat.le_refl _)) ((OG.out.sl (d := 0)).mono (Nat.zero_le _) (Nat.le_refl _)) (by omega) (by omega)).mono ?_
    rintro e ws5 ⟨rfl, hb⟩
    have hsz0 := hid (show Wd.heap.size ≤ ws5.heap.size from hb.size)
    replace OG := hid (OG.out.step hb); replace OA := hid (OA.out.step hb); replace HB := hid (below_then HB.out hb)
    clear hb
    rw [decide_eq_true rfl]
    go_wp2_with fail
    have hS' : (fun W' : World => True) ws5 := trivial
    refine hK.out _ _ hS' (fun _ => ?_)
    clear hK K hS
    have hS := hS'
    clear hS'
    (try simp only [Act.put, List.setIfInBounds_toArray, List.set_cons_zero, List.set_cons_succ])
    refine wpAnyH_take (i := 6) (v := ?_) (by simp only [List.getElem?_toArray, List.getElem?_cons_succ, List.getElem?_cons_zero]; rfl) (by kernel_rfl) (by kernel_rfl) (by kernel_rfl) (fun _ _ _ h => h) (Or.inl ⟨by rfl, ?_⟩) hS ?_
    rotate_left
    · intro w' hSw; (try dsimp only at hSw); go_split_ands; go_simp; (try with_reducible rfl)
    (try simp only [Act.put, List.setIfInBounds_toArray, List.set_cons_zero, List.set_cons_succ])
    refine wpAnyH_take (i := 7) (v := ?_) (by simp only [List.getElem?_toArray, List.getElem?_cons_succ, List.getElem?_cons_zero]; rfl) (by kernel_rfl) (by kernel_rfl) (by kernel_rfl) (fun _ _ _ h => h) (Or.inl ⟨by rfl, ?_⟩) hS ?_
    rotate_left
    · intro w' hSw; (try dsimp only at hSw); go_split_ands; go_simp; (try with_reducible rfl)
    (try simp only [Act.put, List.setIfInBounds_toArray, List.set_cons_zero, List.set_cons_succ])
    refine wpAnyH_take (i := 8) (v := ?_) (by simp only [List.getElem?_toArray, List.getElem?_cons_succ, List.getElem?_cons_zero]; rfl) (by kernel_rfl) (by kernel_rfl) (by kernel_rfl) (fun _ _ _ h => h) (Or.inl ⟨by rfl, ?_⟩) hS ?_
    rotate_left
    · intro w' hSw; (try dsimp only at hSw); go_split_ands; go_simp; (try with_reducible rfl)
    (try simp only [Act.put, List.setIfInBounds_toArray, List.set_cons_zero, List.set_cons_succ])
    refine wpAnyH_take (i := 9) (v := ?_) (by simp only [List.getElem?_toArray, List.getElem?_cons_succ, List.getElem?_cons_zero]; rfl) (by kernel_rfl) (by kernel_rfl) (by kernel_rfl) (fun _ _ _ h => h) (Or.inl ⟨by rfl, ?_⟩) hS ?_
    rotate_left
    · intro w' hSw; (try dsimp only at hSw); go_split_ands; go_simp; (try with_reducible rfl)
    (try simp only [Act.put, List.setIfInBounds_toArray, List.set_cons_zero, List.set_cons_succ])
    refine wpAnyH_take (i := 11) (v := ?_) (by simp only [List.getElem?_toArray, List.getElem?_cons_succ, List.getElem?_cons_zero]; rfl) (by kernel_rfl) (by kernel_rfl) (by kernel_rfl) (fun _ _ _ h => h) (Or.inl ⟨by rfl, ?_⟩) hS ?_
    rotate_left
    · intro w' hSw; (try dsimp only at hSw); go_split_ands; go_simp; (try with_reducible rfl)
    (try simp only [Act.put, List.setIfInBounds_toArray, List.set_cons_zero, List.set_cons_succ])
    refine wpAnyH_take (i := 12) (v := ?_) (by simp only [List.getElem?_toArray, List.getElem?_cons_succ, List.getElem?_cons_zero]; rfl) (by kernel_rfl) (by kernel_rfl) (by kernel_rfl) (fun _ _ _ h => h) (Or.inl ⟨by rfl, ?_⟩) hS ?_
    rotate_left
    · intro w' hSw; (try dsimp only at hSw); go_split_ands; go_simp; (try with_reducible rfl)
    (try simp only [Act.put, List.setIfInBounds_toArray, List.set_cons_zero, List.set_cons_succ])
    refine wpAnyH_take (i := 13) (v := ?_) (by simp only [List.getElem?_toArray, List.getElem?_cons_succ, List.getElem?_cons_zero]; rfl) (by kernel_rfl) (by kernel_rfl) (by kernel_rfl) (fun _ _ _ h => h) (Or.inl ⟨by rfl, ?_⟩) hS ?_
    rotate_left
    · intro w' hSw; (try dsimp only at hSw); go_split_ands; go_simp; (try with_reducible rfl)
    (try simp only [Act.put, List.setIfInBounds_toArray, List.set_cons_zero, List.set_cons_succ])
    refine wpAnyH_take (i := 14) (v := ?_) (by simp only [List.getElem?_toArray, List.getElem?_cons_succ, List.getElem?_cons_zero]; rfl) (by kernel_rfl) (by kernel_rfl) (by kernel_rfl) (fun _ _ _ h => h) (Or.inl ⟨by rfl, ?_⟩) hS ?_
    rotate_left
    · intro w' hSw; (try dsimp only at hSw); go_split_ands; go_simp; (try with_reducible rfl)
    (try simp only [Act.put, List.setIfInBounds_toArray, List.set_cons_zero, List.set_cons_succ])
    refine wpAnyH_ready (rs := [10]) (by kernel_rfl) (by simp) ?_
    refine AllReadyH.cons (by simp only [List.getElem?_toArray, List.getElem?_cons_succ, List.getElem?_cons_zero]; rfl) (fun K hK => ?_) ?_
    · skip
      go_simp
      refine (srounds_any (q : Int) A3 m d3 O _ ((OG.out.sl (d := 0)).mono (Nat.zero_le _) (Nat.le_refl _)) (by omega)).mono ?_
      rintro e ws10 ⟨rfl, hb⟩
      have hsz1 := hid (show ws5.heap.size ≤ ws10.heap.size from hb.size)
      replace OG := hid (OG.out.step hb); replace OA := hid (OA.out.step hb); replace HB := hid (below_then HB.out hb)
      clear hb
      rw [ER.out]
      go_wp2_with fail
      have hS' : (fun W' : World => True) ws10 := trivial
      refine hK.out _ _ hS' (fun _ => ?_)
      clear hK K hS
      have hS := hS'
      clear hS'
      (try simp only [Act.put, List.setIfInBounds_toArray, List.set_cons_zero, List.set_cons_succ])
      refine wpAnyH_take (i := 15) (v := ?_) (by simp only [List.getElem?_toArray, List.getElem?_cons_succ, List.getElem?_cons_zero]; rfl) (by kernel_rfl) (by kernel_rfl) (by kernel_rfl) (fun _ _ _ h => h) (Or.inl ⟨by rfl, ?_⟩) hS ?_
      rotate_left
      · intro w' hSw; (try dsimp only at hSw); go_split_ands; go_simp; (try with_reducible rfl)
      (try simp only [Act.put, List.setIfInBounds_toArray, List.set_cons_zero, List.set_cons_succ])
      refine wpAnyH_take (i := 16) (v := ?_) (by simp only [List.getElem?_toArray, List.getElem?_cons_succ, List.getElem?_cons_zero]; rfl) (by kernel_rfl) (by kernel_rfl) (by kernel_rfl) (fun _ _ _ h => h) (Or.inl ⟨by rfl, ?_⟩) hS ?_
      rotate_left
      · intro w' hSw; (try dsimp only at hSw); go_split_ands; go_simp; (try with_reducible rfl)
      (try simp only [Act.put, List.setIfInBounds_toArray, List.set_cons_zero, List.set_cons_succ])
      refine wpAnyH_take (i := 17) (v := ?_) (by simp only [List.getElem?_toArray, List.getElem?_cons_succ, List.getElem?_cons_zero]; rfl) (by kernel_rfl) (by kernel_rfl) (by kernel_rfl) (fun _ _ _ h => h) (Or.inl ⟨by rfl, ?_⟩) hS ?_
      rotate_left
      · intro w' hSw; (try dsimp only at hSw); go_split_ands; go_simp; (try with_reducible rfl)
      (try simp only [Act.put, List.setIfInBounds_toArray, List.set_cons_zero, List.set_cons_succ])
      refine wpAnyH_done (by kernel_rfl) ?_ _
      refine NoPanic.normal ?_
      clear hS
      go_wp2
      refine bodyPost_ret (v := .bool true) (by simp [results, Try.results5, go_sem]) rfl ⟨rfl, HB.out⟩
    exact AllReadyH.nil
  exact AllReadyH.nil
end Go.Proofs.Ytijofgbealikaaa
