/- afterglowlaw04.SchedMends returns true at every number of CPUs, k, and row of wishes, and turns nothing old. No condition but that k is an int. -/
import Derived.Test.YtijofgbealikaaaSc24
namespace Go.Proofs.Ytijofgbealikaaa
open Go.RowKit
theorem mendC_len (c kk : Int) (xs : List Int) : (mendC c kk xs).2.length ≤ xs.length := by
  unfold mendC
  split
  · exact Nat.zero_le _
  · split
    · exact Nat.zero_le _
    · exact Nat.le_of_eq (mendF_all _ _ _).1
set_option maxRecDepth 100000 in
set_option maxHeartbeats 4000000 in
theorem schedmends_any (c kk : Int) (P : Option Addr) (n cp : Nat) (xs : List Int) (w : World) (h : Sl i64 0 w 0 w.heap.size P n xs) (hnc : n ≤ cp) (hk : kk ≤ 9223372036854775807) :
    Calls Try.prog 4 #[.int .i64 c, .int .i64 kk, .slice P n cp] w fun e w' => e = .returned (.bool true) ∧ Below w.heap.size w w' := by
  have HX := hid h; have HB := hid (Below.refl w.heap.size w)
  clear h
  go_enter Try.func4, Try.ntmps4
  go_wp2_with fail
  refine (swakes_any w).mono ?_
  rintro e w1 ⟨rfl, hb⟩
  replace HB := hid (below_then HB.out hb)
  clear hb
  go_wp2_with fail
  refine (fewI_any P n cp xs w1 ((HX.out.below HB.out (Nat.le_refl _)).mono (Nat.le_refl _) HB.out.size) hnc).mono ?_
  rintro e w2 ⟨⟨A, m, d, rfl, hm, hmd, ho⟩, hb⟩
  have OL := hid ho
  obtain ⟨l, hl⟩ : ∃ l, l = xs.take 60 := ⟨_, rfl⟩
  rw [← hl] at OL
  have HLL := hid hl
  clear ho hl
  replace HB := hid (below_then HB.out hb)
  clear hb
  go_wp2_with fail
  refine (smend_any c kk A m d l w2 ((OL.out.sl (d := 0)).mono (Nat.zero_le _) (Nat.le_refl _)) (by omega) hk).mono ?_
  rintro e w3 ⟨⟨A3, m3, d3, rfl, ho⟩, hb⟩
  obtain ⟨⟨co, got⟩, hr⟩ : ∃ r, r = mendC c kk l := ⟨_, rfl⟩
  have hlen := mendC_len c kk l
  rw [← hr] at ho hlen ⊢
  dsimp only at ho hlen ⊢
  have HC := hid hr
  have OG := hid ho
  have hm3 := hid (show m3 ≤ 60 by have := ho.len; have := OL.out.len; omega)
  clear ho hr hlen
  replace OL := hid (OL.out.step hb); replace HB := hid (below_then HB.out hb)
  clear hb
  by_cases h1 : 1 ≤ c ∧ c ≤ 8
  rotate_left
  · have HN := hid h1
    by_cases h0 : c < 1
    · have dA : decide (c < 1) = true := decide_eq_true h0
      obtain ⟨rfl, rfl⟩ : co = 140 ∧ got = [] := by
        have e := HC.out
        unfold mendC at e
        rw [if_pos HN.out] at e
        exact ⟨congrArg Prod.fst e, congrArg Prod.snd e⟩
      obtain rfl : m3 = 0 := OG.out.len.symm
      go_wp2_with fail
      refine (equal_int A3 none 0 d3 0 0 0 _ 0 _ [] [] _ ((OG.out.sl (d := 0)).mono (Nat.zero_le _) (Nat.le_refl _)) (Sl.nil _ 0 0 none) (by have := hm3.out; omega) (by omega)).mono ?_
      rintro e w7 ⟨rfl, q7, hq⟩
      rw [decide_eq_true rfl]
      have hb : Below w3.heap.size w3 w7 := hq ▸ below_drewN (Below.refl _ _) q7
      clear hq
      replace OL := hid (OL.out.step hb); replace OG := hid (OG.out.step hb); replace HB := hid (below_then HB.out hb)
      clear hb OG
      go_wp2_with fail
      refine (fewI_any P n cp xs w7 ((HX.out.below HB.out (Nat.le_refl _)).mono (Nat.le_refl _) HB.out.size) hnc).mono ?_
      rintro e w8 ⟨⟨A8, m8, d8, rfl, hm8, hmd8, ho⟩, hb⟩
      rw [← HLL.out] at ho
      have O8 := hid ho
      clear ho
      replace OL := hid (OL.out.step hb); replace HB := hid (below_then HB.out hb)
      clear hb
      go_wp2_with fail
      refine (equal_int A A8 m d m8 d8 0 _ 0 _ l l w8 ((OL.out.sl (d := 0)).mono (Nat.zero_le _) (Nat.le_refl _)) ((O8.out.sl (d := 0)).mono (Nat.zero_le _) (Nat.le_refl _)) (by omega) (by omega)).mono ?_
      rintro e w9 ⟨rfl, q7, hq⟩
      rw [decide_eq_true rfl]
      have hb : Below w8.heap.size w8 w9 := hq ▸ below_drewN (Below.refl _ _) q7
      clear hq
      replace OL := hid (OL.out.step hb); replace O8 := hid (O8.out.step hb); replace HB := hid (below_then HB.out hb)
      go_wp2
      refine bodyPost_ret (v := .bool true) (by simp [results, Try.results4, go_sem]) rfl ⟨rfl, HB.out⟩
    · have dA : decide (c < 1) = false := decide_eq_false h0
      have h8 : (8 : Int) < c := by omega
      have dB : decide ((8 : Int) < c) = true := decide_eq_true h8
      obtain ⟨rfl, rfl⟩ : co = 140 ∧ got = [] := by
        have e := HC.out
        unfold mendC at e
        rw [if_pos HN.out] at e
        exact ⟨congrArg Prod.fst e, congrArg Prod.snd e⟩
      obtain rfl : m3 = 0 := OG.out.len.symm
      go_wp2_with fail
      refine (equal_int A3 none 0 d3 0 0 0 _ 0 _ [] [] _ ((OG.out.sl (d := 0)).mono (Nat.zero_le _) (Nat.le_refl _)) (Sl.nil _ 0 0 none) (by have := hm3.out; omega) (by omega)).mono ?_
      rintro e w7 ⟨rfl, q7, hq⟩
      rw [decide_eq_true rfl]
      have hb : Below w3.heap.size w3 w7 := hq ▸ below_drewN (Below.refl _ _) q7
      clear hq
      replace OL := hid (OL.out.step hb); replace OG := hid (OG.out.step hb); replace HB := hid (below_then HB.out hb)
      clear hb OG
      go_wp2_with fail
      refine (fewI_any P n cp xs w7 ((HX.out.below HB.out (Nat.le_refl _)).mono (Nat.le_refl _) HB.out.size) hnc).mono ?_
      rintro e w8 ⟨⟨A8, m8, d8, rfl, hm8, hmd8, ho⟩, hb⟩
      rw [← HLL.out] at ho
      have O8 := hid ho
      clear ho
      replace OL := hid (OL.out.step hb); replace HB := hid (below_then HB.out hb)
      clear hb
      go_wp2_with fail
      refine (equal_int A A8 m d m8 d8 0 _ 0 _ l l w8 ((OL.out.sl (d := 0)).mono (Nat.zero_le _) (Nat.le_refl _)) ((O8.out.sl (d := 0)).mono (Nat.zero_le _) (Nat.le_refl _)) (by omega) (by omega)).mono ?_
      rintro e w9 ⟨rfl, q7, hq⟩
      rw [decide_eq_true rfl]
      have hb : Below w8.heap.size w8 w9 := hq ▸ below_drewN (Below.refl _ _) q7
      clear hq
      replace OL := hid (OL.out.step hb); replace O8 := hid (O8.out.step hb); replace HB := hid (below_then HB.out hb)
      go_wp2
      refine bodyPost_ret (v := .bool true) (by simp [results, Try.results4, go_sem]) rfl ⟨rfl, HB.out⟩
  have H1 := hid h1
  have dA : decide (c < 1) = false := decide_eq_false (by omega)
  have dB : decide ((8 : Int) < c) = false := decide_eq_false (by omega)
  have n1 : ¬ c < 1 := by omega
  have n2 : ¬ (8 : Int) < c := by omega
  by_cases h2 : kk < c
  · have dC : decide (kk < c) = true := decide_eq_true h2
    obtain ⟨rfl, rfl⟩ : co = 2 ∧ got = [] := by
      have e := HC.out
      unfold mendC at e
      rw [if_neg (not_not_intro H1.out), if_pos h2] at e
      exact ⟨congrArg Prod.fst e, congrArg Prod.snd e⟩
    obtain rfl : m3 = 0 := OG.out.len.symm
    go_wp2_with fail
    refine (equal_int A3 none 0 d3 0 0 0 _ 0 _ [] [] _ ((OG.out.sl (d := 0)).mono (Nat.zero_le _) (Nat.le_refl _)) (Sl.nil _ 0 0 none) (by have := hm3.out; omega) (by omega)).mono ?_
    rintro e w7 ⟨rfl, q7, hq⟩
    rw [decide_eq_true rfl]
    have hb : Below w3.heap.size w3 w7 := hq ▸ below_drewN (Below.refl _ _) q7
    clear hq
    replace OL := hid (OL.out.step hb); replace OG := hid (OG.out.step hb); replace HB := hid (below_then HB.out hb)
    clear hb OG
    go_wp2_with fail
    refine (fewI_any P n cp xs w7 ((HX.out.below HB.out (Nat.le_refl _)).mono (Nat.le_refl _) HB.out.size) hnc).mono ?_
    rintro e w8 ⟨⟨A8, m8, d8, rfl, hm8, hmd8, ho⟩, hb⟩
    rw [← HLL.out] at ho
    have O8 := hid ho
    clear ho
    replace OL := hid (OL.out.step hb); replace HB := hid (below_then HB.out hb)
    clear hb
    go_wp2_with fail
    refine (equal_int A A8 m d m8 d8 0 _ 0 _ l l w8 ((OL.out.sl (d := 0)).mono (Nat.zero_le _) (Nat.le_refl _)) ((O8.out.sl (d := 0)).mono (Nat.zero_le _) (Nat.le_refl _)) (by omega) (by omega)).mono ?_
    rintro e w9 ⟨rfl, q7, hq⟩
    rw [decide_eq_true rfl]
    have hb : Below w8.heap.size w8 w9 := hq ▸ below_drewN (Below.refl _ _) q7
    clear hq
    replace OL := hid (OL.out.step hb); replace O8 := hid (O8.out.step hb); replace HB := hid (below_then HB.out hb)
    go_wp2
    refine bodyPost_ret (v := .bool true) (by simp [results, Try.results4, go_sem]) rfl ⟨rfl, HB.out⟩
  have dC : decide (kk < c) = false := decide_eq_false h2
  obtain ⟨rfl, rfl⟩ : co = 0 ∧ got = (mendF c.toNat kk l).1 := by
    have e := HC.out
    unfold mendC at e
    rw [if_neg (not_not_intro H1.out), if_neg h2] at e
    exact ⟨congrArg Prod.fst e, congrArg Prod.snd e⟩
  obtain ⟨q, rfl⟩ := Int.eq_ofNat_of_zero_le (show 0 ≤ c by omega)
  rw [Int.toNat_natCast] at OG
  go_wp2_with fail
  refine (rmend_any q kk A m d l _ ((OL.out.sl (d := 0)).mono (Nat.zero_le _) (Nat.le_refl _)) (by omega) (by omega) ⟨by omega, hk⟩ (by omega)).mono ?_
  rintro e w4 ⟨⟨A4, d4, rfl, ho⟩, hb⟩
  have OW := hid ho
  clear ho
  replace OL := hid (OL.out.step hb); replace OG := hid (OG.out.step hb); replace HB := hid (below_then HB.out hb)
  clear hb
  go_wp2_with fail
  refine (equal_int A3 A4 m3 d3 m d4 0 _ 0 _ (mendF q kk l).1 (mendF q kk l).1 _ ((OG.out.sl (d := 0)).mono (Nat.zero_le _) (Nat.le_refl _)) ((OW.out.sl (d := 0)).mono (Nat.zero_le _) (Nat.le_refl _)) (by have := hm3.out; omega) (by omega)).mono ?_
  rintro e w7 ⟨rfl, q7, hq⟩
  rw [decide_eq_true rfl]
  have hb : Below w4.heap.size w4 w7 := hq ▸ below_drewN (Below.refl _ _) q7
  clear hq
  replace OL := hid (OL.out.step hb); replace OG := hid (OG.out.step hb); replace OW := hid (OW.out.step hb); replace HB := hid (below_then HB.out hb)
  clear hb OG
  go_wp2_with fail
  refine (fewI_any P n cp xs w7 ((HX.out.below HB.out (Nat.le_refl _)).mono (Nat.le_refl _) HB.out.size) hnc).mono ?_
  rintro e w8 ⟨⟨A8, m8, d8, rfl, hm8, hmd8, ho⟩, hb⟩
  rw [← HLL.out] at ho
  have O8 := hid ho
  clear ho
  replace OL := hid (OL.out.step hb); replace OW := hid (OW.out.step hb); replace HB := hid (below_then HB.out hb)
  clear hb
  go_wp2_with fail
  refine (equal_int A A8 m d m8 d8 0 _ 0 _ l l w8 ((OL.out.sl (d := 0)).mono (Nat.zero_le _) (Nat.le_refl _)) ((O8.out.sl (d := 0)).mono (Nat.zero_le _) (Nat.le_refl _)) (by omega) (by omega)).mono ?_
  rintro e w9 ⟨rfl, q7, hq⟩
  rw [decide_eq_true rfl]
  have hb : Below w8.heap.size w8 w9 := hq ▸ below_drewN (Below.refl _ _) q7
  clear hq
  replace OL := hid (OL.out.step hb); replace OW := hid (OW.out.step hb); replace O8 := hid (O8.out.step hb); replace HB := hid (below_then HB.out hb)
  go_wp2
  refine bodyPost_ret (v := .bool true) (by simp [results, Try.results4, go_sem]) rfl ⟨rfl, HB.out⟩
end Go.Proofs.Ytijofgbealikaaa
