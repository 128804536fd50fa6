/- afterglowlaw04.SchedParts returns true at every number of CPUs, row, and ends of a part, and turns nothing old. No condition. -/
import Derived.Test.YtijofgbealikaaaLScT
import Derived.Test.YtijofgbealikaaaSoN
namespace Go.Proofs.Ytijofgbealikaaa
open Go.RowKit
theorem plF_mem (xs : List Int) (q : Int) : ∀ (j : Nat) (v : Int), v ∈ plF xs q j → ∃ i : Nat, i < j ∧ v = (i : Int) ∧ xs[i]?.getD 0 = q
  | 0, v, h => by cases h
  | j + 1, v, h => by
    rw [plF_succ] at h
    split at h
    · rename_i e
      rcases List.mem_append.1 h with h | h
      · obtain ⟨i, h1, h2, h3⟩ := plF_mem xs q j v h; exact ⟨i, by omega, h2, h3⟩
      · exact ⟨j, by omega, List.mem_singleton.1 h, e⟩
    · obtain ⟨i, h1, h2, h3⟩ := plF_mem xs q j v h; exact ⟨i, by omega, h2, h3⟩
/-- all places of the first Q CPUs, CPU by CPU -/
def allP (f : Nat → List Int) (Q : Nat) : List Int := (List.range Q).flatMap f
theorem allP_succ (f : Nat → List Int) (Q : Nat) : allP f (Q + 1) = allP f Q ++ f Q := by unfold allP; rw [List.range_succ, List.flatMap_append]; simp
theorem allP_same {f g : Nat → List Int} : ∀ Q : Nat, (∀ q, q < Q → g q = f q) → allP g Q = allP f Q
  | 0, _ => rfl
  | Q + 1, h => by rw [allP_succ, allP_succ, allP_same Q (fun q hq => h q (by omega)), h Q (by omega)]
theorem allP_one {f g : Nat → List Int} {p : Nat} {x : Int} (hp : g p = f p ++ [x]) (hne : ∀ q, q ≠ p → g q = f q) : ∀ Q : Nat, p < Q → (allP g Q).Perm (allP f Q ++ [x])
  | 0, h => absurd h (Nat.not_lt_zero _)
  | Q + 1, h => by
    rw [allP_succ, allP_succ]
    by_cases e : p = Q
    · subst e
      rw [allP_same p (fun q hq => hne q (by omega)), hp, List.append_assoc]
    · rw [hne Q (fun h => e h.symm)]
      refine ((allP_one hp hne Q (by omega)).append_right (f Q)).trans ?_
      rw [List.append_assoc, List.append_assoc]
      exact List.Perm.append_left _ List.perm_append_comm
theorem allP_perm {xs : List Int} {Q : Nat} (h : ∀ x ∈ xs, 0 ≤ x ∧ x < Q) : ∀ j, j ≤ xs.length → (allP (fun q => plF xs (q : Int) j) Q).Perm ((List.range j).map fun i : Nat => (i : Int))
  | 0, _ => by
    have e : allP (fun q => plF xs (q : Int) 0) Q = [] := by unfold allP; rw [List.flatMap_eq_nil_iff]; intro x _; rfl
    rw [e]; exact List.Perm.refl _
  | j + 1, hj => by
    have ih := allP_perm h j (by omega)
    have hx : 0 ≤ xs[j]?.getD 0 ∧ xs[j]?.getD 0 < Q := by rw [List.getElem?_eq_getElem (by omega)]; exact h _ (List.getElem_mem _)
    obtain ⟨p, hp⟩ := Int.eq_ofNat_of_zero_le hx.1
    have h1 := allP_one (f := fun q => plF xs (q : Int) j) (g := fun q => plF xs (q : Int) (j + 1)) (p := p) (x := (j : Int))
      (by show plF xs (p : Int) (j + 1) = _; rw [plF_succ, if_pos hp]) (fun q hq => by show plF xs (q : Int) (j + 1) = _; rw [plF_succ, if_neg (by rw [hp]; omega)]) Q (by omega)
    refine h1.trans ?_
    rw [List.range_succ, List.map_append]
    exact ih.append_right _
theorem iota_nodup (n : Nat) : ((List.range n).map fun i : Nat => (i : Int)).Nodup := by
  rw [List.Nodup, List.pairwise_map]
  exact (List.nodup_range (n := n)).imp (fun h e => h (by omega))
theorem allP_iota {od : List Int} {n : Nat} (h : od.Perm ((List.range n).map fun i : Nat => (i : Int))) : od.length = n ∧ ∀ k, k < n → 0 ≤ od[k]?.getD 0 ∧ od[k]?.getD 0 < n ∧ od[k]?.getD 0 ∉ od.take k := by
  have hl : od.length = n := by rw [h.length_eq]; simp
  have hn : od.Nodup := h.nodup_iff.2 (iota_nodup n)
  refine ⟨hl, fun k hk => ?_⟩
  have hm : od[k]?.getD 0 ∈ od := by rw [List.getElem?_eq_getElem (by omega)]; exact List.getElem_mem _
  obtain ⟨i, hi, e⟩ := List.mem_map.1 (h.mem_iff.1 hm)
  rw [List.mem_range] at hi
  refine ⟨by omega, by omega, fun hk2 => ?_⟩
  obtain ⟨i2, hi2, e2⟩ := List.mem_take_iff_getElem.1 hk2
  rw [List.getElem?_eq_getElem (by omega), Option.getD_some] at e2
  rw [List.Nodup, List.pairwise_iff_getElem] at hn
  exact hn i2 k (by omega) (by omega) (by omega) e2
theorem part_fair {q K fr tk : Nat} {l : List Int} (hq1 : 1 ≤ q) (hq8 : q ≤ 8) (hs : SchR (q : Int) l) (hk : leastF q l l.length = (K : Int)) (hft : fr + tk ≤ l.length) :
    SchR (q : Int) ((l.drop fr).take tk) ∧ fairC (q : Int) ((l.drop fr).take tk) (K : Int) = true ∧ leastC (q : Int) ((l.drop fr).take tk) ≤ (K : Int) := by
  have hin : ∀ x ∈ (l.drop fr).take tk, 0 ≤ x ∧ x < (q : Int) := fun x hx => hs.2 x (List.mem_of_mem_drop (List.mem_of_mem_take hx))
  have hs2 : SchR (q : Int) ((l.drop fr).take tk) := ⟨hs.1, hin⟩
  have h8 : ∀ x ∈ l, 0 ≤ x ∧ x < 8 := fun x hx => by have := hs.2 x hx; omega
  have hlen : ((l.drop fr).take tk).length = tk := by rw [List.length_take, List.length_drop]; omega
  have hf := (fairP_least hq1 hq8 h8 (K : Int)).2 (by rw [hk]; exact Int.le_refl _)
  have hf2 : FairP q ((l.drop fr).take tk) (K : Int) := ⟨hf.1, fun j hj i hi => by
    rw [hlen] at hj
    rw [trail_sub l i fr tk hft j (by omega)]
    have := hf.2 (fr + j) (by omega) i hi
    omega⟩
  have h82 : ∀ x ∈ (l.drop fr).take tk, 0 ≤ x ∧ x < 8 := fun x hx => by have := hin x hx; omega
  refine ⟨hs2, by rw [fairC_ref hs2]; exact decide_eq_true hf2, ?_⟩
  rw [show leastC (q : Int) ((l.drop fr).take tk) = leastF q ((l.drop fr).take tk) ((l.drop fr).take tk).length from if_pos hs2]
  exact (fairP_least hq1 hq8 h82 (K : Int)).1 hf2
set_option maxRecDepth 100000 in
set_option maxHeartbeats 16000000 in
theorem schedparts_any (c : Int) (P : Option Addr) (n cp : Nat) (xs : List Int) (z0 z1 : Int) (w : World) (h : Sl i64 0 w 0 w.heap.size P n xs) (hnc : n ≤ cp) :
    Calls Try.prog 6 #[.int .i64 c, .slice P n cp, .agg #[.int .i64 z0, .int .i64 z1]] w fun e w' => e = .returned (.bool true) ∧ Below w.heap.size w w' := by
  have HX := hid h; have HB := hid (Below.refl w.heap.size w)
  obtain ⟨i0, hi0, hz00, hz01, hz02⟩ := info_parts info_int
  clear h
  have bx := below_box w (.cells #[.int .i64 z0, .int .i64 z1] 40)
  replace HB := hid (below_then HB.out bx)
  clear bx
  have PE := hid (Blk.new w 40 #[.int .i64 z0, .int .i64 z1])
  go_enter Try.func6, Try.ntmps6
  go_wp2_with fail
  have hz0 := hid (show (w.alloc (.cells #[.int .i64 z0, .int .i64 z1] 40)).heap.size = w.heap.size + 1 by simp)
  generalize w.alloc (.cells #[.int .i64 z0, .int .i64 z1] 40) = W0 at *
  refine (swakes_any W0).mono ?_
  rintro e w1 ⟨rfl, hb⟩
  replace PE := hid (PE.out.step hb); replace HB := hid (below_then HB.out hb)
  clear hb
  go_wp2_with fail
  refine (fewI_any P n cp xs w1 ((HX.out.below HB.out (Nat.le_refl _)).mono (Nat.le_refl _) HB.out.size) hnc).mono ?_
  rintro e w2 ⟨⟨A, m, d, rfl, hm, hmd, ho⟩, hb⟩
  have OL := hid ho
  obtain ⟨l, hl⟩ : ∃ l, l = xs.take 60 := ⟨_, rfl⟩
  rw [← hl] at OL
  have hlm := hid OL.out.len
  clear ho hl
  replace PE := hid (PE.out.step hb); replace HB := hid (below_then HB.out hb)
  clear hb
  go_wp2_with fail
  refine (scheck_any c A m d l w2 ((OL.out.sl (d := 0)).mono (Nat.zero_le _) (Nat.le_refl _)) (by omega)).mono ?_
  rintro e w3 ⟨rfl, hb⟩
  replace PE := hid (PE.out.step hb); replace OL := hid (OL.out.step hb); replace HB := hid (below_then HB.out hb)
  clear hb
  by_cases hs : SchR c l
  rotate_left
  · rw [show scheckC c l = 140 from if_neg hs]
    have EL := hid (show leastC c l = 0 from if_neg hs)
    go_wp2_with fail
    refine (sleast_any c A m d l w3 ((OL.out.sl (d := 0)).mono (Nat.zero_le _) (Nat.le_refl _)) (by omega)).mono ?_
    rintro e w4 ⟨rfl, hb⟩
    rw [EL.out]
    replace PE := hid (PE.out.step hb); replace OL := hid (OL.out.step hb); replace HB := hid (below_then HB.out hb)
    clear hb
    go_wp2
    refine bodyPost_ret (v := .bool true) (by simp [results, Try.results6, go_sem]) rfl ⟨rfl, HB.out⟩
  rw [show scheckC c l = 0 from if_pos hs]
  have HS := hid hs
  obtain ⟨q, rfl⟩ := Int.eq_ofNat_of_zero_le (show 0 ≤ c by have := hs.1.1; omega)
  have hq1 : 1 ≤ q := by have := hs.1.1; omega
  have hq8 : q ≤ 8 := by have := hs.1.2; omega
  have hle := leastF_in hq1 hq8 l l.length (Nat.le_refl _)
  obtain ⟨K, hK⟩ := Int.eq_ofNat_of_zero_le (show 0 ≤ leastF q l l.length by omega)
  have HK := hid hK
  rw [hK] at hle
  have hlm2 := hlm.out
  have hK1 : 1 ≤ K := by omega
  have hK61 : K ≤ 61 := by omega
  have EL := hid (show leastC (q : Int) l = (K : Int) by rw [← hK]; exact if_pos hs)
  have EF := hid (show fairC (q : Int) l (K : Int) = true from decide_eq_true ⟨by omega, hs, by rw [EL.out]; exact Int.le_refl _⟩)
  have EF1 := hid (show fairC (q : Int) l ((K : Int) - 1) = false from decide_eq_false (fun h => by have := h.2.2; rw [EL.out] at this; omega))
  obtain ⟨fr, hfr⟩ : ∃ p : Nat, p = (z0 % 18446744073709551616 % ((m : Int) + 1)).toNat := ⟨_, rfl⟩
  have hp1 := Int.emod_nonneg (z0 % 18446744073709551616) (show (m : Int) + 1 ≠ 0 by omega)
  have hp2 := Int.emod_lt_of_pos (z0 % 18446744073709551616) (show (0 : Int) < (m : Int) + 1 by omega)
  have hfi : z0 % 18446744073709551616 % ((m : Int) + 1) = (fr : Int) := by omega
  have hfm : fr ≤ m := by omega
  have hu1 : IntKind.u64.wrap z0 = z0 % 18446744073709551616 := by simp [IntKind.wrap, IntKind.signed, IntKind.bits]
  have hw1 : IntKind.i64.wrap ((m : Int) + 1) = (m : Int) + 1 := by rw [IntKind.wrap_i64]; omega
  have hu2 : IntKind.u64.wrap ((m : Int) + 1) = (m : Int) + 1 := by simp [IntKind.wrap, IntKind.signed, IntKind.bits]; omega
  have hq0 : (((m : Int) + 1) == 0) = false := by simp; omega
  have hq0' : ¬ (m : Int) + 1 = 0 := by omega
  have htm : (z0 % 18446744073709551616).tmod ((m : Int) + 1) = (fr : Int) := by rw [Int.tmod_eq_emod_of_nonneg (Int.emod_nonneg _ (by decide)), hfi]
  have hu3 : IntKind.u64.wrap (fr : Int) = (fr : Int) := by simp [IntKind.wrap, IntKind.signed, IntKind.bits]; omega
  have hw2 : IntKind.i64.wrap (fr : Int) = (fr : Int) := by rw [IntKind.wrap_i64]; omega
  obtain ⟨R, hR⟩ : ∃ R, R = m - fr + 1 := ⟨_, rfl⟩
  have hw3 : IntKind.i64.wrap ((m : Int) - (fr : Int)) = (m : Int) - (fr : Int) := by rw [IntKind.wrap_i64]; omega
  have hw4 : IntKind.i64.wrap ((m : Int) - (fr : Int) + 1) = (m : Int) - (fr : Int) + 1 := by rw [IntKind.wrap_i64]; omega
  have hu4 : IntKind.u64.wrap ((m : Int) - (fr : Int) + 1) = (m : Int) - (fr : Int) + 1 := by simp [IntKind.wrap, IntKind.signed, IntKind.bits]; omega
  obtain ⟨tk, htk⟩ : ∃ p : Nat, p = (z1 % 18446744073709551616 % ((m : Int) - (fr : Int) + 1)).toNat := ⟨_, rfl⟩
  have hp3 := Int.emod_nonneg (z1 % 18446744073709551616) (show (m : Int) - (fr : Int) + 1 ≠ 0 by omega)
  have hp4 := Int.emod_lt_of_pos (z1 % 18446744073709551616) (show (0 : Int) < (m : Int) - (fr : Int) + 1 by omega)
  have hti : z1 % 18446744073709551616 % ((m : Int) - (fr : Int) + 1) = (tk : Int) := by omega
  have htm2 : (z1 % 18446744073709551616).tmod ((m : Int) - (fr : Int) + 1) = (tk : Int) := by rw [Int.tmod_eq_emod_of_nonneg (Int.emod_nonneg _ (by decide)), hti]
  have hft : fr + tk ≤ m := by omega
  have hu5 : IntKind.u64.wrap z1 = z1 % 18446744073709551616 := by simp [IntKind.wrap, IntKind.signed, IntKind.bits]
  have hu6 : IntKind.u64.wrap (tk : Int) = (tk : Int) := by simp [IntKind.wrap, IntKind.signed, IntKind.bits]; omega
  have hw5 : IntKind.i64.wrap (tk : Int) = (tk : Int) := by rw [IntKind.wrap_i64]; omega
  have hw6 : IntKind.i64.wrap ((fr : Int) + (tk : Int)) = (fr : Int) + (tk : Int) := by rw [IntKind.wrap_i64]; omega
  have hq1' : (((m : Int) - (fr : Int) + 1) == 0) = false := by simp; omega
  have hq1'' : ¬ (m : Int) - (fr : Int) + 1 = 0 := by omega
  have hb1 : (0 : Int) ≤ (fr : Int) := by omega
  have hb2 : (fr : Int) ≤ (fr : Int) + (tk : Int) := by omega
  have hb3 : (fr : Int) + (tk : Int) ≤ (d : Int) := by omega
  have HPF := hid (part_fair hq1 hq8 hs hK (show fr + tk ≤ l.length by omega))
  clear hs hfr hp1 hp2 hp3 hp4 htk hK hle hR hfi hti
  go_wp2_with fail
  refine (sleast_any (q : Int) A m d l w3 ((OL.out.sl (d := 0)).mono (Nat.zero_le _) (Nat.le_refl _)) (by omega)).mono ?_
  rintro e w4 ⟨rfl, hb⟩
  rw [EL.out]
  replace PE := hid (PE.out.step hb); replace OL := hid (OL.out.step hb); replace HB := hid (below_then HB.out hb)
  clear hb
  obtain ⟨y00, y01, yf0⟩ := PE.out.cells2
  go_upto_region 8 with fail
  clear y00 y01 yf0
  have HSP := hid (show ∀ W, Sl i64 0 W 0 W.heap.size A m l → Sl i64 0 W 0 W.heap.size A fr (l.take fr) from fun W h => h.take hfm)
  go_cut [10] (fun s10 wx => wx = w4 ∧ ∃ (A10 : Option Addr) (c10 : Nat), s10 = .slice A10 tk c10 ∧ tk ≤ c10 ∧ Sl i64 0 w4 0 w4.heap.size A10 tk ((l.drop fr).take tk))
  case first =>
    obtain ⟨y00, y01, yf0⟩ := PE.out.cells2
    have SO := hid ((OL.out.sl (d := 0)).mono (Nat.zero_le _) (Nat.le_refl _))
    rcases OL.out.own.2 with ⟨hv, h0⟩ | ⟨gO, cap, cur, hv, hb4, hg4, _⟩
    · skip
      simp only [Value.slice.injEq] at hv
      obtain ⟨rfl, hm0, rfl⟩ := hv
      obtain rfl : m = 0 := by omega
      obtain rfl : fr = 0 := by omega
      obtain rfl : tk = 0 := by omega
      go_wp2
      go_meet
      exact ⟨rfl, none, 0, rfl, Nat.le_refl _, by rw [List.take_zero]; exact Sl.nil _ _ _ _⟩
    simp only [Value.slice.injEq] at hv
    obtain ⟨rfl, _, rfl⟩ := hv
    by_cases e : d = fr
    · subst e
      obtain rfl : tk = 0 := by omega
      have HP := hid (show Sl i64 0 w4 0 w4.heap.size (some ⟨gO, 0, none⟩) 0 ((l.drop d).take 0) from by rw [List.take_zero]; exact Sl.nil _ _ _ _)
      go_wp2
      go_meet
      exact ⟨rfl, _, _, rfl, by omega, HP.out⟩
    have HP := hid (show Sl i64 0 w4 0 w4.heap.size (some ⟨gO, fr, none⟩) tk ((l.drop fr).take tk) from by
      have h := SO.out.sub (i := fr) (k := tk) hft
      rw [Nat.zero_add] at h
      exact h)
    go_wp2
    go_meet
    refine ⟨rfl, some ⟨gO, fr, none⟩, d - fr, by rw [Nat.add_sub_cancel_left], ?_, HP.out⟩
    omega
  case rest =>
    obtain ⟨hw, A10, c10, rfl, htc, hsl⟩ := hcut
    subst hw
    have SP := hid hsl
    clear hsl HSP hu1 hu2 hu3 hu4 hu5 hu6 hw1 hw2 hw3 hw4 hw5 hw6 htm htm2 hq0 hq0' hq1' hq1'' hb1 hb2 hb3
    have SPB := hid (show ∀ W, Below wc.heap.size wc W → Sl i64 0 W 0 W.heap.size A10 tk ((l.drop fr).take tk) from fun W hb => (SP.out.below hb (Nat.le_refl _)).mono (Nat.le_refl _) hb.size)
    have B4 := hid (Below.refl wc.heap.size wc)
    obtain ⟨pt, hpt⟩ : ∃ pt, pt = (l.drop fr).take tk := ⟨_, rfl⟩
    have hptl := hid (show pt.length = tk by rw [hpt, List.length_take, List.length_drop]; omega)
    have HRD := hid (show (rdF q pt tk).1 ≤ (rdF q l m).1 by rw [hpt, ← hlm.out]; exact rounds_part q hq1 l fr tk (by omega))
    rw [← hpt] at HPF SPB
    have ERP := hid (show roundsC (q : Int) pt = ((rdF q pt pt.length).1 : Int) from if_pos HPF.out.1)
    have ERL := hid (show roundsC (q : Int) l = ((rdF q l l.length).1 : Int) from if_pos HS.out)
    have hKi : ¬ (K : Int) < 1 := by omega
    have dK : decide ((K : Int) < 1) = false := decide_eq_false hKi
    have hwK : IntKind.i64.wrap ((K : Int) - 1) = (K : Int) - 1 := by rw [IntKind.wrap_i64]; omega
    clear hpt SP
    go_upto_region 9 with fail
    go_cut [91] (fun sx wx => sx = .bool false ∧ Below wc.heap.size wc wx)
    case first =>
      go_wp2_with fail
      refine (sfair_any (q : Int) A m d l (K : Int) wc ((OL.out.sl (d := 0)).mono (Nat.zero_le _) (Nat.le_refl _)) (by omega)).mono ?_
      rintro e w5 ⟨rfl, hb⟩
      rw [EF.out]
      replace OL := hid (OL.out.step hb); replace B4 := hid (below_then B4.out hb)
      clear hb
      by_cases hk2 : 1 < K
      · have hk2i : (1 : Int) < (K : Int) := by omega
        have d2 : decide ((1 : Int) < (K : Int)) = true := decide_eq_true hk2i
        go_wp2_with fail
        refine (sfair_any (q : Int) A m d l ((K : Int) - 1) w5 ((OL.out.sl (d := 0)).mono (Nat.zero_le _) (Nat.le_refl _)) (by omega)).mono ?_
        rintro e w6 ⟨rfl, hb⟩
        rw [EF1.out]
        replace OL := hid (OL.out.step hb); replace B4 := hid (below_then B4.out hb)
        clear hb
        go_wp2_with fail
        refine (sfair_any (q : Int) A10 tk c10 pt (K : Int) w6 (SPB.out _ B4.out) (by omega)).mono ?_
        rintro e w7 ⟨rfl, hb⟩
        rw [HPF.out.2.1]
        replace OL := hid (OL.out.step hb); replace B4 := hid (below_then B4.out hb)
        clear hb
        go_wp2_with fail
        refine (sleast_any (q : Int) A10 tk c10 pt w7 (SPB.out _ B4.out) (by omega)).mono ?_
        rintro e w8 ⟨rfl, hb⟩
        obtain ⟨LP, hLP⟩ : ∃ x, x = leastC (q : Int) pt := ⟨_, rfl⟩
        have hLK : LP ≤ (K : Int) := by rw [hLP]; exact HPF.out.2.2
        rw [← hLP]
        clear hLP
        have hnK : ¬ (K : Int) < LP := by omega
        have dL : decide ((K : Int) < LP) = false := decide_eq_false hnK
        replace OL := hid (OL.out.step hb); replace B4 := hid (below_then B4.out hb)
        clear hb
        go_wp2
        go_meet
        exact ⟨rfl, B4.out⟩
      have hk2i : ¬ (1 : Int) < (K : Int) := by omega
      have d2 : decide ((1 : Int) < (K : Int)) = false := decide_eq_false hk2i
      go_wp2_with fail
      refine (sfair_any (q : Int) A10 tk c10 pt (K : Int) w5 (SPB.out _ B4.out) (by omega)).mono ?_
      rintro e w7 ⟨rfl, hb⟩
      rw [HPF.out.2.1]
      replace OL := hid (OL.out.step hb); replace B4 := hid (below_then B4.out hb)
      clear hb
      go_wp2_with fail
      refine (sleast_any (q : Int) A10 tk c10 pt w7 (SPB.out _ B4.out) (by omega)).mono ?_
      rintro e w8 ⟨rfl, hb⟩
      obtain ⟨LP, hLP⟩ : ∃ x, x = leastC (q : Int) pt := ⟨_, rfl⟩
      have hLK : LP ≤ (K : Int) := by rw [hLP]; exact HPF.out.2.2
      rw [← hLP]
      clear hLP
      have hnK : ¬ (K : Int) < LP := by omega
      have dL : decide ((K : Int) < LP) = false := decide_eq_false hnK
      replace OL := hid (OL.out.step hb); replace B4 := hid (below_then B4.out hb)
      clear hb
      go_wp2
      go_meet
      exact ⟨rfl, B4.out⟩
    case rest =>
      obtain ⟨rfl, hb⟩ := hcut
      rename World => W9
      replace OL := hid (OL.out.step hb)
      replace HB := hid (below_then HB.out hb)
      replace B4 := hid hb
      clear hb PE
      go_wp2_with fail
      refine (ssplit_any (q : Int) A m d l W9 ((OL.out.sl (d := 0)).mono (Nat.zero_le _) (Nat.le_refl _)) (by omega)).mono ?_
      rintro e wS ⟨⟨A5, m5, d5, es, rfl, ho, hra, hes⟩, hb⟩
      have OR := hid ho; have RA := hid hra
      have HES := hid (show es.map Prod.fst = (List.range q).map (fun i : Nat => placesL l (i : Int)) from hes.trans (if_pos HS.out))
      obtain rfl : q = m5 := by rw [← ho.len, ← List.length_map (f := Prod.fst), HES.out]; simp
      clear ho hra hes
      replace OL := hid (OL.out.step hb); replace HB := hid (below_then HB.out hb); replace B4 := hid (below_then B4.out hb)
      clear hb
      go_wp2_with fail
      obtain ⟨PF, hPF⟩ : ∃ PF : Nat → List Int, PF = fun i : Nat => placesL l (i : Int) := ⟨_, rfl⟩
      have HPP := hid hPF
      have XS := hid (Below.refl wS.heap.size wS)
      have OL5 := OL; have OR5 := OR; have RA5 := RA; have HB5 := HB; have B45 := B4
      clear OL OR RA HB B4 hPF
      go_loopw [11, 12, 13, 15, 96] (fun o _ _ _ v wr => ∃ (j : Nat) (A11 : Option Addr) (N d11 : Nat), j ≤ q ∧ v = .int .i64 j ∧ o = .slice A11 N d11 ∧ N ≤ 60 * j ∧ Ow i64 wr wS.heap.size 3 A11 N d11 (allP PF j) ∧ Below wS.heap.size wS wr) (fun _ _ _ _ v _ => q - (intOf v).toNat)
      case atStart => exact ⟨0, none, 0, 0, Nat.zero_le _, rfl, rfl, Nat.zero_le _, Ow.nil _ _ _, XS.out⟩
      case round =>
        obtain ⟨j, A11, N, d11, hj, rfl, rfl, hN, ho, hbr⟩ := hrel
        clear XS
        have OA := hid ho; have XS := hid hbr
        have OL := hid (OL5.out.step hbr); have OR := hid (OR5.out.step hbr); have RA := hid (RA5.out.step hbr)
        clear ho hbr
        by_cases hjq : j < q
        · skip
          have hji : (j : Int) < (q : Int) := by omega
          have hwj : IntKind.i64.wrap ((j : Int) + 1) = (j : Int) + 1 := by rw [IntKind.wrap_i64]; omega
          obtain ⟨⟨ys, Ay, ny, cy⟩, hy⟩ : ∃ y, y = es[j]?.getD zRw := ⟨_, rfl⟩
          have hel := OR.out.len
          have hro := RA.out.1 j (by rw [hel]; exact hjq)
          rw [← hy] at hro
          have HRO := hid hro
          have hys := hid (show ys = placesL l (j : Int) by
            have e := congrArg (fun l => l[j]?) HES.out
            simp only [List.getElem?_map] at e
            rw [List.getElem?_range hjq, List.getElem?_eq_getElem (show j < es.length by rw [hel]; exact hjq)] at e
            rw [List.getElem?_eq_getElem (show j < es.length by rw [hel]; exact hjq)] at hy
            simp only [Option.map_some, Option.some.injEq, Option.getD_some] at e hy
            rw [← hy] at e
            exact e)
          have hny := hid (show ny ≤ 60 by have h := hro.len; dsimp only at h; have h2 := plF_len l (j : Int) l.length; rw [hys.out] at h; unfold placesL at h; have := hlm.out; omega)
          have hny60 := hny.out
          obtain ⟨gR, rfl, _, _, f0, _⟩ := OR.out.at_ zRw hjq
          rw [← hy] at f0
          simp only [encR] at f0
          clear hy hro hel
          go_upto_region 15 with fail
          clear f0
          go_upto_block 2 with fail
          go_cut [15, 103] (fun _ _ wx => wx = wr)
          case first =>
            go_wp2_with fail
            go_loopw [15, 103] (fun _ v wr' => wr' = wr ∧ ∃ k : Nat, k ≤ ny ∧ v = .int .i64 k) (fun _ v _ => ny - (intOf v).toNat)
            case atStart => exact ⟨rfl, 0, Nat.zero_le _, rfl⟩
            case round =>
              obtain ⟨rfl, k, hk, rfl⟩ := hrel
              by_cases hkn : k < ny
              rotate_left
              · obtain rfl : k = ny := by omega
                have hnn : ¬ ((k : Int) < (k : Int)) := by omega
                go_wp2
                go_meet
                trivial
              have hki : (k : Int) < (ny : Int) := by omega
              have hwk : IntKind.i64.wrap ((k : Int) + 1) = (k : Int) + 1 := by rw [IntKind.wrap_i64]; omega
              obtain ⟨gY, hgY, _, _, f1, _⟩ := HRO.out.at_ 0 hkn
              (try dsimp only at hgY)
              subst hgY
              have hyl := HRO.out.len
              (try dsimp only at hyl)
              obtain ⟨i, hil, hiv, hiq⟩ := plF_mem l (j : Int) l.length (ys[k]?.getD 0) (by
                have h := hys.out
                unfold placesL at h
                rw [← h, List.getElem?_eq_getElem (by omega)]; exact List.getElem_mem _)
              rw [hiv] at f1
              have him : i < m := by omega
              have hii : (i : Int) < (m : Int) := by omega
              obtain ⟨gL, rfl, _, _, f2, _⟩ := OL.out.at_ 0 him
              rw [hiq] at f2
              clear hiv hiq hyl
              go_wp2
              go_roundw
              case rel => exact ⟨by trivial, k + 1, by omega, by go_num⟩
              case measure => simp [intOf]; omega
          case rest =>
            subst hcut
            have hoal := OA.out.len
            go_wp2_with (at_builtin; refine wpList_app i64 0 _ rfl _ _ 22 rfl wS.heap.size 3 i0 _ 8 Try.underlying22 hi0 hz00 hz01 hz02 rfl A11 N d11 _ rfl OA.out 0 _ Ay ny cy ys rfl ((HRO.out.sl (d := 0)).mono (Nat.zero_le _) (Nat.le_refl _)) (fun _ => rfl) (by simp only [maxLen]; omega) (by omega) XS.out.size ?_; intro A8 c8 w8 hown hgr hat; have OA8 := hid hown; have XS8 := hid (XS.out.grown hgr XS.out.size (fun k hk => OA.out.row_ge k hk)); clear hown hgr hat)
            go_roundw
            case rel => exact ⟨j + 1, A8, N + ny, c8, by omega, by go_num, by first | rfl | go_num, by omega, by rw [allP_succ, HPP.out]; show Ow i64 _ _ _ _ _ _ (allP (fun i : Nat => placesL l (i : Int)) j ++ placesL l (j : Int)); rw [← hys.out, ← HPP.out]; exact OA8.out, XS8.out⟩
            case measure => simp [intOf]; omega
        obtain rfl : j = q := by omega
        have hnn : ¬ ((j : Int) < (j : Int)) := by omega
        have hall := allP_perm HS.out.2 l.length (Nat.le_refl _)
        have hpf : PF = fun i : Nat => plF l (i : Int) l.length := HPP.out
        rw [← hpf] at hall
        have hio := allP_iota hall
        have hNm := hid (show N = m by rw [← OA.out.len, hio.1, hlm.out])
        have hIO := hid (srt_iota hio.1 hio.2)
        clear hall hpf hio
        clear OR RA HES
        go_wp2_with fail
        refine (sort_own A11 N d11 wS.heap.size (allP PF j) wr OA.out (by have := hNm.out; omega) XS.out.size).mono ?_
        rintro e w10 ⟨rfl, ho, hb⟩
        have OS := hid ho
        have XT := hid (XS.out.trans hb)
        replace OL := hid (OL5.out.step XT.out)
        have HBW := hid (below_then HB5.out XT.out)
        have B4W := hid (below_then B45.out XT.out)
        clear ho hb OA XS OL5 OR5 RA5 HB5 B45
        go_wp2_with fail
        go_loopw [16, 17, 122] (fun _ _ v wr' => wr' = w10 ∧ ∃ k : Nat, k ≤ N ∧ v = .int .i64 k) (fun _ _ v _ => N - (intOf v).toNat)
        case atStart => exact ⟨rfl, 0, Nat.zero_le _, rfl⟩
        case round =>
          obtain ⟨rfl, k, hk, rfl⟩ := hrel
          by_cases hkn : k < N
          · have hki : (k : Int) < (N : Int) := by omega
            have hwk : IntKind.i64.wrap ((k : Int) + 1) = (k : Int) + 1 := by rw [IntKind.wrap_i64]; have := hNm.out; omega
            obtain ⟨gS, rfl, _, _, f1, _⟩ := OS.out.at_ 0 hkn
            rw [hIO.out k (by have := hNm.out; have := hlm.out; omega), Option.getD_some] at f1
            go_wp2
            go_roundw
            case rel => exact ⟨by trivial, k + 1, by omega, by go_num⟩
            case measure => simp [intOf]; omega
          obtain rfl : k = N := by omega
          obtain rfl : k = m := hNm.out
          have hnn : ¬ ((k : Int) < (k : Int)) := by omega
          go_wp2_with fail
          refine (srounds_any (j : Int) A10 tk c10 pt _ (SPB.out _ B4W.out) (by omega)).mono ?_
          rintro e w11 ⟨rfl, hb⟩
          rw [ERP.out, hptl.out]
          replace OL := hid (OL.out.step hb); replace HBW := hid (below_then HBW.out hb); replace B4W := hid (below_then B4W.out hb)
          clear hb
          go_wp2_with fail
          refine (srounds_any (j : Int) A k d l w11 ((OL.out.sl (d := 0)).mono (Nat.zero_le _) (Nat.le_refl _)) (by omega)).mono ?_
          rintro e w12 ⟨rfl, hb⟩
          rw [ERL.out, hlm.out]
          have hrd := HRD.out
          have hrdi : ((rdF j pt tk).1 : Int) ≤ ((rdF j l k).1 : Int) := by omega
          replace OL := hid (OL.out.step hb); replace HBW := hid (below_then HBW.out hb); replace B4W := hid (below_then B4W.out hb)
          clear hb
          go_wp2
          refine bodyPost_ret (v := .bool true) (by simp [results, Try.results6, go_sem]) rfl ⟨rfl, HBW.out⟩
end Go.Proofs.Ytijofgbealikaaa
