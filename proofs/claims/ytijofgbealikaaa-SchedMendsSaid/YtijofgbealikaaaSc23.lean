/- afterglowref04: Can, Mend. No condition but sizes. -/
import Derived.Test.YtijofgbealikaaaSc22
namespace Go.Proofs.Ytijofgbealikaaa
open Go.RowKit
/-- waits of the first j CPUs -/
def wts (xs : List Int) (j : Nat) : List Int := (List.range j).map fun q : Nat => (waitR xs q : Int)
theorem wts_succ (xs : List Int) (j : Nat) : wts xs (j + 1) = wts xs j ++ [(waitR xs j : Int)] := by unfold wts; rw [List.range_succ, List.map_append]; rfl
theorem wts_len (xs : List Int) (j : Nat) : (wts xs j).length = j := by simp [wts]
set_option maxHeartbeats 4000000 in
theorem rcan_any (m : Nat) (kk : Int) (P : Option Addr) (n c : Nat) (xs : List Int) (w : World) (h : Sl i64 0 w 0 w.heap.size P n xs) (hn : n ≤ 100000) (hm : m ≤ 8) (hk : (m : Int) ≤ kk ∧ kk ≤ 9223372036854775807) (hm1 : 1 ≤ m) :
    Calls Try.prog 36 #[.int .i64 m, .int .i64 kk, .slice P n c] w fun e w' => e = .returned (.bool (canD kk (wts xs m))) ∧ Below w.heap.size w w' := by
  have HR := hid h; have hl := hid h.len; have HB := hid (Below.refl w.heap.size w)
  obtain ⟨i0, hi0, hz00, hz01, hz02⟩ := info_parts info_int
  clear h
  go_enter Try.func36, Try.ntmps36
  go_wp2_with fail
  go_loopw [7, 8, 12] (fun o _ v wr => ∃ (j : Nat) (A : Option Addr) (d : Nat), j ≤ m ∧ v = .int .i64 j ∧ o = .slice A j d ∧ Ow i64 wr w.heap.size 3 A j d (wts xs j) ∧ Below w.heap.size w wr) (fun _ _ v _ => m - (intOf v).toNat)
  case atStart => exact ⟨0, none, 0, Nat.zero_le _, rfl, rfl, Ow.nil _ _ _, HB.out⟩
  case round =>
    clear HB
    obtain ⟨j, A, d, hj, rfl, rfl, h1, h2⟩ := hrel
    have HO := hid h1; have HB := hid h2
    clear h1 h2
    by_cases hjn : j < m
    · skip
      have hji : (j : Int) < (m : Int) := by omega
      have hw2 : IntKind.i64.wrap ((j : Int) + 1) = (j : Int) + 1 := by rw [IntKind.wrap_i64]; omega
      go_wp2_with fail
      refine (rwait_any P n c 0 _ xs j _ (HR.out.below HB.out (Nat.le_refl _)) (by omega)).mono ?_
      rintro e w1 ⟨rfl, rfl⟩
      obtain ⟨x, hx⟩ : ∃ x : Int, x = (waitR xs (j : Int) : Int) := ⟨_, rfl⟩
      rw [← hx]
      have HX := hid hx
      clear hx
      go_wp2_with (at_builtin; refine wpList_app i64 0 _ rfl _ _ 22 rfl w.heap.size 3 i0 _ 8 Try.underlying22 hi0 hz00 hz01 hz02 rfl A j d _ rfl (HO.out.alloc (.cells #[.int .i64 x] 3)) 0 _ _ 1 1 [x] rfl ((Sl.one' rfl).mono (Nat.zero_le _) (Nat.le_refl _)) (fun _ => rfl) (by simp only [maxLen]; omega) (by omega) (by have := HB.out.size; simp; omega) ?_; intro A8 c8 w8 hown hgr hat; have HO8 := hid hown; have HB8 := hid (Below.grown (below_then HB.out (below_box _ (.cells #[.int .i64 x] 3))) hgr (by have := HB.out.size; simp; omega) (fun k hk => HO.out.row_ge k hk)); clear hown hgr hat HO HB)
      go_roundw
      case rel => exact ⟨j + 1, A8, c8, by omega, by go_num, rfl, by rw [wts_succ, ← HX.out]; exact HO8.out, HB8.out⟩
      case measure => simp [intOf]; omega
    obtain rfl : j = m := by omega
    have hnn : ¬ ((j : Int) < (j : Int)) := by omega
    have hl2 := hid HO.out.len
    go_wp2_with fail
    refine (rsorted_any A j d (wts xs j) _ ((HO.out.sl (d := 0)).mono (Nat.zero_le _) (Nat.le_refl _)) (by omega)).mono ?_
    rintro e w2 ⟨⟨A2, d2, rfl, ho⟩, hb⟩
    have HO2 := hid (ho.mono (show w.heap.size ≤ _ from HB.out.size))
    replace HB := hid (below_then HB.out hb)
    obtain ⟨L, hL⟩ : ∃ L, L = sortD (wts xs j) := ⟨_, rfl⟩
    rw [← hL] at HO2
    have HCD := hid (show canD kk (wts xs j) = decide (∀ i, i < j → L[i]?.getD 0 ≤ kk - 1 - i) by unfold canD; rw [← hL, wts_len])
    clear ho hb hL HO
    go_wp2_with fail
    go_loopw [9, 10, 25] (fun _ _ v wr' => wr' = w2 ∧ ∃ i : Nat, i ≤ j ∧ v = .int .i64 i ∧ ∀ q, q < i → L[q]?.getD 0 ≤ kk - 1 - (q : Int)) (fun _ _ v _ => j - (intOf v).toNat)
    case atStart => exact ⟨rfl, 0, Nat.zero_le _, rfl, fun q hq => absurd hq (Nat.not_lt_zero _)⟩
    case round =>
      obtain ⟨rfl, i, hi, rfl, hall⟩ := hrel
      have HALL := hid hall
      clear hall
      by_cases hij : i < j
      rotate_left
      · obtain rfl : i = j := by omega
        have hnn : ¬ ((i : Int) < (i : Int)) := by omega
        have E := hid (show canD kk (wts xs i) = true by rw [HCD.out]; exact decide_eq_true HALL.out)
        go_wp2
        go_ret
        exact ⟨ret_bool E.out.symm, HB.out⟩
      have hii : (i : Int) < (j : Int) := by omega
      have hw2 : IntKind.i64.wrap ((i : Int) + 1) = (i : Int) + 1 := by rw [IntKind.wrap_i64]; omega
      have hw3 : IntKind.i64.wrap (kk - 1) = kk - 1 := by rw [IntKind.wrap_i64]; omega
      have hw4 : IntKind.i64.wrap (kk - 1 - (i : Int)) = kk - 1 - (i : Int) := by rw [IntKind.wrap_i64]; omega
      obtain ⟨g2, rfl, _, _, hc, _⟩ := HO2.out.at_ 0 hij
      obtain ⟨x, hx⟩ : ∃ x, x = L[i]?.getD 0 := ⟨_, rfl⟩
      rw [← hx] at hc
      have HX := hid hx
      clear hx
      by_cases hlt : kk - 1 - (i : Int) < x
      · have d1 : decide (kk - 1 - (i : Int) < x) = true := decide_eq_true hlt
        have E := hid (show canD kk (wts xs j) = false by rw [HCD.out]; exact decide_eq_false (fun h => by have := h i hij; rw [← HX.out] at this; omega))
        go_wp2
        go_ret
        exact ⟨ret_bool E.out.symm, HB.out⟩
      · have d1 : decide (kk - 1 - (i : Int) < x) = false := decide_eq_false hlt
        have HA2 := hid (show ∀ q, q < i + 1 → L[q]?.getD 0 ≤ kk - 1 - (q : Int) from fun q hq => by
          rcases Nat.lt_or_ge q i with h | h
          · exact HALL.out q h
          · obtain rfl : q = i := by omega
            rw [← HX.out]; omega)
        go_wp2
        go_roundw
        case rel => exact ⟨by trivial, i + 1, by omega, by go_num, HA2.out⟩
        case measure => simp [intOf]; omega
theorem wts_wL {xs : List Int} (hx : ∀ x ∈ xs, 0 ≤ x ∧ x < 8) {m : Nat} (hm : m ≤ 8) : wts xs m = (wL xs).take m := by
  apply List.ext_getElem?
  intro i
  unfold wts
  rw [List.getElem?_map, List.getElem?_take]
  by_cases h : i < m
  · rw [if_pos h, List.getElem?_range h]
    have hl := wL_wait hx (show i < 8 by omega)
    rw [List.getElem?_eq_getElem (by rw [wL_len]; omega)] at hl ⊢
    rw [Option.getD_some] at hl
    rw [hl]; rfl
  · rw [if_neg h, List.getElem?_eq_none (by rw [List.length_range]; omega)]; rfl
theorem canD_mend {xs : List Int} (hx : ∀ x ∈ xs, 0 ≤ x ∧ x < 8) {m p : Nat} (hm : m ≤ 8) (hp : p < m) (kk : Int) : canD kk (wts (xs ++ [(p : Int)]) m) = canB m kk (pickL (wL xs) p) := by
  rw [wts_wL (fun x h => by rcases List.mem_append.1 h with h | h; exact hx x h; rw [List.mem_singleton.1 h]; omega) hm, canD_eq (by rw [wL_len]; exact hm), wL_snoc]
  rfl
set_option maxRecDepth 100000 in
set_option maxHeartbeats 8000000 in
theorem rmend_any (m : Nat) (kk : Int) (P : Option Addr) (n c : Nat) (xs : List Int) (w : World) (h : Sl i64 0 w 0 w.heap.size P n xs) (hn : n ≤ 1000) (hm : m ≤ 8) (hk : (m : Int) ≤ kk ∧ kk ≤ 9223372036854775807) (hm1 : 1 ≤ m) :
    Calls Try.prog 24 #[.int .i64 m, .int .i64 kk, .slice P n c] w fun e w' => (∃ A d, e = .returned (.slice A n d) ∧ Ow i64 w' w.heap.size 3 A n d (mendF m kk xs).1) ∧ Below w.heap.size w w' := by
  have HR := hid h; have hl := hid h.len; have HB := hid (Below.refl w.heap.size w)
  obtain ⟨i0, hi0, hz00, hz01, hz02⟩ := info_parts info_int
  clear h
  go_enter Try.func24, Try.ntmps24
  go_wp2_with fail
  go_loopw [7, 9, 10, 11, 14] (fun o _ _ _ v wr => ∃ (j : Nat) (A : Option Addr) (d : Nat), j ≤ n ∧ v = .int .i64 j ∧ o = .slice A j d ∧ Ow i64 wr w.heap.size 3 A j d (mendF m kk (xs.take j)).1 ∧ Below w.heap.size w wr) (fun _ _ _ _ v _ => n - (intOf v).toNat)
  case atStart => exact ⟨0, none, 0, Nat.zero_le _, rfl, rfl, Ow.nil _ _ _, HB.out⟩
  case round =>
    clear HB
    obtain ⟨j, A, d, hj, rfl, rfl, h1, h2⟩ := hrel
    have HO := hid h1; have HB := hid h2
    clear h1 h2
    by_cases hjn : j < n
    rotate_left
    · obtain rfl : j = n := by omega
      have hnn : ¬ ((j : Int) < (j : Int)) := by omega
      have HE := hid (show (mendF m kk (xs.take j)).1 = (mendF m kk xs).1 by rw [List.take_of_length_le (by rw [hl.out]; exact Nat.le_refl _)])
      go_wp2
      go_ret
      exact ⟨⟨A, d, rfl, by rw [← HE.out]; exact HO.out⟩, HB.out⟩
    obtain ⟨b, off, rfl, _, hbh, hc⟩ := HR.out.row (by omega)
    obtain ⟨x, hx⟩ : ∃ x, x = xs[j]?.getD 0 := ⟨_, rfl⟩
    have f0 := (HB.out.cell (p := ⟨b, off + j, none⟩) hbh).trans (hc j hjn)
    rw [← hx] at f0
    have HX := hid hx
    have hji : (j : Int) < (n : Int) := by omega
    have hw2 : IntKind.i64.wrap ((j : Int) + 1) = (j : Int) + 1 := by rw [IntKind.wrap_i64]; omega
    have hm0 : ((m : Int) == 0) = false := by simp; omega
    have hm0' : (m : Int) ≠ 0 := by omega
    have hm0n : ¬ m = 0 := by omega
    have ht1 : -(m : Int) < x.tmod m := Int.lt_tmod_of_pos x (by omega)
    have ht2 : x.tmod m < m := Int.tmod_lt_of_pos x (by omega)
    have hw3 : IntKind.i64.wrap (x.tmod m) = x.tmod m := by rw [IntKind.wrap_i64]; omega
    have hw4 : IntKind.i64.wrap (x.tmod m + m) = x.tmod m + m := by rw [IntKind.wrap_i64]; omega
    have hwish := wish_rem (m := m) (by omega) x
    have hwl := wish_lt (m := m) (by omega) x
    obtain ⟨wp, hwp⟩ : ∃ q, q = wishP m x := ⟨_, rfl⟩
    rw [← hwp] at hwish hwl
    have hw5 : IntKind.i64.wrap (wp : Int) = (wp : Int) := by rw [IntKind.wrap_i64]; omega
    obtain ⟨O, hO⟩ : ∃ O, O = (mendF m kk (xs.take j)).1 := ⟨_, rfl⟩
    have hprops := mendF_props m kk xs j (by rw [hl.out]; omega)
    have hins := mendF_in (m := m) (kk := kk) hm1 hm (xs.take j)
    rw [← hO] at HO hprops hins
    have HIN := hid (show ∀ y ∈ O, 0 ≤ y ∧ y < 8 from fun y hy => by have := hins y hy; omega)
    have HCB := hid (canD_mend HIN.out hm hwl kk)
    have HMP := hid (show mendP m kk (wL O) x = if canB m kk (pickL (wL O) wp) = true then wp else mostL ((wL O).take m) by unfold mendP; rw [← hwp])
    have HST := hid (show ∀ q, mendP m kk (wL O) x = q → (mendF m kk (xs.take (j + 1))).1 = O ++ [(q : Int)] from fun q hq => by
      rw [take_succI (by rw [hl.out]; exact hjn), mendF_snoc, ← HX.out]
      unfold mendSt
      rw [hprops.2, hq, ← hO])
    have hWT := hid (wts_wL HIN.out hm)
    clear hx hc hwp hO hprops hins
    have H9 := hid (Below.refl wr.heap.size wr)
    go_wp2_with (first | (at_builtin; refine wpList_app i64 0 _ rfl _ _ 22 rfl wr.heap.size 3 i0 _ 8 Try.underlying22 hi0 hz00 hz01 hz02 rfl (some ⟨wr.heap.size, 0, none⟩) 0 0 [] rfl (Ow.empty _ _ _ (Nat.le_refl _)) 0 wr.heap.size A j d O rfl ((((HO.out.sl (d := 0)).mono (Nat.zero_le _) (Nat.le_refl _))).alloc (Nat.le_refl _) _) (fun _ => rfl) (by simp only [maxLen]; omega) (by omega) (by simp) ?_; intro A4 c4 w4 hown hgr hat; replace H9 := hid (Below.grown (below_then H9.out (below_box _ (.cells #[] 3))) hgr (by simp) (fun k hk => by simp [Value.ownBlock] at hk; omega)); simp only [Nat.zero_add, List.nil_append] at hown ⊢; have R4 := hid hown; clear hown hgr hat f0) | (at_builtin; refine wpList_app i64 0 _ rfl _ _ 22 rfl wr.heap.size 3 i0 _ 8 Try.underlying22 hi0 hz00 hz01 hz02 rfl A4 j c4 O rfl (R4.out.alloc (.cells #[.int .i64 (wp : Int)] 3)) 0 _ _ 1 1 [(wp : Int)] rfl ((Sl.one' rfl).mono (Nat.zero_le _) (Nat.le_refl _)) (fun _ => rfl) (by simp only [maxLen]; omega) (by omega) (by have := H9.out.size; simp; omega) ?_; intro A5 c5 w5 hown hgr hat; replace H9 := hid (Below.grown (below_then H9.out (below_box _ (.cells #[.int .i64 (wp : Int)] 3))) hgr (by have := H9.out.size; simp; omega) (fun k hk => R4.out.row_ge k hk)); have R5 := hid hown; clear hown hgr hat R4))
    refine (rcan_any m kk A5 (j + 1) c5 (O ++ [(wp : Int)]) w5 ((R5.out.sl (d := 0)).mono (Nat.zero_le _) (Nat.le_refl _)) (by omega) hm hk hm1).mono ?_
    rintro e w6 ⟨rfl, hb⟩
    rw [HCB.out]
    replace H9 := hid (below_then H9.out hb)
    replace HO := hid (HO.out.step H9.out)
    replace HB := hid (below_then HB.out H9.out)
    clear hb R5 H9
    by_cases hcan : canB m kk (pickL (wL O) wp) = true
    · rw [hcan]
      have HS := hid (HST.out wp (by rw [HMP.out, if_pos hcan]))
      clear hcan
      go_wp2_with (at_builtin; refine wpList_app i64 0 _ rfl _ _ 22 rfl w.heap.size 3 i0 _ 8 Try.underlying22 hi0 hz00 hz01 hz02 rfl A j d _ rfl (HO.out.alloc (.cells #[.int .i64 (wp : Int)] 3)) 0 _ _ 1 1 [(wp : Int)] rfl ((Sl.one' rfl).mono (Nat.zero_le _) (Nat.le_refl _)) (fun _ => rfl) (by simp only [maxLen]; omega) (by omega) (by have := HB.out.size; simp; omega) ?_; intro A8 c8 w8 hown hgr hat; have HO8 := hid hown; have HB8 := hid (Below.grown (below_then HB.out (below_box _ (.cells #[.int .i64 (wp : Int)] 3))) hgr (by have := HB.out.size; simp; omega) (fun k hk => HO.out.row_ge k hk)); clear hown hgr hat HO HB)
      go_roundw
      case rel => exact ⟨j + 1, A8, c8, by omega, by go_num, rfl, by rw [HS.out]; exact HO8.out, HB8.out⟩
      case measure => simp [intOf]; omega
    rw [Bool.eq_false_iff.2 hcan]
    have HM := hid (show mendP m kk (wL O) x = mostL ((wL O).take m) by rw [HMP.out, if_neg hcan])
    have hOl := hid HO.out.len
    have SO := hid ((HO.out.sl (d := 0)).mono (Nat.zero_le _) (Nat.le_refl _))
    obtain ⟨l, hl8⟩ : ∃ l, l = (wL O).take m := ⟨_, rfl⟩
    rw [← hl8] at HM hWT
    have hlm := hid (show l.length = m by rw [hl8, List.length_take, wL_len]; omega)
    have hwt := hid (show ∀ q : Nat, q < m → (waitR O (q : Int) : Int) = l[q]?.getD 0 from fun q hq => by
      rw [← hWT.out]; unfold wts
      rw [List.getElem?_map, List.getElem?_range hq]; rfl)
    have hst0 := hid (show mostF (l.drop 0) (l[0]?.getD 0) 0 0 = mostL l from rfl)
    clear hcan hl8
    go_wp2_with fail
    go_loopw [10, 11, 36] (fun p _ v wr' => wr' = w6 ∧ ∃ (i : Nat) (q : Nat), i ≤ m ∧ q < m ∧ v = .int .i64 i ∧ p = .int .i64 q ∧ mostF (l.drop i) (l[q]?.getD 0) q i = mostL l) (fun _ _ v _ => m - (intOf v).toNat)
    case atStart => exact ⟨rfl, 0, 0, Nat.zero_le _, hm1, rfl, rfl, hst0.out⟩
    case round =>
      obtain ⟨rfl, i, q, hi, hq, rfl, rfl, hmo⟩ := hrel
      have HMO := hid hmo
      clear hmo
      by_cases him : i < m
      rotate_left
      · obtain rfl : i = m := by omega
        have hnn : ¬ ((i : Int) < (i : Int)) := by omega
        have HS := hid (HST.out q (by rw [HM.out, ← HMO.out, mostF_end l i (by rw [hlm.out]; exact Nat.le_refl _)]))
        go_wp2_with (at_builtin; refine wpList_app i64 0 _ rfl _ _ 22 rfl w.heap.size 3 i0 _ 8 Try.underlying22 hi0 hz00 hz01 hz02 rfl A j d _ rfl (HO.out.alloc (.cells #[.int .i64 (q : Int)] 3)) 0 _ _ 1 1 [(q : Int)] rfl ((Sl.one' rfl).mono (Nat.zero_le _) (Nat.le_refl _)) (fun _ => rfl) (by simp only [maxLen]; omega) (by omega) (by have := HB.out.size; simp; omega) ?_; intro A8 c8 w8 hown hgr hat; have HO8 := hid hown; have HB8 := hid (Below.grown (below_then HB.out (below_box _ (.cells #[.int .i64 (q : Int)] 3))) hgr (by have := HB.out.size; simp; omega) (fun k hk => HO.out.row_ge k hk)); clear hown hgr hat HO HB)
        go_roundw
        case rel => exact ⟨j + 1, A8, c8, by omega, by go_num, rfl, by rw [HS.out]; exact HO8.out, HB8.out⟩
        case measure => simp [intOf]; omega
      have hii : (i : Int) < (m : Int) := by omega
      have hw6 : IntKind.i64.wrap ((i : Int) + 1) = (i : Int) + 1 := by rw [IntKind.wrap_i64]; omega
      have hwi := hwt.out i him
      have hwq := hwt.out q hq
      have HSTP := hid (mostF_step l i (by rw [hlm.out]; exact him) (l[q]?.getD 0) q)
      rw [← hwi, ← hwq] at HSTP
      rw [← hwq] at HMO
      have HWI := hid hwi; have HWQ := hid hwq
      clear hwi hwq
      go_wp2_with fail
      refine (rwait_any A j d 0 _ O i _ SO.out (by omega)).mono ?_
      rintro e w7 ⟨rfl, rfl⟩
      go_wp2_with fail
      refine (rwait_any A j d 0 _ O q _ SO.out (by omega)).mono ?_
      rintro e w8 ⟨rfl, rfl⟩
      by_cases hlt : waitR O (q : Int) < waitR O (i : Int)
      · have d1 : decide ((waitR O (q : Int) : Int) < (waitR O (i : Int) : Int)) = true := decide_eq_true (by omega)
        have HN := hid (show mostF (l.drop (i + 1)) (l[i]?.getD 0) i (i + 1) = mostL l by rw [← HMO.out, HSTP.out, if_pos (by omega), HWI.out])
        clear HSTP HMO HWI HWQ
        go_wp2
        go_roundw
        case rel => exact ⟨by trivial, i + 1, i, by omega, him, by go_num, rfl, HN.out⟩
        case measure => simp [intOf]; omega
      · have d1 : decide ((waitR O (q : Int) : Int) < (waitR O (i : Int) : Int)) = false := decide_eq_false (by omega)
        have HN := hid (show mostF (l.drop (i + 1)) (l[q]?.getD 0) q (i + 1) = mostL l by rw [← HMO.out, HSTP.out, if_neg (by omega), HWQ.out])
        clear HSTP HMO HWI HWQ
        go_wp2
        go_roundw
        case rel => exact ⟨by trivial, i + 1, q, by omega, hq, by go_num, rfl, HN.out⟩
        case measure => simp [intOf]; omega
end Go.Proofs.Ytijofgbealikaaa
