/- afterglowlaw04.SchedWaits returns true at every number of CPUs, row, and pick, and turns nothing old. No condition. -/
import Derived.Test.YtijofgbealikaaaLScT
namespace Go.Proofs.Ytijofgbealikaaa
open Go.RowKit
set_option maxRecDepth 100000 in
set_option maxHeartbeats 8000000 in
theorem schedwaits_any (c : Int) (P : Option Addr) (n cp : Nat) (xs : List Int) (pk : Int) (w : World) (h : Sl i64 0 w 0 w.heap.size P n xs) (hnc : n ≤ cp) :
    Calls Try.prog 7 #[.int .i64 c, .slice P n cp, .int .i64 pk] w fun e w' => e = .returned (.bool true) ∧ Below w.heap.size w w' := by
  have HX := hid h; have HB := hid (Below.refl w.heap.size w)
  obtain ⟨i0, hi0, hz00, hz01, hz02⟩ := info_parts info_int
  clear h
  go_enter Try.func7, Try.ntmps7
  go_wp2_with fail
  refine (swakes_any w).mono ?_
  rintro e w1 ⟨rfl, hb⟩
  replace HB := hid (below_then HB.out hb)
  clear hb
  go_wp2_with fail
  refine (fewI_any P n cp xs w1 ((HX.out.below HB.out (Nat.le_refl _)).mono (Nat.le_refl _) HB.out.size) hnc).mono ?_
  rintro e w2 ⟨⟨A, m, d, rfl, hm, hmd, ho⟩, hb⟩
  have OL := hid ho
  obtain ⟨l, hl⟩ : ∃ l, l = xs.take 60 := ⟨_, rfl⟩
  rw [← hl] at OL
  have hlm := hid OL.out.len
  clear ho hl
  replace HB := hid (below_then HB.out hb)
  clear hb
  go_wp2_with fail
  refine (scheck_any c A m d l w2 ((OL.out.sl (d := 0)).mono (Nat.zero_le _) (Nat.le_refl _)) (by omega)).mono ?_
  rintro e w3 ⟨rfl, hb⟩
  replace OL := hid (OL.out.step hb); replace HB := hid (below_then HB.out hb)
  clear hb
  by_cases hs : SchR c l
  rotate_left
  · rw [show scheckC c l = 140 from if_neg hs]
    go_wp2
    refine bodyPost_ret (v := .bool true) (by simp [results, Try.results7, go_sem]) rfl ⟨rfl, HB.out⟩
  rw [show scheckC c l = 0 from if_pos hs]
  have HS := hid hs
  obtain ⟨q, rfl⟩ := Int.eq_ofNat_of_zero_le (show 0 ≤ c by have := hs.1.1; omega)
  have hq1 : 1 ≤ q := by have := hs.1.1; omega
  have hq8 : q ≤ 8 := by have := hs.1.2; omega
  have h8 := hid (show ∀ x ∈ l, 0 ≤ x ∧ x < 8 from fun x hx => by have := hs.2 x hx; omega)
  have EW := hid (show waitsC (q : Int) l = (wL l).take q from if_pos hs)
  obtain ⟨p, hp⟩ : ∃ p : Nat, p = (pk % 18446744073709551616 % q).toNat := ⟨_, rfl⟩
  have hp1 := Int.emod_nonneg (pk % 18446744073709551616) (show (q : Int) ≠ 0 by omega)
  have hp2 := Int.emod_lt_of_pos (pk % 18446744073709551616) (show (0 : Int) < (q : Int) by omega)
  have hpi : pk % 18446744073709551616 % (q : Int) = (p : Int) := by omega
  have hpq : p < q := by omega
  have hu1 : IntKind.u64.wrap pk = pk % 18446744073709551616 := by simp [IntKind.wrap, IntKind.signed, IntKind.bits]
  have hu2 : IntKind.u64.wrap (q : Int) = (q : Int) := by simp [IntKind.wrap, IntKind.signed, IntKind.bits]; omega
  have hu3 : IntKind.i64.wrap (p : Int) = (p : Int) := by rw [IntKind.wrap_i64]; omega
  have hq0 : ((q : Int) == 0) = false := by simp; omega
  have hq0' : ¬ (q : Int) = 0 := by omega
  have hq0n : ¬ q = 0 := by omega
  have htm : (pk % 18446744073709551616).tmod (q : Int) = (p : Int) := by rw [Int.tmod_eq_emod_of_nonneg (Int.emod_nonneg _ (by decide)), hpi]
  have hu4 : IntKind.u64.wrap (p : Int) = (p : Int) := by simp [IntKind.wrap, IntKind.signed, IntKind.bits]; omega
  have hs2 : SchR (q : Int) (l ++ [(p : Int)]) := ⟨hs.1, fun x hx => by
    rcases List.mem_append.1 hx with h | h
    · exact hs.2 x h
    · rw [List.mem_singleton.1 h]; omega⟩
  have EW2 := hid (show waitsC (q : Int) (l ++ [(p : Int)]) = (pickL (wL l) p).take q by rw [show waitsC (q : Int) (l ++ [(p : Int)]) = (wL (l ++ [(p : Int)])).take (q : Int).toNat from if_pos hs2, wL_snoc]; rfl)
  clear hs hs2 hp hp1 hp2
  go_wp2_with fail
  refine (swaits_any (q : Int) A m d l w3 ((OL.out.sl (d := 0)).mono (Nat.zero_le _) (Nat.le_refl _)) (by omega)).mono ?_
  rintro e w4 ⟨⟨A4, m4, d4, rfl, ho⟩, hb⟩
  rw [EW.out] at ho
  obtain rfl : q = m4 := by rw [← ho.len, List.length_take, wL_len]; omega
  have OW := hid ho
  clear ho
  replace OL := hid (OL.out.step hb); replace HB := hid (below_then HB.out hb)
  clear hb
  go_wp2_with fail
  refine (clone_int A m d 0 l w4 ((OL.out.sl (d := 0)).mono (Nat.zero_le _) (Nat.le_refl _)) (by omega)).mono ?_
  rintro e w5 ⟨A5, d5, rfl, ho, hb⟩
  have OC := hid ho
  have hs5 := hid (show w4.heap.size ≤ w5.heap.size from hb.size)
  have B5 := hid hb
  clear ho hb
  go_wp2_with (at_builtin; refine wpList_app i64 0 _ rfl _ _ 22 rfl w4.heap.size 3 i0 _ 8 Try.underlying22 hi0 hz00 hz01 hz02 rfl A5 m d5 l rfl (OC.out.alloc (.cells #[.int .i64 (p : Int)] 3)) 0 _ _ 1 1 [(p : Int)] rfl ((Sl.one' rfl).mono (Nat.zero_le _) (Nat.le_refl _)) (fun _ => rfl) (by simp only [maxLen]; omega) (by omega) (by have := hs5.out; simp; omega) ?_; intro A8 c8 w8 hown hgr hat; have OC8 := hid hown; have X8 := hid (show Below w4.heap.size w5 w8 from Below.grown ((Below.refl w4.heap.size w5).alloc hs5.out (.cells #[.int .i64 (p : Int)] 3)) hgr (by have := hs5.out; simp; omega) (fun k hk => OC.out.row_ge k hk)); clear hown hgr hat)
  have B8 := hid (B5.out.trans X8.out)
  replace OW := hid (OW.out.step B8.out)
  replace HB := hid (below_then HB.out B8.out)
  clear B5 X8 B8 OL OC
  refine (swaits_any (q : Int) A8 (m + 1) c8 (l ++ [(p : Int)]) w8 ((OC8.out.sl (d := 0)).mono (Nat.zero_le _) (Nat.le_refl _)) (by omega)).mono ?_
  rintro e w9 ⟨⟨A9, m9, d9, rfl, ho⟩, hb⟩
  rw [EW2.out] at ho
  obtain rfl : q = m9 := by rw [← ho.len, List.length_take, pickL_len, wL_len]; omega
  have OI := hid ho
  clear ho
  replace OW := hid (OW.out.step hb); replace HB := hid (below_then HB.out hb)
  clear hb OC8
  go_wp2_with fail
  go_loopw [10, 11, 38] (fun _ _ v wr => wr = w9 ∧ ∃ j : Nat, j ≤ q ∧ v = .int .i64 j) (fun _ _ v _ => q - (intOf v).toNat)
  case atStart => exact ⟨rfl, 0, Nat.zero_le _, rfl⟩
  case round =>
    obtain ⟨rfl, j, hj, rfl⟩ := hrel
    by_cases hjq : j < q
    rotate_left
    · obtain rfl : j = q := by omega
      have hnn : ¬ ((j : Int) < (j : Int)) := by omega
      go_wp2
      refine bodyPost_ret (v := .bool true) (by simp [results, Try.results7, go_sem]) rfl ⟨rfl, HB.out⟩
    have hji : (j : Int) < (q : Int) := by omega
    have hw2 : IntKind.i64.wrap ((j : Int) + 1) = (j : Int) + 1 := by rw [IntKind.wrap_i64]; omega
    obtain ⟨gI, rfl, _, _, hci, _⟩ := OI.out.at_ 0 hjq
    obtain ⟨gW, rfl, _, _, hcw, _⟩ := OW.out.at_ 0 hjq
    obtain ⟨x, hx⟩ : ∃ x, x = ((wL l).take q)[j]?.getD 0 := ⟨_, rfl⟩
    have hxw : 0 ≤ x ∧ x ≤ 60 := by
      have hm2 := hlm.out
      rw [hx, List.getElem?_eq_getElem (by rw [List.length_take, wL_len]; omega)]
      have := wL_in l _ (List.mem_of_mem_take (List.getElem_mem (l := (wL l).take q) (n := j) (by rw [List.length_take, wL_len]; omega)))
      rw [Option.getD_some]
      omega
    have hpk : ((pickL (wL l) p).take q)[j]?.getD 0 = if p = j then 0 else x + 1 := by
      rw [List.getElem?_take, if_pos hjq, pickL_get (by rw [wL_len]; omega), hx, List.getElem?_take, if_pos hjq]
    rw [hpk] at hci
    rw [← hx] at hcw
    have hw3 : IntKind.i64.wrap (x + 1) = x + 1 := by rw [IntKind.wrap_i64]; omega
    clear hpk hx
    by_cases hpj : p = j
    · subst hpj
      rw [if_pos rfl] at hci
      go_wp2
      go_roundw
      case rel => exact ⟨by trivial, p + 1, by omega, by go_num⟩
      case measure => simp [intOf]; omega
    · rw [if_neg hpj] at hci
      have dA : decide ((j : Int) = (p : Int)) = false := decide_eq_false (by omega)
      have dB : ((j : Int) == (p : Int)) = false := by simp; omega
      have dC : ((j : Int) != (p : Int)) = true := by simp; omega
      have hne : ¬ j = p := by omega
      go_wp2
      go_roundw
      case rel => exact ⟨by trivial, j + 1, by omega, by go_num⟩
      case measure => simp [intOf]; omega
end Go.Proofs.Ytijofgbealikaaa
