/- package sched: Mend. No condition but sizes. -/
import Derived.Test.YtijofgbealikaaaSc15
namespace Go.Proofs.Ytijofgbealikaaa
open Go.RowKit
def mendC (c kk : Int) (xs : List Int) : Int × List Int := if ¬ (1 ≤ c ∧ c ≤ 8) then (140, []) else if kk < c then (2, []) else (0, (mendF c.toNat kk xs).1)
set_option maxHeartbeats 8000000 in
theorem smend_any (c kk : Int) (P : Option Addr) (n k : Nat) (xs : List Int) (w : World) (h : Sl i64 0 w 0 w.heap.size P n xs) (hn : n ≤ 100000) (hk : kk ≤ 9223372036854775807) :
    Calls Try.prog 23 #[.int .i64 c, .int .i64 kk, .slice P n k] w fun e w' => (∃ A m d, e = .returned (.tuple #[.slice A m d, .int .i64 (mendC c kk xs).1]) ∧ Ow i64 w' w.heap.size 3 A m d (mendC c kk xs).2) ∧ Below w.heap.size w w' := by
  have HR0 := hid h; have HB := hid (Below.refl w.heap.size w); have hl := hid h.len
  clear h
  obtain ⟨⟨co, out⟩, hr⟩ : ∃ r, r = mendC c kk xs := ⟨_, rfl⟩
  rw [← hr]
  have HC := hid hr
  clear hr
  have bx := below_box w (.cells #[.int .i64 c] 3)
  replace HB := hid (below_then HB.out bx)
  clear bx
  have P3 := hid (Blk.new w 3 #[.int .i64 c])
  have bx := below_box (w.alloc (.cells #[.int .i64 c] 3)) (.cells #[.int .i64 kk] 3)
  replace P3 := hid (P3.out.step bx); replace HB := hid (below_then HB.out bx)
  clear bx
  have P4 := hid (Blk.new2 w 3 #[.int .i64 kk] (.cells #[.int .i64 c] 3))
  obtain ⟨y00, yf0⟩ := P3.out.cells1
  obtain ⟨y10, yf1⟩ := P4.out.cells1
  go_enter Try.func23, Try.ntmps23
  go_wp2_with fail
  clear y00 yf0 y10 yf1
  have hz0 := hid (show ((w.alloc (.cells #[.int .i64 c] 3)).alloc (.cells #[.int .i64 kk] 3)).heap.size = w.heap.size + 2 by simp)
  generalize (w.alloc (.cells #[.int .i64 c] 3)).alloc (.cells #[.int .i64 kk] 3) = W0 at *
  refine (known_any c _).mono ?_
  rintro e w1 ⟨rfl, rfl⟩
  by_cases h1 : 1 ≤ c ∧ c ≤ 8
  rotate_left
  · rw [decide_eq_false h1]
    obtain ⟨rfl, rfl⟩ : co = 140 ∧ out = [] := by
      have e := HC.out
      unfold mendC at e
      rw [if_pos h1] at e
      exact ⟨congrArg Prod.fst e, congrArg Prod.snd e⟩
    clear h1
    obtain ⟨y00, yf0⟩ := P3.out.cells1
    obtain ⟨y10, yf1⟩ := P4.out.cells1
    go_wp2
    refine bodyPost_ret (v := .tuple #[.slice none 0 0, .int .i64 140]) (by simp [results, Try.results23, go_sem]) rfl ⟨⟨none, 0, 0, rfl, Ow.nil _ _ _⟩, HB.out⟩
  rw [decide_eq_true h1]
  have H1 := hid h1
  clear h1
  by_cases h1 : kk < c
  · have d1 : decide (kk < c) = true := decide_eq_true h1
    obtain ⟨rfl, rfl⟩ : co = 2 ∧ out = [] := by
      have e := HC.out
      unfold mendC at e
      rw [if_neg (not_not_intro H1.out), if_pos h1] at e
      exact ⟨congrArg Prod.fst e, congrArg Prod.snd e⟩
    clear h1
    obtain ⟨y00, yf0⟩ := P3.out.cells1
    obtain ⟨y10, yf1⟩ := P4.out.cells1
    go_wp2
    refine bodyPost_ret (v := .tuple #[.slice none 0 0, .int .i64 2]) (by simp [results, Try.results23, go_sem]) rfl ⟨⟨none, 0, 0, rfl, Ow.nil _ _ _⟩, HB.out⟩
  have d1 : decide (kk < c) = false := decide_eq_false h1
  obtain ⟨m, rfl⟩ := Int.eq_ofNat_of_zero_le (show 0 ≤ c by have := H1.out; omega)
  have hm := H1.out
  obtain ⟨rfl, rfl⟩ : co = 0 ∧ out = (mendF m kk xs).1 := by
    have e := HC.out
    unfold mendC at e
    rw [if_neg (not_not_intro H1.out), if_neg h1, Int.toNat_natCast] at e
    exact ⟨congrArg Prod.fst e, congrArg Prod.snd e⟩
  have eg := enters_of Try.func35 (by kernel_rfl) rfl
  obtain ⟨i0, hi0, hz00, hz01, hz02⟩ := info_parts info_int
  obtain ⟨y00, yf0⟩ := P3.out.cells1
  obtain ⟨y10, yf1⟩ := P4.out.cells1
  go_upto_region 5 with fail
  clear y00 yf0 y10 yf1 d1
  have bx := below_box W0 (.cells #[.int .i64 0, .int .i64 0, .int .i64 0, .int .i64 0, .int .i64 0, .int .i64 0, .int .i64 0, .int .i64 0] 47)
  replace P3 := hid (P3.out.step bx); replace P4 := hid (P4.out.step bx); replace HB := hid (below_then HB.out bx)
  clear bx
  have PA := hid (Blk.new W0 47 #[.int .i64 0, .int .i64 0, .int .i64 0, .int .i64 0, .int .i64 0, .int .i64 0, .int .i64 0, .int .i64 0])
  go_wp2_with fail
  have hz1 := hid (show (W0.alloc (.cells #[.int .i64 0, .int .i64 0, .int .i64 0, .int .i64 0, .int .i64 0, .int .i64 0, .int .i64 0, .int .i64 0] 47)).heap.size = W0.heap.size + 1 by simp)
  generalize W0.alloc (.cells #[.int .i64 0, .int .i64 0, .int .i64 0, .int .i64 0, .int .i64 0, .int .i64 0, .int .i64 0, .int .i64 0] 47) = W1 at *
  have hw1s := hid (show W1.heap.size = w.heap.size + 3 by have := hz0.out; have := hz1.out; omega)
  have HI := hid (show ∃ (A : Option Addr) (d : Nat) (a0 a1 a2 a3 a4 a5 a6 a7 : Int), (Value.slice none 0 0) = .slice A 0 d ∧ Ow i64 W1 W0.heap.size 3 A 0 d (mendF m kk (xs.take 0)).1 ∧ Blk W1 W0.heap.size 47 #[.int .i64 a0, .int .i64 a1, .int .i64 a2, .int .i64 a3, .int .i64 a4, .int .i64 a5, .int .i64 a6, .int .i64 a7] ∧ [a0, a1, a2, a3, a4, a5, a6, a7] = (mendF m kk (xs.take 0)).2 from ⟨none, 0, 0, 0, 0, 0, 0, 0, 0, 0, rfl, Ow.nil _ _ _, PA.out, rfl⟩)
  clear PA
  go_loopw [10, 25] (fun o i wr => ∃ j : Nat, j ≤ n ∧ i = .int .i64 j ∧ Below w.heap.size w wr ∧ Blk wr w.heap.size 3 #[.int .i64 m] ∧ Blk wr (w.heap.size + 1) 3 #[.int .i64 kk] ∧ ∃ (A : Option Addr) (d : Nat) (a0 a1 a2 a3 a4 a5 a6 a7 : Int), o = .slice A j d ∧ Ow i64 wr W0.heap.size 3 A j d (mendF m kk (xs.take j)).1 ∧ Blk wr W0.heap.size 47 #[.int .i64 a0, .int .i64 a1, .int .i64 a2, .int .i64 a3, .int .i64 a4, .int .i64 a5, .int .i64 a6, .int .i64 a7] ∧ [a0, a1, a2, a3, a4, a5, a6, a7] = (mendF m kk (xs.take j)).2) (fun _ i _ => n - (intOf i).toNat)
  case atStart => exact ⟨0, Nat.zero_le _, rfl, HB.out, P3.out, P4.out, HI.out⟩
  case round =>
    clear HI HB P3 P4
    obtain ⟨j, hj, rfl, h1, h2, h3, A, d, a0, a1, a2, a3, a4, a5, a6, a7, rfl, h4, h5, h6⟩ := hrel
    have HB := hid h1; have P3 := hid h2; have P4 := hid h3; have HO := hid h4; have PA := hid h5; have HW := hid h6
    clear h1 h2 h3 h4 h5 h6
    by_cases hjn : j < n
    rotate_left
    · obtain rfl : j = n := by omega
      have hnn : ¬ ((j : Int) < (j : Int)) := by omega
      have hfin := hid (show mendF m kk (xs.take j) = mendF m kk xs by rw [List.take_of_length_le (by rw [hl.out]; exact Nat.le_refl _)])
      go_wp2
      refine bodyPost_ret (v := .tuple #[.slice A j d, .int .i64 0]) (by simp [results, Try.results23, go_sem]) rfl ⟨⟨A, j, d, rfl, by rw [← hfin.out]; exact HO.out.mono (by have := hz0.out; omega)⟩, HB.out⟩
    obtain ⟨b, off, rfl, _, hbh, hc⟩ := HR0.out.row (by omega)
    obtain ⟨x, hx⟩ : ∃ x, x = xs[j]?.getD 0 := ⟨_, rfl⟩
    have f0 := (HB.out.cell (p := ⟨b, off + j, none⟩) hbh).trans (hc j hjn)
    rw [← hx] at f0
    have HX := hid hx
    have hji : (j : Int) < (n : Int) := by omega
    have hw2 : IntKind.i64.wrap ((j : Int) + 1) = (j : Int) + 1 := by rw [IntKind.wrap_i64]; omega
    have hm0 : ((m : Int) == 0) = false := by simp; omega
    have hm0' : (m : Int) ≠ 0 := by omega
    have hm0n : ¬ m = 0 := by omega
    have ht1 : -(m : Int) < x.tmod m := Int.lt_tmod_of_pos x (by omega)
    have ht2 : x.tmod m < m := Int.tmod_lt_of_pos x (by omega)
    have hw3 : IntKind.i64.wrap (x.tmod m) = x.tmod m := by rw [IntKind.wrap_i64]; omega
    have hw4 : IntKind.i64.wrap (x.tmod m + m) = x.tmod m + m := by rw [IntKind.wrap_i64]; omega
    have hwish := wish_rem (m := m) (by omega) x
    have hwl := wish_lt (m := m) (by omega) x
    obtain ⟨wp, hwp⟩ : ∃ q, q = wishP m x := ⟨_, rfl⟩
    rw [← hwp] at hwish hwl
    have hw5 : IntKind.i64.wrap (wp : Int) = (wp : Int) := by rw [IntKind.wrap_i64]; omega
    have HWP := hid hwp
    clear hx hc hwp
    go_wp2_with fail
    clear f0
    have bx := (Below.refl wr.heap.size wr).drew
    replace P3 := hid (P3.out.step bx); replace P4 := hid (P4.out.step bx); replace HO := hid (HO.out.step bx); replace PA := hid (PA.out.step bx); replace HB := hid (below_then HB.out bx)
    clear bx
    have hszd := hid (show wr.drew.heap.size = wr.heap.size from rfl)
    refine wp_region_noPanic ?_
    refine wp_region_held_drew (S := (fun W' : World => W'.cell? ⟨w.heap.size, 0, none⟩ = some (.int .i64 m))) (by kernel_rfl) P3.out.cells1.1 (fun hS => ?_)
    generalize wr.drew = Wd at *
    refine wpAnyH_take (i := 0) (v := ?_) (by simp only [List.getElem?_toArray, List.getElem?_cons_succ, List.getElem?_cons_zero]; rfl) (by kernel_rfl) (by kernel_rfl) (by kernel_rfl) (fun _ _ _ h => h) (Or.inl ⟨by rfl, ?_⟩) hS ?_
    rotate_left
    · intro w' hSw; (try dsimp only at hSw); go_split_ands; go_simp; (try with_reducible rfl)
    (try simp only [Act.put, List.setIfInBounds_toArray, List.set_cons_zero, List.set_cons_succ])
    refine wpAnyH_take (i := 1) (v := ?_) (by simp only [List.getElem?_toArray, List.getElem?_cons_succ, List.getElem?_cons_zero]; rfl) (by kernel_rfl) (by kernel_rfl) (by kernel_rfl) (fun _ _ _ h => h) (Or.inl ⟨by rfl, ?_⟩) hS ?_
    rotate_left
    · intro w' hSw; (try dsimp only at hSw); go_split_ands; go_simp; (try with_reducible rfl)
    (try simp only [Act.put, List.setIfInBounds_toArray, List.set_cons_zero, List.set_cons_succ])
    refine wpAnyH_take (i := 2) (v := ?_) (by simp only [List.getElem?_toArray, List.getElem?_cons_succ, List.getElem?_cons_zero]; rfl) (by kernel_rfl) (by kernel_rfl) (by kernel_rfl) (fun _ _ _ h => h) (Or.inl ⟨by rfl, ?_⟩) hS ?_
    rotate_left
    · intro w' hSw; (try dsimp only at hSw); go_split_ands; go_simp; (try with_reducible rfl)
    (try simp only [Act.put, List.setIfInBounds_toArray, List.set_cons_zero, List.set_cons_succ])
    refine wpAnyH_take (i := 3) (v := ?_) (by simp only [List.getElem?_toArray, List.getElem?_cons_succ, List.getElem?_cons_zero]; rfl) (by kernel_rfl) (by kernel_rfl) (by kernel_rfl) (fun _ _ _ h => h) (Or.inl ⟨by rfl, ?_⟩) hS ?_
    rotate_left
    · intro w' hSw; (try dsimp only at hSw); go_split_ands; go_simp; (try with_reducible rfl)
    (try simp only [Act.put, List.setIfInBounds_toArray, List.set_cons_zero, List.set_cons_succ])
    refine wpAnyH_take (i := 4) (v := ?_) (by simp only [List.getElem?_toArray, List.getElem?_cons_succ, List.getElem?_cons_zero]; rfl) (by kernel_rfl) (by kernel_rfl) (by kernel_rfl) (fun _ _ _ h => h) (Or.inl ⟨by rfl, ?_⟩) hS ?_
    rotate_left
    · intro w' hSw; (try dsimp only at hSw); go_split_ands; go_simp; (try with_reducible rfl)
    (try simp only [Act.put, List.setIfInBounds_toArray, List.set_cons_zero, List.set_cons_succ])
    refine wpAnyH_take (i := 5) (v := ?_) (by simp only [List.getElem?_toArray, List.getElem?_cons_succ, List.getElem?_cons_zero]; rfl) (by kernel_rfl) (by kernel_rfl) (by kernel_rfl) (fun _ _ _ h => h) (Or.inl ⟨by rfl, ?_⟩) hS ?_
    rotate_left
    · intro w' hSw; (try dsimp only at hSw); go_split_ands; go_simp; (try with_reducible rfl)
    (try simp only [Act.put, List.setIfInBounds_toArray, List.set_cons_zero, List.set_cons_succ])
    refine wpAnyH_take (i := 6) (v := ?_) (by simp only [List.getElem?_toArray, List.getElem?_cons_succ, List.getElem?_cons_zero]; rfl) (by kernel_rfl) (by kernel_rfl) (by kernel_rfl) (fun _ _ _ h => h) (Or.inl ⟨by rfl, ?_⟩) hS ?_
    rotate_left
    · intro w' hSw; (try dsimp only at hSw); go_split_ands; go_simp; (try with_reducible rfl)
    (try simp only [Act.put, List.setIfInBounds_toArray, List.set_cons_zero, List.set_cons_succ])
    refine wpAnyH_take (i := 7) (v := ?_) (by simp only [List.getElem?_toArray, List.getElem?_cons_succ, List.getElem?_cons_zero]; rfl) (by kernel_rfl) (by kernel_rfl) (by kernel_rfl) (fun _ _ _ h => h) (Or.inl ⟨by rfl, ?_⟩) hS ?_
    rotate_left
    · intro w' hSw; (try dsimp only at hSw); go_split_ands; go_simp; (try with_reducible rfl)
    (try simp only [Act.put, List.setIfInBounds_toArray, List.set_cons_zero, List.set_cons_succ])
    refine wpAnyH_done (by kernel_rfl) ?_ _
    refine NoPanic.normal ?_
    clear hS
    go_wp2_with fail
    have HBD := hid (show ∀ y ∈ [a0, a1, a2, a3, a4, a5, a6, a7], 0 ≤ y ∧ y ≤ 1000000 by
      rw [HW.out, (mendF_props m kk xs j (by rw [hl.out]; omega)).2]
      intro y hy
      have h := wL_in _ y hy
      rw [(mendF_props m kk xs j (by rw [hl.out]; omega)).1] at h
      omega)
    have hcl := hid (by have h := HO.out.len; exact h)
    have hstep := fun q (hq : mendP m kk [a0, a1, a2, a3, a4, a5, a6, a7] x = q) => (show (mendF m kk (xs.take (j + 1))).1 = (mendF m kk (xs.take j)).1 ++ [(q : Int)] ∧ (mendF m kk (xs.take (j + 1))).2 = pickL [a0, a1, a2, a3, a4, a5, a6, a7] q by
      rw [take_succI (by rw [hl.out]; exact hjn), mendF_snoc, ← HX.out]
      unfold mendSt
      rw [← HW.out, hq]
      exact ⟨rfl, rfl⟩)
    have HSTP := hid hstep
    clear hstep
    refine (canm_any a0 a1 a2 a3 a4 a5 a6 a7 wp m kk _ _ _ _ (by omega) (by omega) (by omega) (by omega) HBD.out PA.out P3.out P4.out).mono ?_
    rintro e w4 ⟨rfl, hb⟩
    replace P3 := hid (P3.out.step hb); replace P4 := hid (P4.out.step hb); replace HO := hid (HO.out.step hb); replace PA := hid (PA.out.step hb); replace HB := hid (below_then HB.out hb)
    clear hb
    by_cases hcan : canB m kk (pickL [a0, a1, a2, a3, a4, a5, a6, a7] wp) = true
    · rw [hcan]
      have HST := hid (HSTP.out wp (by unfold mendP; rw [← HWP.out, if_pos hcan]))
      clear hcan
      obtain ⟨y00, y01, y02, y03, y04, y05, y06, y07, yf0⟩ := PA.out.cells8
      go_wp2_with fail
      clear y00 y01 y02 y03 y04 y05 y06 y07 yf0
      refine (pick_any a0 a1 a2 a3 a4 a5 a6 a7 wp _ (by omega) HBD.out).mono ?_
      rintro e w5 ⟨⟨b0, b1, b2, b3, b4, b5, b6, b7, rfl, hbl⟩, hb⟩
      have HBL := hid hbl
      clear hbl
      replace P3 := hid (P3.out.step hb); replace P4 := hid (P4.out.step hb); replace HO := hid (HO.out.step hb); replace PA := hid (PA.out.step hb); replace HB := hid (below_then HB.out hb)
      clear hb
      go_wp2_with (at_builtin; refine wpList_app i64 0 _ rfl _ _ 22 rfl W0.heap.size 3 i0 _ 8 Try.underlying22 hi0 hz00 hz01 hz02 rfl A j d _ rfl (HO.out.alloc (.cells #[.int .i64 (wp : Int)] 3)) 0 _ _ 1 1 [(wp : Int)] rfl ((Sl.one' rfl).mono (Nat.zero_le _) (Nat.le_refl _)) (fun _ => rfl) (by simp only [maxLen]; omega) (by omega) (by have := HB.out.size; have := PA.out.lt; simp; omega) ?_; intro A8 c8 w8 hown hgr hat; have HO8 := hid hown; have P38 := hid ((P3.out.alloc (.cells #[.int .i64 (wp : Int)] 3)).grown hgr (fun e => by have := HO.out.row_ge _ e.symm; have := hz0.out; omega)); have P48 := hid ((P4.out.alloc (.cells #[.int .i64 (wp : Int)] 3)).grown hgr (fun e => by have := HO.out.row_ge _ e.symm; have := hz0.out; omega)); have PA8 := hid ((PA.out.alloc (.cells #[.int .i64 (wp : Int)] 3)).keptO (HO.out.alloc (.cells #[.int .i64 (wp : Int)] 3)) (by decide) hgr); have HB8 := hid (Below.grown (below_then HB.out (below_box _ (.cells #[.int .i64 (wp : Int)] 3))) hgr (by have := HB.out.size; simp; omega) (fun k hk => by have := HO.out.row_ge k hk; have := hz0.out; omega)); clear hown hgr hat P3 P4 PA HO HB; obtain ⟨y00, y01, y02, y03, y04, y05, y06, y07, yf0⟩ := PA8.out.cells8)
      clear y00 y01 y02 y03 y04 y05 y06 y07 yf0
      have PB8 := PA8
      have hbk0 : Blk (w8.setCell ⟨W0.heap.size, 0, none⟩ (.int .i64 b0)) (W0.heap.size) 47 #[.int .i64 b0, .int .i64 a1, .int .i64 a2, .int .i64 a3, .int .i64 a4, .int .i64 a5, .int .i64 a6, .int .i64 a7] := PA8.out.setCell 0 (.int .i64 b0)
      have hbk1 : Blk ((w8.setCell ⟨W0.heap.size, 0, none⟩ (.int .i64 b0)).setCell ⟨W0.heap.size, 1, none⟩ (.int .i64 b1)) (W0.heap.size) 47 #[.int .i64 b0, .int .i64 b1, .int .i64 a2, .int .i64 a3, .int .i64 a4, .int .i64 a5, .int .i64 a6, .int .i64 a7] := hbk0.setCell 1 (.int .i64 b1)
      have hbk2 : Blk (((w8.setCell ⟨W0.heap.size, 0, none⟩ (.int .i64 b0)).setCell ⟨W0.heap.size, 1, none⟩ (.int .i64 b1)).setCell ⟨W0.heap.size, 2, none⟩ (.int .i64 b2)) (W0.heap.size) 47 #[.int .i64 b0, .int .i64 b1, .int .i64 b2, .int .i64 a3, .int .i64 a4, .int .i64 a5, .int .i64 a6, .int .i64 a7] := hbk1.setCell 2 (.int .i64 b2)
      have hbk3 : Blk ((((w8.setCell ⟨W0.heap.size, 0, none⟩ (.int .i64 b0)).setCell ⟨W0.heap.size, 1, none⟩ (.int .i64 b1)).setCell ⟨W0.heap.size, 2, none⟩ (.int .i64 b2)).setCell ⟨W0.heap.size, 3, none⟩ (.int .i64 b3)) (W0.heap.size) 47 #[.int .i64 b0, .int .i64 b1, .int .i64 b2, .int .i64 b3, .int .i64 a4, .int .i64 a5, .int .i64 a6, .int .i64 a7] := hbk2.setCell 3 (.int .i64 b3)
      have hbk4 : Blk (((((w8.setCell ⟨W0.heap.size, 0, none⟩ (.int .i64 b0)).setCell ⟨W0.heap.size, 1, none⟩ (.int .i64 b1)).setCell ⟨W0.heap.size, 2, none⟩ (.int .i64 b2)).setCell ⟨W0.heap.size, 3, none⟩ (.int .i64 b3)).setCell ⟨W0.heap.size, 4, none⟩ (.int .i64 b4)) (W0.heap.size) 47 #[.int .i64 b0, .int .i64 b1, .int .i64 b2, .int .i64 b3, .int .i64 b4, .int .i64 a5, .int .i64 a6, .int .i64 a7] := hbk3.setCell 4 (.int .i64 b4)
      have hbk5 : Blk ((((((w8.setCell ⟨W0.heap.size, 0, none⟩ (.int .i64 b0)).setCell ⟨W0.heap.size, 1, none⟩ (.int .i64 b1)).setCell ⟨W0.heap.size, 2, none⟩ (.int .i64 b2)).setCell ⟨W0.heap.size, 3, none⟩ (.int .i64 b3)).setCell ⟨W0.heap.size, 4, none⟩ (.int .i64 b4)).setCell ⟨W0.heap.size, 5, none⟩ (.int .i64 b5)) (W0.heap.size) 47 #[.int .i64 b0, .int .i64 b1, .int .i64 b2, .int .i64 b3, .int .i64 b4, .int .i64 b5, .int .i64 a6, .int .i64 a7] := hbk4.setCell 5 (.int .i64 b5)
      have hbk6 : Blk (((((((w8.setCell ⟨W0.heap.size, 0, none⟩ (.int .i64 b0)).setCell ⟨W0.heap.size, 1, none⟩ (.int .i64 b1)).setCell ⟨W0.heap.size, 2, none⟩ (.int .i64 b2)).setCell ⟨W0.heap.size, 3, none⟩ (.int .i64 b3)).setCell ⟨W0.heap.size, 4, none⟩ (.int .i64 b4)).setCell ⟨W0.heap.size, 5, none⟩ (.int .i64 b5)).setCell ⟨W0.heap.size, 6, none⟩ (.int .i64 b6)) (W0.heap.size) 47 #[.int .i64 b0, .int .i64 b1, .int .i64 b2, .int .i64 b3, .int .i64 b4, .int .i64 b5, .int .i64 b6, .int .i64 a7] := hbk5.setCell 6 (.int .i64 b6)
      have hbk7 : Blk ((((((((w8.setCell ⟨W0.heap.size, 0, none⟩ (.int .i64 b0)).setCell ⟨W0.heap.size, 1, none⟩ (.int .i64 b1)).setCell ⟨W0.heap.size, 2, none⟩ (.int .i64 b2)).setCell ⟨W0.heap.size, 3, none⟩ (.int .i64 b3)).setCell ⟨W0.heap.size, 4, none⟩ (.int .i64 b4)).setCell ⟨W0.heap.size, 5, none⟩ (.int .i64 b5)).setCell ⟨W0.heap.size, 6, none⟩ (.int .i64 b6)).setCell ⟨W0.heap.size, 7, none⟩ (.int .i64 b7)) (W0.heap.size) 47 #[.int .i64 b0, .int .i64 b1, .int .i64 b2, .int .i64 b3, .int .i64 b4, .int .i64 b5, .int .i64 b6, .int .i64 b7] := hbk6.setCell 7 (.int .i64 b7)
      have hgr : w8.grownBy ((((((((w8.setCell ⟨W0.heap.size, 0, none⟩ (.int .i64 b0)).setCell ⟨W0.heap.size, 1, none⟩ (.int .i64 b1)).setCell ⟨W0.heap.size, 2, none⟩ (.int .i64 b2)).setCell ⟨W0.heap.size, 3, none⟩ (.int .i64 b3)).setCell ⟨W0.heap.size, 4, none⟩ (.int .i64 b4)).setCell ⟨W0.heap.size, 5, none⟩ (.int .i64 b5)).setCell ⟨W0.heap.size, 6, none⟩ (.int .i64 b6)).setCell ⟨W0.heap.size, 7, none⟩ (.int .i64 b7)) (some (W0.heap.size)) := (grown_set (grown_set (grown_set (grown_set (grown_set (grown_set (grown_set (grown_set (World.grownBy.refl w8 (some (W0.heap.size))) 0 (.int .i64 b0)) 1 (.int .i64 b1)) 2 (.int .i64 b2)) 3 (.int .i64 b3)) 4 (.int .i64 b4)) 5 (.int .i64 b5)) 6 (.int .i64 b6)) 7 (.int .i64 b7))
      replace PA8 := hid hbk7
      clear hbk0 hbk1 hbk2 hbk3 hbk4 hbk5 hbk6 hbk7
      generalize (((((((w8.setCell ⟨W0.heap.size, 0, none⟩ (.int .i64 b0)).setCell ⟨W0.heap.size, 1, none⟩ (.int .i64 b1)).setCell ⟨W0.heap.size, 2, none⟩ (.int .i64 b2)).setCell ⟨W0.heap.size, 3, none⟩ (.int .i64 b3)).setCell ⟨W0.heap.size, 4, none⟩ (.int .i64 b4)).setCell ⟨W0.heap.size, 5, none⟩ (.int .i64 b5)).setCell ⟨W0.heap.size, 6, none⟩ (.int .i64 b6)).setCell ⟨W0.heap.size, 7, none⟩ (.int .i64 b7) = W9 at *
      have hgW0 := PB8.out.lt
      replace P38 := hid (P38.out.grown hgr (by have := hz0.out; simp; omega))
      replace P48 := hid (P48.out.grown hgr (by have := hz0.out; simp; omega))
      replace HO8 := hid (HO8.out.keptG hgr (fun v hv e => HO8.out.ne_blk PB8.out (by decide) v hv (by simpa using e)))
      replace HB8 := hid (HB8.out.grown hgr HB8.out.size (fun r e => by cases e; have := hz0.out; omega))
      go_roundw
      case rel => exact ⟨j + 1, by omega, by go_num, HB8.out, P38.out, P48.out, A8, c8, b0, b1, b2, b3, b4, b5, b6, b7, rfl, by rw [HST.out.1]; exact HO8.out, PA8.out, by rw [HST.out.2]; exact HBL.out⟩
      case measure => simp [intOf]; omega
    rw [Bool.eq_false_iff.2 hcan]
    have HM := hid (show mendP m kk [a0, a1, a2, a3, a4, a5, a6, a7] x = mostL ([a0, a1, a2, a3, a4, a5, a6, a7].take m) by unfold mendP; rw [← HWP.out, if_neg hcan])
    clear hcan
    obtain ⟨y00, yf0⟩ := P3.out.cells1
    have hcut := cut8 m (by omega)
    go_wp2_with fail
    clear hcut y00 yf0
    have RW := hid (Blk.row8 (c := m) (l := [a0, a1, a2, a3, a4, a5, a6, a7]) PA.out (by simp; omega))
    refine (most_any (some ⟨W0.heap.size, 0, none⟩) m 8 0 _ _ w4 RW.out (by omega)).mono ?_
    rintro e w6 ⟨rfl, rfl⟩
    obtain ⟨q, hq⟩ : ∃ q, q = mostL ([a0, a1, a2, a3, a4, a5, a6, a7].take m) := ⟨_, rfl⟩
    have hqm : q < m := by
      have hlm : ([a0, a1, a2, a3, a4, a5, a6, a7].take m).length = m := by rw [List.length_take]; simp; omega
      have h := mostL_lt (l := [a0, a1, a2, a3, a4, a5, a6, a7].take m) (by omega)
      omega
    rw [← hq]
    have HST := hid (HSTP.out q (by rw [HM.out, hq]))
    clear RW hq HM
    obtain ⟨y00, y01, y02, y03, y04, y05, y06, y07, yf0⟩ := PA.out.cells8
    go_wp2_with fail
    clear y00 y01 y02 y03 y04 y05 y06 y07 yf0
    refine (pick_any a0 a1 a2 a3 a4 a5 a6 a7 q _ (by omega) HBD.out).mono ?_
    rintro e w5 ⟨⟨b0, b1, b2, b3, b4, b5, b6, b7, rfl, hbl⟩, hb⟩
    have HBL := hid hbl
    clear hbl
    replace P3 := hid (P3.out.step hb); replace P4 := hid (P4.out.step hb); replace HO := hid (HO.out.step hb); replace PA := hid (PA.out.step hb); replace HB := hid (below_then HB.out hb)
    clear hb
    go_wp2_with (at_builtin; refine wpList_app i64 0 _ rfl _ _ 22 rfl W0.heap.size 3 i0 _ 8 Try.underlying22 hi0 hz00 hz01 hz02 rfl A j d _ rfl (HO.out.alloc (.cells #[.int .i64 (q : Int)] 3)) 0 _ _ 1 1 [(q : Int)] rfl ((Sl.one' rfl).mono (Nat.zero_le _) (Nat.le_refl _)) (fun _ => rfl) (by simp only [maxLen]; omega) (by omega) (by have := HB.out.size; have := PA.out.lt; simp; omega) ?_; intro A8 c8 w8 hown hgr hat; have HO8 := hid hown; have P38 := hid ((P3.out.alloc (.cells #[.int .i64 (q : Int)] 3)).grown hgr (fun e => by have := HO.out.row_ge _ e.symm; have := hz0.out; omega)); have P48 := hid ((P4.out.alloc (.cells #[.int .i64 (q : Int)] 3)).grown hgr (fun e => by have := HO.out.row_ge _ e.symm; have := hz0.out; omega)); have PA8 := hid ((PA.out.alloc (.cells #[.int .i64 (q : Int)] 3)).keptO (HO.out.alloc (.cells #[.int .i64 (q : Int)] 3)) (by decide) hgr); have HB8 := hid (Below.grown (below_then HB.out (below_box _ (.cells #[.int .i64 (q : Int)] 3))) hgr (by have := HB.out.size; simp; omega) (fun k hk => by have := HO.out.row_ge k hk; have := hz0.out; omega)); clear hown hgr hat P3 P4 PA HO HB; obtain ⟨y00, y01, y02, y03, y04, y05, y06, y07, yf0⟩ := PA8.out.cells8)
    clear y00 y01 y02 y03 y04 y05 y06 y07 yf0
    have PB8 := PA8
    have hbk0 : Blk (w8.setCell ⟨W0.heap.size, 0, none⟩ (.int .i64 b0)) (W0.heap.size) 47 #[.int .i64 b0, .int .i64 a1, .int .i64 a2, .int .i64 a3, .int .i64 a4, .int .i64 a5, .int .i64 a6, .int .i64 a7] := PA8.out.setCell 0 (.int .i64 b0)
    have hbk1 : Blk ((w8.setCell ⟨W0.heap.size, 0, none⟩ (.int .i64 b0)).setCell ⟨W0.heap.size, 1, none⟩ (.int .i64 b1)) (W0.heap.size) 47 #[.int .i64 b0, .int .i64 b1, .int .i64 a2, .int .i64 a3, .int .i64 a4, .int .i64 a5, .int .i64 a6, .int .i64 a7] := hbk0.setCell 1 (.int .i64 b1)
    have hbk2 : Blk (((w8.setCell ⟨W0.heap.size, 0, none⟩ (.int .i64 b0)).setCell ⟨W0.heap.size, 1, none⟩ (.int .i64 b1)).setCell ⟨W0.heap.size, 2, none⟩ (.int .i64 b2)) (W0.heap.size) 47 #[.int .i64 b0, .int .i64 b1, .int .i64 b2, .int .i64 a3, .int .i64 a4, .int .i64 a5, .int .i64 a6, .int .i64 a7] := hbk1.setCell 2 (.int .i64 b2)
    have hbk3 : Blk ((((w8.setCell ⟨W0.heap.size, 0, none⟩ (.int .i64 b0)).setCell ⟨W0.heap.size, 1, none⟩ (.int .i64 b1)).setCell ⟨W0.heap.size, 2, none⟩ (.int .i64 b2)).setCell ⟨W0.heap.size, 3, none⟩ (.int .i64 b3)) (W0.heap.size) 47 #[.int .i64 b0, .int .i64 b1, .int .i64 b2, .int .i64 b3, .int .i64 a4, .int .i64 a5, .int .i64 a6, .int .i64 a7] := hbk2.setCell 3 (.int .i64 b3)
    have hbk4 : Blk (((((w8.setCell ⟨W0.heap.size, 0, none⟩ (.int .i64 b0)).setCell ⟨W0.heap.size, 1, none⟩ (.int .i64 b1)).setCell ⟨W0.heap.size, 2, none⟩ (.int .i64 b2)).setCell ⟨W0.heap.size, 3, none⟩ (.int .i64 b3)).setCell ⟨W0.heap.size, 4, none⟩ (.int .i64 b4)) (W0.heap.size) 47 #[.int .i64 b0, .int .i64 b1, .int .i64 b2, .int .i64 b3, .int .i64 b4, .int .i64 a5, .int .i64 a6, .int .i64 a7] := hbk3.setCell 4 (.int .i64 b4)
    have hbk5 : Blk ((((((w8.setCell ⟨W0.heap.size, 0, none⟩ (.int .i64 b0)).setCell ⟨W0.heap.size, 1, none⟩ (.int .i64 b1)).setCell ⟨W0.heap.size, 2, none⟩ (.int .i64 b2)).setCell ⟨W0.heap.size, 3, none⟩ (.int .i64 b3)).setCell ⟨W0.heap.size, 4, none⟩ (.int .i64 b4)).setCell ⟨W0.heap.size, 5, none⟩ (.int .i64 b5)) (W0.heap.size) 47 #[.int .i64 b0, .int .i64 b1, .int .i64 b2, .int .i64 b3, .int .i64 b4, .int .i64 b5, .int .i64 a6, .int .i64 a7] := hbk4.setCell 5 (.int .i64 b5)
    have hbk6 : Blk (((((((w8.setCell ⟨W0.heap.size, 0, none⟩ (.int .i64 b0)).setCell ⟨W0.heap.size, 1, none⟩ (.int .i64 b1)).setCell ⟨W0.heap.size, 2, none⟩ (.int .i64 b2)).setCell ⟨W0.heap.size, 3, none⟩ (.int .i64 b3)).setCell ⟨W0.heap.size, 4, none⟩ (.int .i64 b4)).setCell ⟨W0.heap.size, 5, none⟩ (.int .i64 b5)).setCell ⟨W0.heap.size, 6, none⟩ (.int .i64 b6)) (W0.heap.size) 47 #[.int .i64 b0, .int .i64 b1, .int .i64 b2, .int .i64 b3, .int .i64 b4, .int .i64 b5, .int .i64 b6, .int .i64 a7] := hbk5.setCell 6 (.int .i64 b6)
    have hbk7 : Blk ((((((((w8.setCell ⟨W0.heap.size, 0, none⟩ (.int .i64 b0)).setCell ⟨W0.heap.size, 1, none⟩ (.int .i64 b1)).setCell ⟨W0.heap.size, 2, none⟩ (.int .i64 b2)).setCell ⟨W0.heap.size, 3, none⟩ (.int .i64 b3)).setCell ⟨W0.heap.size, 4, none⟩ (.int .i64 b4)).setCell ⟨W0.heap.size, 5, none⟩ (.int .i64 b5)).setCell ⟨W0.heap.size, 6, none⟩ (.int .i64 b6)).setCell ⟨W0.heap.size, 7, none⟩ (.int .i64 b7)) (W0.heap.size) 47 #[.int .i64 b0, .int .i64 b1, .int .i64 b2, .int .i64 b3, .int .i64 b4, .int .i64 b5, .int .i64 b6, .int .i64 b7] := hbk6.setCell 7 (.int .i64 b7)
    have hgr : w8.grownBy ((((((((w8.setCell ⟨W0.heap.size, 0, none⟩ (.int .i64 b0)).setCell ⟨W0.heap.size, 1, none⟩ (.int .i64 b1)).setCell ⟨W0.heap.size, 2, none⟩ (.int .i64 b2)).setCell ⟨W0.heap.size, 3, none⟩ (.int .i64 b3)).setCell ⟨W0.heap.size, 4, none⟩ (.int .i64 b4)).setCell ⟨W0.heap.size, 5, none⟩ (.int .i64 b5)).setCell ⟨W0.heap.size, 6, none⟩ (.int .i64 b6)).setCell ⟨W0.heap.size, 7, none⟩ (.int .i64 b7)) (some (W0.heap.size)) := (grown_set (grown_set (grown_set (grown_set (grown_set (grown_set (grown_set (grown_set (World.grownBy.refl w8 (some (W0.heap.size))) 0 (.int .i64 b0)) 1 (.int .i64 b1)) 2 (.int .i64 b2)) 3 (.int .i64 b3)) 4 (.int .i64 b4)) 5 (.int .i64 b5)) 6 (.int .i64 b6)) 7 (.int .i64 b7))
    replace PA8 := hid hbk7
    clear hbk0 hbk1 hbk2 hbk3 hbk4 hbk5 hbk6 hbk7
    generalize (((((((w8.setCell ⟨W0.heap.size, 0, none⟩ (.int .i64 b0)).setCell ⟨W0.heap.size, 1, none⟩ (.int .i64 b1)).setCell ⟨W0.heap.size, 2, none⟩ (.int .i64 b2)).setCell ⟨W0.heap.size, 3, none⟩ (.int .i64 b3)).setCell ⟨W0.heap.size, 4, none⟩ (.int .i64 b4)).setCell ⟨W0.heap.size, 5, none⟩ (.int .i64 b5)).setCell ⟨W0.heap.size, 6, none⟩ (.int .i64 b6)).setCell ⟨W0.heap.size, 7, none⟩ (.int .i64 b7) = W9 at *
    have hgW0 := PB8.out.lt
    replace P38 := hid (P38.out.grown hgr (by have := hz0.out; simp; omega))
    replace P48 := hid (P48.out.grown hgr (by have := hz0.out; simp; omega))
    replace HO8 := hid (HO8.out.keptG hgr (fun v hv e => HO8.out.ne_blk PB8.out (by decide) v hv (by simpa using e)))
    replace HB8 := hid (HB8.out.grown hgr HB8.out.size (fun r e => by cases e; have := hz0.out; omega))
    go_roundw
    case rel => exact ⟨j + 1, by omega, by go_num, HB8.out, P38.out, P48.out, A8, c8, b0, b1, b2, b3, b4, b5, b6, b7, rfl, by rw [HST.out.1]; exact HO8.out, PA8.out, by rw [HST.out.2]; exact HBL.out⟩
    case measure => simp [intOf]; omega
end Go.Proofs.Ytijofgbealikaaa
