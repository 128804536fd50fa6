/- afterglowref13: Put. No condition but sizes. -/
import Derived.Test.YtkdbmlddndgjjaaQr
namespace Go.Proofs.Ytkdbmlddndgjjaa
open Go.RowKit
set_option maxHeartbeats 4000000 in
theorem qrput_any (A : Option Addr) (n c : Nat) (o : Int) (xs : List Cb) (x a : Int) (w : World) (h : Sm 2 encC (0, 0) w 0 w.heap.size A n xs) (hn : n ≤ 1000000) (h0 : 0 ≤ o) (hnc : n ≤ c) (hg : QGood o xs) :
    Calls Try.prog 11 #[qv A n c o, .int .u64 x, .int .i64 a] w (QPost w (putF o xs x a)) := by
  have HE := hid (show putF o xs x a = if a < 1 ∨ 2 < a then (0, [], 2) else if 0 < xs.length ∧ o + a < perAt xs (xs.length - 1) then (0, [], 2) else if xs.length = 16 then (0, [], 6) else (o, xs ++ [(o + a, x)], 0) by rw [putF, if_neg (not_not_intro hg)])
  have hl := hid h.len
  have HG := hid hg
  clear hg
  have HR := hid h; have HB := hid (Below.refl w.heap.size w)
  clear h
  have bx := below_box w (.cells (qcs A n c o) 25)
  replace HR := hid (HR.out.step bx); replace HB := hid (below_then HB.out bx)
  clear bx
  have PQ := hid (Blk.new w 25 (qcs A n c o))
  have bx := below_box (w.alloc (.cells (qcs A n c o) 25)) (.cells (qcs none 0 0 0) 25)
  replace HR := hid (HR.out.step bx); replace PQ := hid (PQ.out.step bx); replace HB := hid (below_then HB.out bx)
  clear bx
  have PZ := hid (Blk.new2 w 25 (qcs none 0 0 0) (.cells (qcs A n c o) 25))
  by_cases h1 : a < 1 ∨ 2 < a
  · have h1b : (a != 1) = true := by simp; omega
    have h2b : (a != 2) = true := by simp; omega
    go_enter Try.func11, Try.ntmps11
    have H1 := hid h1
    clear h1
    go_upto_region 2 with fail
    generalize (w.alloc (.cells (qcs A n c o) 25)).alloc (.cells (qcs none 0 0 0) 25) = W0 at *
    obtain ⟨y00, y01, yf0⟩ := PZ.out.cells2
    go_wp2
    obtain ⟨q0, q1, qf⟩ := ((PZ.out.setCell 0 (.slice none 0 0)).setCell 1 (.int .u64 0)).cells2
    refine bodyPost_ret (v := .tuple #[qv none 0 0 0, .int .i64 2]) (by simp [results, Try.results11, go_sem, q0, q1]) rfl ?_
    rw [HE.out, if_pos H1.out]
    exact ⟨none, 0, 0, rfl, Qown.nil _ _, (HB.out.setCell (by simp) _).setCell (by simp) _, Nat.le_refl _⟩
  · have HE2 := hid (show putF o xs x a = if 0 < xs.length ∧ o + a < perAt xs (xs.length - 1) then (0, [], 2) else if xs.length = 16 then (0, [], 6) else (o, xs ++ [(o + a, x)], 0) by rw [HE.out, if_neg h1])
    have ha : a = 1 ∨ a = 2 := by omega
    have h16 := hid (show n ≤ 16 by have := HG.out.2.1; have := hl.out; omega)
    clear HE h1
    rcases ha with rfl | rfl
    · have hw2 : IntKind.u64.wrap (o + 1) = o + 1 := by have := HG.out.1; rw [IntKind.wrap_u64]; omega
      obtain ⟨y00, y01, yf0⟩ := PQ.out.cells2
      go_enter Try.func11, Try.ntmps11
      go_wp2_with fail
      clear y00 y01 yf0
      generalize (w.alloc (.cells (qcs A n c o) 25)).alloc (.cells (qcs none 0 0 0) 25) = W0 at *
      have HB0 := hid (Below.refl W0.heap.size W0)
      clear hw2
      obtain ⟨p, hp⟩ : ∃ p, p = o + 1 := ⟨_, rfl⟩
      rw [← hp]
      have HPP := hid hp
      clear hp
      go_loopw [26] (fun i wr => ∃ j : Nat, j ≤ n ∧ i = .int .i64 j ∧ Below W0.heap.size W0 wr ∧ ∀ k, k < j → perAt xs k ≤ p) (fun i _ => n - (intOf i).toNat)
      case atStart => exact ⟨0, Nat.zero_le _, rfl, HB0.out, fun k hk => absurd hk (Nat.not_lt_zero _)⟩
      case round =>
        obtain ⟨j, hj, rfl, hbr, hall⟩ := hrel
        have HA := hid hall
        clear hall HB0
        replace HR := hid (HR.out.step hbr); replace PQ := hid (PQ.out.step hbr); replace PZ := hid (PZ.out.step hbr); replace HB := hid (below_then HB.out hbr)
        have HBr := hid hbr
        clear hbr
        by_cases hjn : j < n
        · obtain ⟨b, off, rfl, _, hbh, hc⟩ := HR.out.row (by omega)
          obtain ⟨f0, f1⟩ := Sm.cb (lo := 0) (hi := wr.heap.size) hc hjn
          obtain ⟨⟨v0, v1⟩, hx⟩ : ∃ x, x = xs[j]?.getD (0, 0) := ⟨_, rfl⟩
          rw [← hx] at f0 f1
          have hjc : (j : Int) < (n : Int) := by omega
          have HX : Hid (perAt xs j = v0) := hid (by show (xs[j]?.getD (0, 0)).1 = v0; rw [← hx])
          clear hx hc
          go_upto_region 7 with fail
          clear f0 f1
          have bx := below_box wr (.cells #[.int .u64 v0, .int .u64 v1] 53)
          replace HR := hid (HR.out.step bx); replace PQ := hid (PQ.out.step bx); replace PZ := hid (PZ.out.step bx); replace HB := hid (below_then HB.out bx); replace HBr := hid (below_then HBr.out bx)
          clear bx
          have PC := hid (Blk.new wr 53 #[.int .u64 v0, .int .u64 v1])
          generalize wr.alloc (.cells #[.int .u64 v0, .int .u64 v1] 53) = W1 at *
          by_cases hgt : p < v0
          · have E := hid (show 0 < xs.length ∧ o + 1 < perAt xs (xs.length - 1) from ⟨by have := hl.out; omega, by have := qup_last HG.out.2.2.1 j (by rw [hl.out]; omega); rw [HX.out] at this; rw [← HPP.out]; omega⟩)
            obtain ⟨y00, y01, yf0⟩ := PC.out.cells2
            obtain ⟨y00, y01, yf0⟩ := PZ.out.cells2
            go_wp2
            obtain ⟨q0, q1, qf⟩ := ((PZ.out.setCell 0 (.slice none 0 0)).setCell 1 (.int .u64 0)).cells2
            refine bodyPost_ret (v := .tuple #[qv none 0 0 0, .int .i64 2]) (by simp [results, Try.results11, go_sem, q0, q1]) rfl ?_
            rw [HE2.out, if_pos E.out]
            exact ⟨none, 0, 0, rfl, Qown.nil _ _, (HB.out.setCell (by simp) _).setCell (by simp) _, Nat.le_refl _⟩
          · skip
            obtain ⟨y00, y01, yf0⟩ := PC.out.cells2
            go_wp2
            go_roundw
            case rel =>
              refine ⟨j + 1, by omega, by go_num, HBr.out, fun k hk => ?_⟩
              by_cases hkj : k = j
              · subst hkj; rw [HX.out]; omega
              · exact HA.out k (by omega)
            case measure => simp [intOf]; omega
        · obtain rfl : j = n := by omega
          have hno := hid (show ¬ (0 < xs.length ∧ o + 1 < perAt xs (xs.length - 1)) from fun h => by have := HA.out (xs.length - 1) (by have := hl.out; omega); rw [← HPP.out] at h; omega)
          by_cases h6 : j = 16
          · have h6i : (j : Int) = 16 := by omega
            obtain ⟨y00, y01, yf0⟩ := PQ.out.cells2
            obtain ⟨y00, y01, yf0⟩ := PZ.out.cells2
            go_wp2
            obtain ⟨q0, q1, qf⟩ := ((PZ.out.setCell 0 (.slice none 0 0)).setCell 1 (.int .u64 0)).cells2
            refine bodyPost_ret (v := .tuple #[qv none 0 0 0, .int .i64 6]) (by simp [results, Try.results11, go_sem, q0, q1]) rfl ?_
            rw [HE2.out, if_neg hno.out, if_pos (hl.out.trans h6)]
            exact ⟨none, 0, 0, rfl, Qown.nil _ _, (HB.out.setCell (by simp) _).setCell (by simp) _, Nat.le_refl _⟩
          · have h6i : ¬ (j : Int) = 16 := by omega
            obtain ⟨i0, hi0, hz00, hz01, hz02⟩ := info_parts info_cb
            have hn16 := h16.out
            have b0 := below_box wr (.cells #[] 53)
            have HR0 := hid (HR.out.step b0); have PQ0 := hid (PQ.out.step b0)
            clear b0
            have HC2 : Hid (∀ q, q < 2 → (#[.int .u64 p, .int .u64 x] : Array Value)[q]? = some (encC (p, x) q)) := hid (by intro q hq; match q, hq with | 0, _ => rfl | 1, _ => rfl)
            obtain ⟨y0, y1, yf⟩ := PQ.out.cells2
            obtain ⟨v0, v1, vf⟩ := PQ0.out.cells2
            go_wp2_with (first
              | (at_builtin; refine wpList_appm 2 encC (0, 0) _ rfl _ _ 22 rfl wr.heap.size 53 i0 _ 16 Try.underlying22 hi0 hz00 hz01 hz02 rfl (by omega) _ _ _ [] rfl (Om.empty wr _ _ (Nat.le_refl _)) 0 (wr.alloc (.cells #[] 53)).heap.size A j c xs rfl HR0.out encC_one (by simp only [maxLen]; omega) (by omega) (by simp) ?_; intro A1 c1 w5 own1 hg1 hat1; simp only [Nat.zero_add, List.nil_append] at own1; have hb5 := (((Below.refl _ wr).alloc (Nat.le_refl _) (.cells #[] 53)).grown hg1 (by simp) (fun k hk => by simp [Value.ownBlock] at hk; omega)))
              | (at_builtin; refine wpList_appm 2 encC (0, 0) _ rfl _ _ 22 rfl wr.heap.size 53 i0 _ 16 Try.underlying22 hi0 hz00 hz01 hz02 rfl (by omega) A1 j c1 xs rfl (own1.alloc _) 0 (w5.alloc (.cells #[.int .u64 p, .int .u64 x] 53)).heap.size _ 1 _ [(p, x)] rfl (Sm.one (p, x) rfl HC2.out) encC_one (by simp only [maxLen]; omega) (by omega) (by have := hb5.size; simp; omega) ?_; intro A2 c2 w7 own2 hg2 hat2; have hb7 := (hb5.alloc (hb5.size) (.cells #[.int .u64 p, .int .u64 x] 53)).grown hg2 (by have := hb5.size; simp; omega) (fun k hk => own1.row_ge k hk); obtain ⟨u0, u1, uf⟩ := (PQ.out.step hb7).cells2; obtain ⟨r0, r1, rf⟩ := (PZ.out.step hb7).cells2))
            have hlz := PZ.out.lt
            have hlq := PQ.out.lt
            obtain ⟨q0, q1, qf⟩ := ((((PZ.out.step hb7).far (p := ⟨w.heap.size, 0, none⟩) (by simp) (.slice A2 (j + 1) c2)).setCell 0 (.slice A2 (j + 1) c2)).setCell 1 (.int .u64 o)).cells2
            refine bodyPost_ret (v := .tuple #[qv A2 (j + 1) c2 o, .int .i64 0]) (by simp [results, Try.results11, go_sem, q0, q1]) rfl ?_
            rw [HE2.out, if_neg hno.out, if_neg (by rw [hl.out]; exact h6), ← HPP.out]
            have o2 := Qown.ofOm own2
            exact ⟨A2, j + 1, c2, rfl, (((o2.setCell (p := ⟨w.heap.size, 0, none⟩) hlq _).setCell (p := ⟨w.heap.size + 1, 0, none⟩) hlz _).setCell (p := ⟨w.heap.size + 1, 1, none⟩) hlz _).mono (Nat.le_of_lt hlq), (((below_then HB.out hb7).setCell (Nat.le_refl _) _).setCell (by simp) _).setCell (by simp) _, own2.cap.1⟩
    · have hw2 : IntKind.u64.wrap (o + 2) = o + 2 := by have := HG.out.1; rw [IntKind.wrap_u64]; omega
      obtain ⟨y00, y01, yf0⟩ := PQ.out.cells2
      go_enter Try.func11, Try.ntmps11
      go_wp2_with fail
      clear y00 y01 yf0
      generalize (w.alloc (.cells (qcs A n c o) 25)).alloc (.cells (qcs none 0 0 0) 25) = W0 at *
      have HB0 := hid (Below.refl W0.heap.size W0)
      clear hw2
      obtain ⟨p, hp⟩ : ∃ p, p = o + 2 := ⟨_, rfl⟩
      rw [← hp]
      have HPP := hid hp
      clear hp
      go_loopw [26] (fun i wr => ∃ j : Nat, j ≤ n ∧ i = .int .i64 j ∧ Below W0.heap.size W0 wr ∧ ∀ k, k < j → perAt xs k ≤ p) (fun i _ => n - (intOf i).toNat)
      case atStart => exact ⟨0, Nat.zero_le _, rfl, HB0.out, fun k hk => absurd hk (Nat.not_lt_zero _)⟩
      case round =>
        obtain ⟨j, hj, rfl, hbr, hall⟩ := hrel
        have HA := hid hall
        clear hall HB0
        replace HR := hid (HR.out.step hbr); replace PQ := hid (PQ.out.step hbr); replace PZ := hid (PZ.out.step hbr); replace HB := hid (below_then HB.out hbr)
        have HBr := hid hbr
        clear hbr
        by_cases hjn : j < n
        · obtain ⟨b, off, rfl, _, hbh, hc⟩ := HR.out.row (by omega)
          obtain ⟨f0, f1⟩ := Sm.cb (lo := 0) (hi := wr.heap.size) hc hjn
          obtain ⟨⟨v0, v1⟩, hx⟩ : ∃ x, x = xs[j]?.getD (0, 0) := ⟨_, rfl⟩
          rw [← hx] at f0 f1
          have hjc : (j : Int) < (n : Int) := by omega
          have HX : Hid (perAt xs j = v0) := hid (by show (xs[j]?.getD (0, 0)).1 = v0; rw [← hx])
          clear hx hc
          go_upto_region 7 with fail
          clear f0 f1
          have bx := below_box wr (.cells #[.int .u64 v0, .int .u64 v1] 53)
          replace HR := hid (HR.out.step bx); replace PQ := hid (PQ.out.step bx); replace PZ := hid (PZ.out.step bx); replace HB := hid (below_then HB.out bx); replace HBr := hid (below_then HBr.out bx)
          clear bx
          have PC := hid (Blk.new wr 53 #[.int .u64 v0, .int .u64 v1])
          generalize wr.alloc (.cells #[.int .u64 v0, .int .u64 v1] 53) = W1 at *
          by_cases hgt : p < v0
          · have E := hid (show 0 < xs.length ∧ o + 2 < perAt xs (xs.length - 1) from ⟨by have := hl.out; omega, by have := qup_last HG.out.2.2.1 j (by rw [hl.out]; omega); rw [HX.out] at this; rw [← HPP.out]; omega⟩)
            obtain ⟨y00, y01, yf0⟩ := PC.out.cells2
            obtain ⟨y00, y01, yf0⟩ := PZ.out.cells2
            go_wp2
            obtain ⟨q0, q1, qf⟩ := ((PZ.out.setCell 0 (.slice none 0 0)).setCell 1 (.int .u64 0)).cells2
            refine bodyPost_ret (v := .tuple #[qv none 0 0 0, .int .i64 2]) (by simp [results, Try.results11, go_sem, q0, q1]) rfl ?_
            rw [HE2.out, if_pos E.out]
            exact ⟨none, 0, 0, rfl, Qown.nil _ _, (HB.out.setCell (by simp) _).setCell (by simp) _, Nat.le_refl _⟩
          · skip
            obtain ⟨y00, y01, yf0⟩ := PC.out.cells2
            go_wp2
            go_roundw
            case rel =>
              refine ⟨j + 1, by omega, by go_num, HBr.out, fun k hk => ?_⟩
              by_cases hkj : k = j
              · subst hkj; rw [HX.out]; omega
              · exact HA.out k (by omega)
            case measure => simp [intOf]; omega
        · obtain rfl : j = n := by omega
          have hno := hid (show ¬ (0 < xs.length ∧ o + 2 < perAt xs (xs.length - 1)) from fun h => by have := HA.out (xs.length - 1) (by have := hl.out; omega); rw [← HPP.out] at h; omega)
          by_cases h6 : j = 16
          · have h6i : (j : Int) = 16 := by omega
            obtain ⟨y00, y01, yf0⟩ := PQ.out.cells2
            obtain ⟨y00, y01, yf0⟩ := PZ.out.cells2
            go_wp2
            obtain ⟨q0, q1, qf⟩ := ((PZ.out.setCell 0 (.slice none 0 0)).setCell 1 (.int .u64 0)).cells2
            refine bodyPost_ret (v := .tuple #[qv none 0 0 0, .int .i64 6]) (by simp [results, Try.results11, go_sem, q0, q1]) rfl ?_
            rw [HE2.out, if_neg hno.out, if_pos (hl.out.trans h6)]
            exact ⟨none, 0, 0, rfl, Qown.nil _ _, (HB.out.setCell (by simp) _).setCell (by simp) _, Nat.le_refl _⟩
          · have h6i : ¬ (j : Int) = 16 := by omega
            obtain ⟨i0, hi0, hz00, hz01, hz02⟩ := info_parts info_cb
            have hn16 := h16.out
            have b0 := below_box wr (.cells #[] 53)
            have HR0 := hid (HR.out.step b0); have PQ0 := hid (PQ.out.step b0)
            clear b0
            have HC2 : Hid (∀ q, q < 2 → (#[.int .u64 p, .int .u64 x] : Array Value)[q]? = some (encC (p, x) q)) := hid (by intro q hq; match q, hq with | 0, _ => rfl | 1, _ => rfl)
            obtain ⟨y0, y1, yf⟩ := PQ.out.cells2
            obtain ⟨v0, v1, vf⟩ := PQ0.out.cells2
            go_wp2_with (first
              | (at_builtin; refine wpList_appm 2 encC (0, 0) _ rfl _ _ 22 rfl wr.heap.size 53 i0 _ 16 Try.underlying22 hi0 hz00 hz01 hz02 rfl (by omega) _ _ _ [] rfl (Om.empty wr _ _ (Nat.le_refl _)) 0 (wr.alloc (.cells #[] 53)).heap.size A j c xs rfl HR0.out encC_one (by simp only [maxLen]; omega) (by omega) (by simp) ?_; intro A1 c1 w5 own1 hg1 hat1; simp only [Nat.zero_add, List.nil_append] at own1; have hb5 := (((Below.refl _ wr).alloc (Nat.le_refl _) (.cells #[] 53)).grown hg1 (by simp) (fun k hk => by simp [Value.ownBlock] at hk; omega)))
              | (at_builtin; refine wpList_appm 2 encC (0, 0) _ rfl _ _ 22 rfl wr.heap.size 53 i0 _ 16 Try.underlying22 hi0 hz00 hz01 hz02 rfl (by omega) A1 j c1 xs rfl (own1.alloc _) 0 (w5.alloc (.cells #[.int .u64 p, .int .u64 x] 53)).heap.size _ 1 _ [(p, x)] rfl (Sm.one (p, x) rfl HC2.out) encC_one (by simp only [maxLen]; omega) (by omega) (by have := hb5.size; simp; omega) ?_; intro A2 c2 w7 own2 hg2 hat2; have hb7 := (hb5.alloc (hb5.size) (.cells #[.int .u64 p, .int .u64 x] 53)).grown hg2 (by have := hb5.size; simp; omega) (fun k hk => own1.row_ge k hk); obtain ⟨u0, u1, uf⟩ := (PQ.out.step hb7).cells2; obtain ⟨r0, r1, rf⟩ := (PZ.out.step hb7).cells2))
            have hlz := PZ.out.lt
            have hlq := PQ.out.lt
            obtain ⟨q0, q1, qf⟩ := ((((PZ.out.step hb7).far (p := ⟨w.heap.size, 0, none⟩) (by simp) (.slice A2 (j + 1) c2)).setCell 0 (.slice A2 (j + 1) c2)).setCell 1 (.int .u64 o)).cells2
            refine bodyPost_ret (v := .tuple #[qv A2 (j + 1) c2 o, .int .i64 0]) (by simp [results, Try.results11, go_sem, q0, q1]) rfl ?_
            rw [HE2.out, if_neg hno.out, if_neg (by rw [hl.out]; exact h6), ← HPP.out]
            have o2 := Qown.ofOm own2
            exact ⟨A2, j + 1, c2, rfl, (((o2.setCell (p := ⟨w.heap.size, 0, none⟩) hlq _).setCell (p := ⟨w.heap.size + 1, 0, none⟩) hlz _).setCell (p := ⟨w.heap.size + 1, 1, none⟩) hlz _).mono (Nat.le_of_lt hlq), (((below_then HB.out hb7).setCell (Nat.le_refl _) _).setCell (by simp) _).setCell (by simp) _, own2.cap.1⟩
end Go.Proofs.Ytkdbmlddndgjjaa
