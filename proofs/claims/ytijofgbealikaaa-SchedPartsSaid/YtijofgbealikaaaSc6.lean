/- package sched: Least, Fair. No condition but sizes. -/
import Derived.Test.YtijofgbealikaaaSc5
namespace Go.Proofs.Ytijofgbealikaaa
open Go.RowKit
set_option maxHeartbeats 4000000 in
theorem sleast_any (c : Int) (P : Option Addr) (n k : Nat) (xs : List Int) (w : World) (h : Sl i64 0 w 0 w.heap.size P n xs) (hn : n ≤ 1000000) :
    Calls Try.prog 15 #[.int .i64 c, .slice P n k] w fun e w' => e = .returned (.int .i64 (leastC c xs)) ∧ Below w.heap.size w w' := by
  have HR := hid h; have HB := hid (Below.refl w.heap.size w); have HR0 := hid h; have hl := hid h.len
  clear h
  go_enter Try.func15, Try.ntmps15
  go_wp2_with fail
  refine (scheck_any c P n k xs w HR.out hn).mono ?_
  rintro e w1 ⟨rfl, hb⟩
  replace HR := hid (HR.out.step hb); replace HB := hid (below_then HB.out hb)
  clear hb
  by_cases hs : SchR c xs
  rotate_left
  · have e1 : scheckC c xs = 140 := if_neg hs
    have E2 := hid (show leastC c xs = 0 from if_neg hs)
    rw [e1]
    clear e1 hs
    go_wp2
    go_ret
    exact ⟨ret_int E2.out.symm, HB.out⟩
  have e1 : scheckC c xs = 0 := if_pos hs
  have E2 := hid (show leastC c xs = leastF c.toNat xs xs.length from if_pos hs)
  rw [e1]
  have HS := hid hs
  clear e1 hs
  obtain ⟨m, rfl⟩ := Int.eq_ofNat_of_zero_le (show 0 ≤ c by have := HS.out.1; omega)
  have hm := HS.out.1
  rw [Int.toNat_natCast] at E2
  have hs1 := hid HB.out.size
  have bx := below_box w1 (.cells #[.int .i64 0, .int .i64 0, .int .i64 0, .int .i64 0, .int .i64 0, .int .i64 0, .int .i64 0, .int .i64 0] 47)
  replace HR := hid (HR.out.step bx); replace HB := hid (below_then HB.out bx)
  clear bx
  have PA := hid (Blk.new w1 47 #[.int .i64 0, .int .i64 0, .int .i64 0, .int .i64 0, .int .i64 0, .int .i64 0, .int .i64 0, .int .i64 0])
  go_wp2_with fail
  have hz3 := hid (show (w1.alloc (.cells #[.int .i64 0, .int .i64 0, .int .i64 0, .int .i64 0, .int .i64 0, .int .i64 0, .int .i64 0, .int .i64 0] 47)).heap.size = w1.heap.size + 1 by simp)
  generalize w1.alloc (.cells #[.int .i64 0, .int .i64 0, .int .i64 0, .int .i64 0, .int .i64 0, .int .i64 0, .int .i64 0, .int .i64 0] 47) = W3 at *
  have HI := hid (show ∃ a0 a1 a2 a3 a4 a5 a6 a7, Blk W3 w1.heap.size 47 #[.int .i64 a0, .int .i64 a1, .int .i64 a2, .int .i64 a3, .int .i64 a4, .int .i64 a5, .int .i64 a6, .int .i64 a7] ∧ [a0, a1, a2, a3, a4, a5, a6, a7] = wL (xs.take 0) from ⟨0, 0, 0, 0, 0, 0, 0, 0, PA.out, rfl⟩)
  clear PA HR
  go_loopw [6, 15] (fun v i wr => ∃ j : Nat, j ≤ n ∧ i = .int .i64 j ∧ v = .int .i64 (leastF m xs j) ∧ Below w.heap.size w wr ∧ ∃ a0 a1 a2 a3 a4 a5 a6 a7, Blk wr w1.heap.size 47 #[.int .i64 a0, .int .i64 a1, .int .i64 a2, .int .i64 a3, .int .i64 a4, .int .i64 a5, .int .i64 a6, .int .i64 a7] ∧ [a0, a1, a2, a3, a4, a5, a6, a7] = wL (xs.take j)) (fun _ i _ => n - (intOf i).toNat)
  case atStart => exact ⟨0, Nat.zero_le _, rfl, rfl, HB.out, HI.out⟩
  case round =>
    clear HI HB
    obtain ⟨j, hj, rfl, rfl, h1, a0, a1, a2, a3, a4, a5, a6, a7, h2, hw⟩ := hrel
    have HB := hid h1; have PA := hid h2; have HW := hid hw
    clear h1 h2 hw
    by_cases hjn : j < n
    · skip
      obtain ⟨b, off, rfl, _, hbh, hc⟩ := HR0.out.row (by omega)
      obtain ⟨x, hx⟩ : ∃ x, x = xs[j]?.getD 0 := ⟨_, rfl⟩
      have f0 := (HB.out.cell (p := ⟨b, off + j, none⟩) hbh).trans (hc j hjn)
      rw [← hx] at f0
      have hxr := all_at.1 HS.out.2 j (by rw [hl.out]; exact hjn)
      rw [← hx] at hxr
      have HX := hid hx
      obtain ⟨p, rfl⟩ := Int.eq_ofNat_of_zero_le hxr.1
      have hp8 : p < 8 := by omega
      have hji : (j : Int) < (n : Int) := by omega
      have hw2 : IntKind.i64.wrap ((j : Int) + 1) = (j : Int) + 1 := by rw [IntKind.wrap_i64]; omega
      clear hx hc hxr
      obtain ⟨y00, y01, y02, y03, y04, y05, y06, y07, yf0⟩ := PA.out.cells8
      go_wp2_with fail
      clear f0 y00 y01 y02 y03 y04 y05 y06 y07 yf0
      refine (pick_any a0 a1 a2 a3 a4 a5 a6 a7 p wr hp8 (by rw [HW.out]; intro x hx; have h := wL_in _ x hx; rw [List.length_take] at h; omega)).mono ?_
      rintro e w2 ⟨⟨b0, b1, b2, b3, b4, b5, b6, b7, rfl, hbl⟩, hb⟩
      replace PA := hid (PA.out.step hb); replace HB := hid (below_then HB.out hb)
      have HW2 := hid (show [b0, b1, b2, b3, b4, b5, b6, b7] = wL (xs.take (j + 1)) by rw [take_succI (by rw [hl.out]; exact hjn), wL_snoc, ← HW.out, ← HX.out]; exact hbl)
      clear hb hbl HW
      obtain ⟨y00, y01, y02, y03, y04, y05, y06, y07, yf0⟩ := PA.out.cells8
      go_upto_region 9 with fail
      clear y00 y01 y02 y03 y04 y05 y06 y07 yf0
      have hbk0 : Blk (w2.setCell ⟨w1.heap.size, 0, none⟩ (.int .i64 b0)) (w1.heap.size) 47 #[.int .i64 b0, .int .i64 a1, .int .i64 a2, .int .i64 a3, .int .i64 a4, .int .i64 a5, .int .i64 a6, .int .i64 a7] := PA.out.setCell 0 (.int .i64 b0)
      have hbk1 : Blk ((w2.setCell ⟨w1.heap.size, 0, none⟩ (.int .i64 b0)).setCell ⟨w1.heap.size, 1, none⟩ (.int .i64 b1)) (w1.heap.size) 47 #[.int .i64 b0, .int .i64 b1, .int .i64 a2, .int .i64 a3, .int .i64 a4, .int .i64 a5, .int .i64 a6, .int .i64 a7] := hbk0.setCell 1 (.int .i64 b1)
      have hbk2 : Blk (((w2.setCell ⟨w1.heap.size, 0, none⟩ (.int .i64 b0)).setCell ⟨w1.heap.size, 1, none⟩ (.int .i64 b1)).setCell ⟨w1.heap.size, 2, none⟩ (.int .i64 b2)) (w1.heap.size) 47 #[.int .i64 b0, .int .i64 b1, .int .i64 b2, .int .i64 a3, .int .i64 a4, .int .i64 a5, .int .i64 a6, .int .i64 a7] := hbk1.setCell 2 (.int .i64 b2)
      have hbk3 : Blk ((((w2.setCell ⟨w1.heap.size, 0, none⟩ (.int .i64 b0)).setCell ⟨w1.heap.size, 1, none⟩ (.int .i64 b1)).setCell ⟨w1.heap.size, 2, none⟩ (.int .i64 b2)).setCell ⟨w1.heap.size, 3, none⟩ (.int .i64 b3)) (w1.heap.size) 47 #[.int .i64 b0, .int .i64 b1, .int .i64 b2, .int .i64 b3, .int .i64 a4, .int .i64 a5, .int .i64 a6, .int .i64 a7] := hbk2.setCell 3 (.int .i64 b3)
      have hbk4 : Blk (((((w2.setCell ⟨w1.heap.size, 0, none⟩ (.int .i64 b0)).setCell ⟨w1.heap.size, 1, none⟩ (.int .i64 b1)).setCell ⟨w1.heap.size, 2, none⟩ (.int .i64 b2)).setCell ⟨w1.heap.size, 3, none⟩ (.int .i64 b3)).setCell ⟨w1.heap.size, 4, none⟩ (.int .i64 b4)) (w1.heap.size) 47 #[.int .i64 b0, .int .i64 b1, .int .i64 b2, .int .i64 b3, .int .i64 b4, .int .i64 a5, .int .i64 a6, .int .i64 a7] := hbk3.setCell 4 (.int .i64 b4)
      have hbk5 : Blk ((((((w2.setCell ⟨w1.heap.size, 0, none⟩ (.int .i64 b0)).setCell ⟨w1.heap.size, 1, none⟩ (.int .i64 b1)).setCell ⟨w1.heap.size, 2, none⟩ (.int .i64 b2)).setCell ⟨w1.heap.size, 3, none⟩ (.int .i64 b3)).setCell ⟨w1.heap.size, 4, none⟩ (.int .i64 b4)).setCell ⟨w1.heap.size, 5, none⟩ (.int .i64 b5)) (w1.heap.size) 47 #[.int .i64 b0, .int .i64 b1, .int .i64 b2, .int .i64 b3, .int .i64 b4, .int .i64 b5, .int .i64 a6, .int .i64 a7] := hbk4.setCell 5 (.int .i64 b5)
      have hbk6 : Blk (((((((w2.setCell ⟨w1.heap.size, 0, none⟩ (.int .i64 b0)).setCell ⟨w1.heap.size, 1, none⟩ (.int .i64 b1)).setCell ⟨w1.heap.size, 2, none⟩ (.int .i64 b2)).setCell ⟨w1.heap.size, 3, none⟩ (.int .i64 b3)).setCell ⟨w1.heap.size, 4, none⟩ (.int .i64 b4)).setCell ⟨w1.heap.size, 5, none⟩ (.int .i64 b5)).setCell ⟨w1.heap.size, 6, none⟩ (.int .i64 b6)) (w1.heap.size) 47 #[.int .i64 b0, .int .i64 b1, .int .i64 b2, .int .i64 b3, .int .i64 b4, .int .i64 b5, .int .i64 b6, .int .i64 a7] := hbk5.setCell 6 (.int .i64 b6)
      have hbk7 : Blk ((((((((w2.setCell ⟨w1.heap.size, 0, none⟩ (.int .i64 b0)).setCell ⟨w1.heap.size, 1, none⟩ (.int .i64 b1)).setCell ⟨w1.heap.size, 2, none⟩ (.int .i64 b2)).setCell ⟨w1.heap.size, 3, none⟩ (.int .i64 b3)).setCell ⟨w1.heap.size, 4, none⟩ (.int .i64 b4)).setCell ⟨w1.heap.size, 5, none⟩ (.int .i64 b5)).setCell ⟨w1.heap.size, 6, none⟩ (.int .i64 b6)).setCell ⟨w1.heap.size, 7, none⟩ (.int .i64 b7)) (w1.heap.size) 47 #[.int .i64 b0, .int .i64 b1, .int .i64 b2, .int .i64 b3, .int .i64 b4, .int .i64 b5, .int .i64 b6, .int .i64 b7] := hbk6.setCell 7 (.int .i64 b7)
      have hgr : w2.grownBy ((((((((w2.setCell ⟨w1.heap.size, 0, none⟩ (.int .i64 b0)).setCell ⟨w1.heap.size, 1, none⟩ (.int .i64 b1)).setCell ⟨w1.heap.size, 2, none⟩ (.int .i64 b2)).setCell ⟨w1.heap.size, 3, none⟩ (.int .i64 b3)).setCell ⟨w1.heap.size, 4, none⟩ (.int .i64 b4)).setCell ⟨w1.heap.size, 5, none⟩ (.int .i64 b5)).setCell ⟨w1.heap.size, 6, none⟩ (.int .i64 b6)).setCell ⟨w1.heap.size, 7, none⟩ (.int .i64 b7)) (some (w1.heap.size)) := (grown_set (grown_set (grown_set (grown_set (grown_set (grown_set (grown_set (grown_set (World.grownBy.refl w2 (some (w1.heap.size))) 0 (.int .i64 b0)) 1 (.int .i64 b1)) 2 (.int .i64 b2)) 3 (.int .i64 b3)) 4 (.int .i64 b4)) 5 (.int .i64 b5)) 6 (.int .i64 b6)) 7 (.int .i64 b7))
      replace PA := hid hbk7
      clear hbk0 hbk1 hbk2 hbk3 hbk4 hbk5 hbk6 hbk7
      generalize (((((((w2.setCell ⟨w1.heap.size, 0, none⟩ (.int .i64 b0)).setCell ⟨w1.heap.size, 1, none⟩ (.int .i64 b1)).setCell ⟨w1.heap.size, 2, none⟩ (.int .i64 b2)).setCell ⟨w1.heap.size, 3, none⟩ (.int .i64 b3)).setCell ⟨w1.heap.size, 4, none⟩ (.int .i64 b4)).setCell ⟨w1.heap.size, 5, none⟩ (.int .i64 b5)).setCell ⟨w1.heap.size, 6, none⟩ (.int .i64 b6)).setCell ⟨w1.heap.size, 7, none⟩ (.int .i64 b7) = W2 at *
      replace HB := hid (HB.out.grown hgr HB.out.size (fun r e => by cases e; exact hs1.out))
      clear hgr
      have hcut := cut8 m (by omega)
      go_wp2_with fail
      clear hcut
      have RW := hid (Blk.row8 (c := m) (l := wL (xs.take (j + 1))) (by rw [← HW2.out]; exact PA.out) (by rw [wL_len]; omega))
      refine (most_any (some ⟨w1.heap.size, 0, none⟩) m 8 0 _ _ W2 RW.out (by omega)).mono ?_
      rintro e w5 ⟨rfl, rfl⟩
      have hml := mostL_lt (l := (wL (xs.take (j + 1))).take m) (by rw [List.length_take, wL_len]; omega)
      rw [List.length_take, wL_len] at hml
      obtain ⟨q, hq⟩ : ∃ q, q = mostL ((wL (xs.take (j + 1))).take m) := ⟨_, rfl⟩
      obtain ⟨y, hy⟩ : ∃ y, y = topW m (xs.take (j + 1)) := ⟨_, rfl⟩
      obtain ⟨b', o', e', _, _, hc⟩ := RW.out.row (by omega)
      have f0 := hc q (by omega)
      cases e'
      rw [Nat.zero_add] at f0
      have f1 : W2.cell? ⟨w1.heap.size, q, none⟩ = some (.int .i64 y) := by rw [f0, hy, hq]; rfl
      rw [← hq] at hml ⊢
      have hqi : (q : Int) < 8 := by omega
      have hyb := topW_in (c := m) (by omega) (by omega) (xs.take (j + 1))
      rw [← hy, List.length_take] at hyb
      have hlb := leastF_in (c := m) (by omega) (by omega) xs j (by rw [hl.out]; omega)
      have HN := hid (show leastF m xs (j + 1) = max (leastF m xs j) (1 + y) by rw [hy]; rfl)
      obtain ⟨z, hz⟩ : ∃ z, z = leastF m xs j := ⟨_, rfl⟩
      rw [← hz] at HN hlb ⊢
      have hw3 : IntKind.i64.wrap (1 + y) = 1 + y := by rw [IntKind.wrap_i64]; omega
      have hmx : max z (1 + y) = leastF m xs (j + 1) := HN.out.symm
      have hmx2 : (if z < 1 + y then 1 + y else z) = leastF m xs (j + 1) := by rw [HN.out]; split <;> omega
      clear hc f0 hq hy hz hml hyb hlb
      go_wp2
      go_roundw
      case rel => exact ⟨j + 1, by omega, by go_num, by first | rfl | (congr 1), HB.out, b0, b1, b2, b3, b4, b5, b6, b7, PA.out, HW2.out⟩
      case measure => simp [intOf]; omega
    obtain rfl : j = n := by omega
    have hnn : ¬ ((j : Int) < (j : Int)) := by omega
    have E3 := hid (show leastC (m : Int) xs = leastF m xs j by rw [E2.out, hl.out])
    go_wp2
    go_ret
    exact ⟨ret_int E3.out.symm, HB.out⟩
set_option maxHeartbeats 4000000 in
theorem sfair_any (c : Int) (P : Option Addr) (n k : Nat) (xs : List Int) (kk : Int) (w : World) (h : Sl i64 0 w 0 w.heap.size P n xs) (hn : n ≤ 1000000) :
    Calls Try.prog 14 #[.int .i64 c, .slice P n k, .int .i64 kk] w fun e w' => e = .returned (.bool (fairC c xs kk)) ∧ Below w.heap.size w w' := by
  have HR := hid h; have HB := hid (Below.refl w.heap.size w)
  clear h
  by_cases h1 : 1 ≤ kk
  rotate_left
  · have d1 : decide (1 ≤ kk) = false := decide_eq_false h1
    have E := hid (show fairC c xs kk = false from decide_eq_false (fun h => h1 h.1))
    clear h1
    go_enter Try.func14, Try.ntmps14
    go_wp2
    go_ret
    exact ⟨ret_bool E.out.symm, HB.out⟩
  have d1 : decide (1 ≤ kk) = true := decide_eq_true h1
  have H1 := hid h1
  clear h1
  go_enter Try.func14, Try.ntmps14
  go_wp2_with fail
  refine (scheck_any c P n k xs w HR.out hn).mono ?_
  rintro e w1 ⟨rfl, hb⟩
  replace HR := hid (HR.out.step hb); replace HB := hid (below_then HB.out hb)
  clear hb
  by_cases hs : SchR c xs
  rotate_left
  · have e1 : scheckC c xs = 140 := if_neg hs
    have E := hid (show fairC c xs kk = false from decide_eq_false (fun h => hs h.2.1))
    rw [e1]
    clear e1 hs
    go_wp2
    go_ret
    exact ⟨ret_bool E.out.symm, HB.out⟩
  have e1 : scheckC c xs = 0 := if_pos hs
  have E := hid (show fairC c xs kk = decide (leastC c xs ≤ kk) from decide_eq_decide.2 ⟨fun h => h.2.2, fun h => ⟨H1.out, hs, h⟩⟩)
  rw [e1]
  clear e1 hs
  go_wp2_with fail
  refine (sleast_any c P n k xs w1 HR.out hn).mono ?_
  rintro e w2 ⟨rfl, hb⟩
  replace HR := hid (HR.out.step hb); replace HB := hid (below_then HB.out hb)
  clear hb
  go_wp2
  go_ret
  exact ⟨ret_bool E.out.symm, HB.out⟩
end Go.Proofs.Ytijofgbealikaaa
