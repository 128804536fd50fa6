/- package sched: waits behind picks; who waits longest. No condition but sizes. -/
import Derived.Test.YtijofgbealikaaaSc2
namespace Go.Proofs.Ytijofgbealikaaa
open Go.RowKit
/-- waits behind picks -/
def wL (xs : List Int) : List Int := xs.foldl (fun l x => pickL l x.toNat) (List.replicate 8 0)
theorem pickL_len (l : List Int) (p : Nat) : (pickL l p).length = l.length := by unfold pickL; simp
theorem pickL_in {l : List Int} {B : Int} (h : ∀ x ∈ l, 0 ≤ x ∧ x ≤ B) (hB : 0 ≤ B) (p : Nat) : ∀ x ∈ pickL l p, 0 ≤ x ∧ x ≤ B + 1 := fun x hx => by
  rcases List.mem_or_eq_of_mem_set hx with h1 | h1
  · obtain ⟨y, hy, rfl⟩ := List.mem_map.1 h1
    have := h y hy
    omega
  · rw [h1]; omega
theorem wL_snoc (xs : List Int) (x : Int) : wL (xs ++ [x]) = pickL (wL xs) x.toNat := by simp [wL]
theorem fold_len (xs : List Int) : ∀ l : List Int, (xs.foldl (fun l x => pickL l x.toNat) l).length = l.length := by
  induction xs with
  | nil => intro l; rfl
  | cons x xs ih => intro l; rw [List.foldl_cons, ih, pickL_len]
theorem wL_len (xs : List Int) : (wL xs).length = 8 := by unfold wL; rw [fold_len]; rfl
theorem fold_in (xs : List Int) : ∀ (l : List Int) (B : Int), 0 ≤ B → (∀ x ∈ l, 0 ≤ x ∧ x ≤ B) → ∀ x ∈ xs.foldl (fun l x => pickL l x.toNat) l, 0 ≤ x ∧ x ≤ B + xs.length := by
  induction xs with
  | nil => intro l B h0 h x hx; have := h x hx; simp; omega
  | cons y xs ih =>
    intro l B h0 h x hx
    rw [List.foldl_cons] at hx
    have := ih (pickL l y.toNat) (B + 1) (by omega) (pickL_in h h0 _) x hx
    rw [List.length_cons]
    omega
theorem wL_in (xs : List Int) : ∀ x ∈ wL xs, 0 ≤ x ∧ x ≤ xs.length := fun x hx => by
  have := fold_in xs (List.replicate 8 0) 0 (by omega) (fun x hx => by rw [(List.mem_replicate.1 hx).2]; omega) x hx
  omega
theorem take_succI {v : List Int} {k : Nat} (h : k < v.length) : v.take (k + 1) = v.take k ++ [v[k]?.getD 0] := by
  rw [List.take_succ_eq_append_getElem h, List.getElem?_eq_getElem h]; rfl
set_option maxHeartbeats 4000000 in
theorem of_any (P : Option Addr) (n c : Nat) (xs : List Int) (w : World) (h : Sl i64 0 w 0 w.heap.size P n xs) (hn : n ≤ 1000000) (hr : ∀ x ∈ xs, 0 ≤ x ∧ x < 8) :
    Calls Try.prog 30 #[.slice P n c] w fun e w' => (∃ b0 b1 b2 b3 b4 b5 b6 b7, e = .returned (.agg #[.int .i64 b0, .int .i64 b1, .int .i64 b2, .int .i64 b3, .int .i64 b4, .int .i64 b5, .int .i64 b6, .int .i64 b7]) ∧ [b0, b1, b2, b3, b4, b5, b6, b7] = wL xs) ∧ Below w.heap.size w w' := by
  have HR := hid h; have HXR := hid hr; have HB := hid (Below.refl w.heap.size w); have hl := hid h.len
  clear h hr
  have bx := below_box w (.cells #[.int .i64 0, .int .i64 0, .int .i64 0, .int .i64 0, .int .i64 0, .int .i64 0, .int .i64 0, .int .i64 0] 47)
  replace HB := hid (below_then HB.out bx)
  clear bx
  have PZ := hid (Blk.new w 47 #[.int .i64 0, .int .i64 0, .int .i64 0, .int .i64 0, .int .i64 0, .int .i64 0, .int .i64 0, .int .i64 0])
  have bx := below_box (w.alloc (.cells #[.int .i64 0, .int .i64 0, .int .i64 0, .int .i64 0, .int .i64 0, .int .i64 0, .int .i64 0, .int .i64 0] 47)) (.cells #[.int .i64 0, .int .i64 0, .int .i64 0, .int .i64 0, .int .i64 0, .int .i64 0, .int .i64 0, .int .i64 0] 47)
  replace PZ := hid (PZ.out.step bx); replace HB := hid (below_then HB.out bx)
  clear bx
  have PA := hid (Blk.new2 w 47 #[.int .i64 0, .int .i64 0, .int .i64 0, .int .i64 0, .int .i64 0, .int .i64 0, .int .i64 0, .int .i64 0] (.cells #[.int .i64 0, .int .i64 0, .int .i64 0, .int .i64 0, .int .i64 0, .int .i64 0, .int .i64 0, .int .i64 0] 47))
  go_enter Try.func30, Try.ntmps30
  go_wp2_with fail
  have hz0 := hid (show ((w.alloc (.cells #[.int .i64 0, .int .i64 0, .int .i64 0, .int .i64 0, .int .i64 0, .int .i64 0, .int .i64 0, .int .i64 0] 47)).alloc (.cells #[.int .i64 0, .int .i64 0, .int .i64 0, .int .i64 0, .int .i64 0, .int .i64 0, .int .i64 0, .int .i64 0] 47)).heap.size = w.heap.size + 2 by simp)
  generalize (w.alloc (.cells #[.int .i64 0, .int .i64 0, .int .i64 0, .int .i64 0, .int .i64 0, .int .i64 0, .int .i64 0, .int .i64 0] 47)).alloc (.cells #[.int .i64 0, .int .i64 0, .int .i64 0, .int .i64 0, .int .i64 0, .int .i64 0, .int .i64 0, .int .i64 0] 47) = W0 at *
  have HI := hid (show ∃ a0 a1 a2 a3 a4 a5 a6 a7, Blk W0 (w.heap.size + 1) 47 #[.int .i64 a0, .int .i64 a1, .int .i64 a2, .int .i64 a3, .int .i64 a4, .int .i64 a5, .int .i64 a6, .int .i64 a7] ∧ [a0, a1, a2, a3, a4, a5, a6, a7] = wL (xs.take 0) from ⟨0, 0, 0, 0, 0, 0, 0, 0, PA.out, rfl⟩)
  clear PA
  go_loopw [8] (fun i wr => ∃ j : Nat, j ≤ n ∧ i = .int .i64 j ∧ Below w.heap.size w wr ∧ (∃ a0 a1 a2 a3 a4 a5 a6 a7, Blk wr (w.heap.size + 1) 47 #[.int .i64 a0, .int .i64 a1, .int .i64 a2, .int .i64 a3, .int .i64 a4, .int .i64 a5, .int .i64 a6, .int .i64 a7] ∧ [a0, a1, a2, a3, a4, a5, a6, a7] = wL (xs.take j)) ∧ Blk wr w.heap.size 47 #[.int .i64 0, .int .i64 0, .int .i64 0, .int .i64 0, .int .i64 0, .int .i64 0, .int .i64 0, .int .i64 0]) (fun i _ => n - (intOf i).toNat)
  case atStart => exact ⟨0, Nat.zero_le _, rfl, HB.out, HI.out, PZ.out⟩
  case round =>
    clear HI PZ HB
    obtain ⟨j, hj, rfl, h1, ⟨a0, a1, a2, a3, a4, a5, a6, a7, h2, hw⟩, h3⟩ := hrel
    have HB := hid h1; have PA := hid h2; have PZ := hid h3; have HW := hid hw
    clear h1 h2 h3 hw
    by_cases hjn : j < n
    · skip
      obtain ⟨b, off, rfl, _, hbh, hc⟩ := HR.out.row (by omega)
      obtain ⟨x, hx⟩ : ∃ x, x = xs[j]?.getD 0 := ⟨_, rfl⟩
      have f0 := (HB.out.cell (p := ⟨b, off + j, none⟩) hbh).trans (hc j hjn)
      rw [← hx] at f0
      have hxr := all_at.1 HXR.out j (by rw [hl.out]; exact hjn)
      rw [← hx] at hxr
      have HX := hid hx
      obtain ⟨p, rfl⟩ := Int.eq_ofNat_of_zero_le hxr.1
      have hp8 : p < 8 := by omega
      have hji : (j : Int) < (n : Int) := by omega
      have hw2 : IntKind.i64.wrap ((j : Int) + 1) = (j : Int) + 1 := by rw [IntKind.wrap_i64]; omega
      clear hx hc hxr
      obtain ⟨y00, y01, y02, y03, y04, y05, y06, y07, yf0⟩ := PA.out.cells8
      go_wp2_with fail
      clear f0 y00 y01 y02 y03 y04 y05 y06 y07 yf0
      refine (pick_any a0 a1 a2 a3 a4 a5 a6 a7 p wr hp8 (by rw [HW.out]; intro x hx; have h := wL_in _ x hx; rw [List.length_take] at h; omega)).mono ?_
      rintro e w1 ⟨⟨b0, b1, b2, b3, b4, b5, b6, b7, rfl, hbl⟩, hb⟩
      replace PA := hid (PA.out.step hb); replace PZ := hid (PZ.out.step hb); replace HB := hid (below_then HB.out hb)
      have HBL := hid hbl; have HSZ := hid (show w.heap.size + 1 < w1.heap.size from Nat.lt_of_lt_of_le PA.out.lt (Nat.le_refl _))
      clear hb hbl
      obtain ⟨y00, y01, y02, y03, y04, y05, y06, y07, yf0⟩ := PA.out.cells8
      go_wp2
      clear y00 y01 y02 y03 y04 y05 y06 y07 yf0
      have hbk0 : Blk (w1.setCell ⟨w.heap.size + 1, 0, none⟩ (.int .i64 b0)) (w.heap.size + 1) 47 #[.int .i64 b0, .int .i64 a1, .int .i64 a2, .int .i64 a3, .int .i64 a4, .int .i64 a5, .int .i64 a6, .int .i64 a7] := PA.out.setCell 0 (.int .i64 b0)
      have hbk1 : Blk ((w1.setCell ⟨w.heap.size + 1, 0, none⟩ (.int .i64 b0)).setCell ⟨w.heap.size + 1, 1, none⟩ (.int .i64 b1)) (w.heap.size + 1) 47 #[.int .i64 b0, .int .i64 b1, .int .i64 a2, .int .i64 a3, .int .i64 a4, .int .i64 a5, .int .i64 a6, .int .i64 a7] := hbk0.setCell 1 (.int .i64 b1)
      have hbk2 : Blk (((w1.setCell ⟨w.heap.size + 1, 0, none⟩ (.int .i64 b0)).setCell ⟨w.heap.size + 1, 1, none⟩ (.int .i64 b1)).setCell ⟨w.heap.size + 1, 2, none⟩ (.int .i64 b2)) (w.heap.size + 1) 47 #[.int .i64 b0, .int .i64 b1, .int .i64 b2, .int .i64 a3, .int .i64 a4, .int .i64 a5, .int .i64 a6, .int .i64 a7] := hbk1.setCell 2 (.int .i64 b2)
      have hbk3 : Blk ((((w1.setCell ⟨w.heap.size + 1, 0, none⟩ (.int .i64 b0)).setCell ⟨w.heap.size + 1, 1, none⟩ (.int .i64 b1)).setCell ⟨w.heap.size + 1, 2, none⟩ (.int .i64 b2)).setCell ⟨w.heap.size + 1, 3, none⟩ (.int .i64 b3)) (w.heap.size + 1) 47 #[.int .i64 b0, .int .i64 b1, .int .i64 b2, .int .i64 b3, .int .i64 a4, .int .i64 a5, .int .i64 a6, .int .i64 a7] := hbk2.setCell 3 (.int .i64 b3)
      have hbk4 : Blk (((((w1.setCell ⟨w.heap.size + 1, 0, none⟩ (.int .i64 b0)).setCell ⟨w.heap.size + 1, 1, none⟩ (.int .i64 b1)).setCell ⟨w.heap.size + 1, 2, none⟩ (.int .i64 b2)).setCell ⟨w.heap.size + 1, 3, none⟩ (.int .i64 b3)).setCell ⟨w.heap.size + 1, 4, none⟩ (.int .i64 b4)) (w.heap.size + 1) 47 #[.int .i64 b0, .int .i64 b1, .int .i64 b2, .int .i64 b3, .int .i64 b4, .int .i64 a5, .int .i64 a6, .int .i64 a7] := hbk3.setCell 4 (.int .i64 b4)
      have hbk5 : Blk ((((((w1.setCell ⟨w.heap.size + 1, 0, none⟩ (.int .i64 b0)).setCell ⟨w.heap.size + 1, 1, none⟩ (.int .i64 b1)).setCell ⟨w.heap.size + 1, 2, none⟩ (.int .i64 b2)).setCell ⟨w.heap.size + 1, 3, none⟩ (.int .i64 b3)).setCell ⟨w.heap.size + 1, 4, none⟩ (.int .i64 b4)).setCell ⟨w.heap.size + 1, 5, none⟩ (.int .i64 b5)) (w.heap.size + 1) 47 #[.int .i64 b0, .int .i64 b1, .int .i64 b2, .int .i64 b3, .int .i64 b4, .int .i64 b5, .int .i64 a6, .int .i64 a7] := hbk4.setCell 5 (.int .i64 b5)
      have hbk6 : Blk (((((((w1.setCell ⟨w.heap.size + 1, 0, none⟩ (.int .i64 b0)).setCell ⟨w.heap.size + 1, 1, none⟩ (.int .i64 b1)).setCell ⟨w.heap.size + 1, 2, none⟩ (.int .i64 b2)).setCell ⟨w.heap.size + 1, 3, none⟩ (.int .i64 b3)).setCell ⟨w.heap.size + 1, 4, none⟩ (.int .i64 b4)).setCell ⟨w.heap.size + 1, 5, none⟩ (.int .i64 b5)).setCell ⟨w.heap.size + 1, 6, none⟩ (.int .i64 b6)) (w.heap.size + 1) 47 #[.int .i64 b0, .int .i64 b1, .int .i64 b2, .int .i64 b3, .int .i64 b4, .int .i64 b5, .int .i64 b6, .int .i64 a7] := hbk5.setCell 6 (.int .i64 b6)
      have hbk7 : Blk ((((((((w1.setCell ⟨w.heap.size + 1, 0, none⟩ (.int .i64 b0)).setCell ⟨w.heap.size + 1, 1, none⟩ (.int .i64 b1)).setCell ⟨w.heap.size + 1, 2, none⟩ (.int .i64 b2)).setCell ⟨w.heap.size + 1, 3, none⟩ (.int .i64 b3)).setCell ⟨w.heap.size + 1, 4, none⟩ (.int .i64 b4)).setCell ⟨w.heap.size + 1, 5, none⟩ (.int .i64 b5)).setCell ⟨w.heap.size + 1, 6, none⟩ (.int .i64 b6)).setCell ⟨w.heap.size + 1, 7, none⟩ (.int .i64 b7)) (w.heap.size + 1) 47 #[.int .i64 b0, .int .i64 b1, .int .i64 b2, .int .i64 b3, .int .i64 b4, .int .i64 b5, .int .i64 b6, .int .i64 b7] := hbk6.setCell 7 (.int .i64 b7)
      have hgr : w1.grownBy ((((((((w1.setCell ⟨w.heap.size + 1, 0, none⟩ (.int .i64 b0)).setCell ⟨w.heap.size + 1, 1, none⟩ (.int .i64 b1)).setCell ⟨w.heap.size + 1, 2, none⟩ (.int .i64 b2)).setCell ⟨w.heap.size + 1, 3, none⟩ (.int .i64 b3)).setCell ⟨w.heap.size + 1, 4, none⟩ (.int .i64 b4)).setCell ⟨w.heap.size + 1, 5, none⟩ (.int .i64 b5)).setCell ⟨w.heap.size + 1, 6, none⟩ (.int .i64 b6)).setCell ⟨w.heap.size + 1, 7, none⟩ (.int .i64 b7)) (some (w.heap.size + 1)) := (grown_set (grown_set (grown_set (grown_set (grown_set (grown_set (grown_set (grown_set (World.grownBy.refl w1 (some (w.heap.size + 1))) 0 (.int .i64 b0)) 1 (.int .i64 b1)) 2 (.int .i64 b2)) 3 (.int .i64 b3)) 4 (.int .i64 b4)) 5 (.int .i64 b5)) 6 (.int .i64 b6)) 7 (.int .i64 b7))
      replace PA := hid hbk7
      clear hbk0 hbk1 hbk2 hbk3 hbk4 hbk5 hbk6 hbk7
      generalize (((((((w1.setCell ⟨w.heap.size + 1, 0, none⟩ (.int .i64 b0)).setCell ⟨w.heap.size + 1, 1, none⟩ (.int .i64 b1)).setCell ⟨w.heap.size + 1, 2, none⟩ (.int .i64 b2)).setCell ⟨w.heap.size + 1, 3, none⟩ (.int .i64 b3)).setCell ⟨w.heap.size + 1, 4, none⟩ (.int .i64 b4)).setCell ⟨w.heap.size + 1, 5, none⟩ (.int .i64 b5)).setCell ⟨w.heap.size + 1, 6, none⟩ (.int .i64 b6)).setCell ⟨w.heap.size + 1, 7, none⟩ (.int .i64 b7) = W2 at *
      replace PZ := hid (PZ.out.grown hgr (by simp <;> omega))
      replace HB := hid (HB.out.grown hgr HB.out.size (fun r e => by cases e; omega))
      go_roundw
      case rel => exact ⟨j + 1, by omega, by go_num, HB.out, ⟨b0, b1, b2, b3, b4, b5, b6, b7, PA.out, by rw [take_succI (by rw [hl.out]; exact hjn), wL_snoc, ← HW.out, ← HX.out]; exact HBL.out⟩, PZ.out⟩
      case measure => simp [intOf]; omega
    obtain rfl : j = n := by omega
    have hnn : ¬ ((j : Int) < (j : Int)) := by omega
    have HW2 := hid (show [a0, a1, a2, a3, a4, a5, a6, a7] = wL xs by rw [HW.out, List.take_of_length_le (by rw [hl.out]; exact Nat.le_refl _)])
    obtain ⟨y00, y01, y02, y03, y04, y05, y06, y07, yf0⟩ := PA.out.cells8
    obtain ⟨y10, y11, y12, y13, y14, y15, y16, y17, yf1⟩ := PZ.out.cells8
    go_wp2
    clear y00 y01 y02 y03 y04 y05 y06 y07 yf0 y10 y11 y12 y13 y14 y15 y16 y17 yf1
    have hbk0 : Blk (wr.setCell ⟨w.heap.size, 0, none⟩ (.int .i64 a0)) (w.heap.size) 47 #[.int .i64 a0, .int .i64 0, .int .i64 0, .int .i64 0, .int .i64 0, .int .i64 0, .int .i64 0, .int .i64 0] := PZ.out.setCell 0 (.int .i64 a0)
    have hbk1 : Blk ((wr.setCell ⟨w.heap.size, 0, none⟩ (.int .i64 a0)).setCell ⟨w.heap.size, 1, none⟩ (.int .i64 a1)) (w.heap.size) 47 #[.int .i64 a0, .int .i64 a1, .int .i64 0, .int .i64 0, .int .i64 0, .int .i64 0, .int .i64 0, .int .i64 0] := hbk0.setCell 1 (.int .i64 a1)
    have hbk2 : Blk (((wr.setCell ⟨w.heap.size, 0, none⟩ (.int .i64 a0)).setCell ⟨w.heap.size, 1, none⟩ (.int .i64 a1)).setCell ⟨w.heap.size, 2, none⟩ (.int .i64 a2)) (w.heap.size) 47 #[.int .i64 a0, .int .i64 a1, .int .i64 a2, .int .i64 0, .int .i64 0, .int .i64 0, .int .i64 0, .int .i64 0] := hbk1.setCell 2 (.int .i64 a2)
    have hbk3 : Blk ((((wr.setCell ⟨w.heap.size, 0, none⟩ (.int .i64 a0)).setCell ⟨w.heap.size, 1, none⟩ (.int .i64 a1)).setCell ⟨w.heap.size, 2, none⟩ (.int .i64 a2)).setCell ⟨w.heap.size, 3, none⟩ (.int .i64 a3)) (w.heap.size) 47 #[.int .i64 a0, .int .i64 a1, .int .i64 a2, .int .i64 a3, .int .i64 0, .int .i64 0, .int .i64 0, .int .i64 0] := hbk2.setCell 3 (.int .i64 a3)
    have hbk4 : Blk (((((wr.setCell ⟨w.heap.size, 0, none⟩ (.int .i64 a0)).setCell ⟨w.heap.size, 1, none⟩ (.int .i64 a1)).setCell ⟨w.heap.size, 2, none⟩ (.int .i64 a2)).setCell ⟨w.heap.size, 3, none⟩ (.int .i64 a3)).setCell ⟨w.heap.size, 4, none⟩ (.int .i64 a4)) (w.heap.size) 47 #[.int .i64 a0, .int .i64 a1, .int .i64 a2, .int .i64 a3, .int .i64 a4, .int .i64 0, .int .i64 0, .int .i64 0] := hbk3.setCell 4 (.int .i64 a4)
    have hbk5 : Blk ((((((wr.setCell ⟨w.heap.size, 0, none⟩ (.int .i64 a0)).setCell ⟨w.heap.size, 1, none⟩ (.int .i64 a1)).setCell ⟨w.heap.size, 2, none⟩ (.int .i64 a2)).setCell ⟨w.heap.size, 3, none⟩ (.int .i64 a3)).setCell ⟨w.heap.size, 4, none⟩ (.int .i64 a4)).setCell ⟨w.heap.size, 5, none⟩ (.int .i64 a5)) (w.heap.size) 47 #[.int .i64 a0, .int .i64 a1, .int .i64 a2, .int .i64 a3, .int .i64 a4, .int .i64 a5, .int .i64 0, .int .i64 0] := hbk4.setCell 5 (.int .i64 a5)
    have hbk6 : Blk (((((((wr.setCell ⟨w.heap.size, 0, none⟩ (.int .i64 a0)).setCell ⟨w.heap.size, 1, none⟩ (.int .i64 a1)).setCell ⟨w.heap.size, 2, none⟩ (.int .i64 a2)).setCell ⟨w.heap.size, 3, none⟩ (.int .i64 a3)).setCell ⟨w.heap.size, 4, none⟩ (.int .i64 a4)).setCell ⟨w.heap.size, 5, none⟩ (.int .i64 a5)).setCell ⟨w.heap.size, 6, none⟩ (.int .i64 a6)) (w.heap.size) 47 #[.int .i64 a0, .int .i64 a1, .int .i64 a2, .int .i64 a3, .int .i64 a4, .int .i64 a5, .int .i64 a6, .int .i64 0] := hbk5.setCell 6 (.int .i64 a6)
    have hbk7 : Blk ((((((((wr.setCell ⟨w.heap.size, 0, none⟩ (.int .i64 a0)).setCell ⟨w.heap.size, 1, none⟩ (.int .i64 a1)).setCell ⟨w.heap.size, 2, none⟩ (.int .i64 a2)).setCell ⟨w.heap.size, 3, none⟩ (.int .i64 a3)).setCell ⟨w.heap.size, 4, none⟩ (.int .i64 a4)).setCell ⟨w.heap.size, 5, none⟩ (.int .i64 a5)).setCell ⟨w.heap.size, 6, none⟩ (.int .i64 a6)).setCell ⟨w.heap.size, 7, none⟩ (.int .i64 a7)) (w.heap.size) 47 #[.int .i64 a0, .int .i64 a1, .int .i64 a2, .int .i64 a3, .int .i64 a4, .int .i64 a5, .int .i64 a6, .int .i64 a7] := hbk6.setCell 7 (.int .i64 a7)
    have hgr : wr.grownBy ((((((((wr.setCell ⟨w.heap.size, 0, none⟩ (.int .i64 a0)).setCell ⟨w.heap.size, 1, none⟩ (.int .i64 a1)).setCell ⟨w.heap.size, 2, none⟩ (.int .i64 a2)).setCell ⟨w.heap.size, 3, none⟩ (.int .i64 a3)).setCell ⟨w.heap.size, 4, none⟩ (.int .i64 a4)).setCell ⟨w.heap.size, 5, none⟩ (.int .i64 a5)).setCell ⟨w.heap.size, 6, none⟩ (.int .i64 a6)).setCell ⟨w.heap.size, 7, none⟩ (.int .i64 a7)) (some (w.heap.size)) := (grown_set (grown_set (grown_set (grown_set (grown_set (grown_set (grown_set (grown_set (World.grownBy.refl wr (some (w.heap.size))) 0 (.int .i64 a0)) 1 (.int .i64 a1)) 2 (.int .i64 a2)) 3 (.int .i64 a3)) 4 (.int .i64 a4)) 5 (.int .i64 a5)) 6 (.int .i64 a6)) 7 (.int .i64 a7))
    replace PZ := hid hbk7
    clear hbk0 hbk1 hbk2 hbk3 hbk4 hbk5 hbk6 hbk7
    generalize (((((((wr.setCell ⟨w.heap.size, 0, none⟩ (.int .i64 a0)).setCell ⟨w.heap.size, 1, none⟩ (.int .i64 a1)).setCell ⟨w.heap.size, 2, none⟩ (.int .i64 a2)).setCell ⟨w.heap.size, 3, none⟩ (.int .i64 a3)).setCell ⟨w.heap.size, 4, none⟩ (.int .i64 a4)).setCell ⟨w.heap.size, 5, none⟩ (.int .i64 a5)).setCell ⟨w.heap.size, 6, none⟩ (.int .i64 a6)).setCell ⟨w.heap.size, 7, none⟩ (.int .i64 a7) = Wf at *
    obtain ⟨v0, v1, v2, v3, v4, v5, v6, v7, vf⟩ := PZ.out.cells8
    refine bodyPost_ret (v := .agg #[.int .i64 a0, .int .i64 a1, .int .i64 a2, .int .i64 a3, .int .i64 a4, .int .i64 a5, .int .i64 a6, .int .i64 a7]) (by simp [results, Try.results30, go_sem, v0, v1, v2, v3, v4, v5, v6, v7]) rfl ⟨⟨a0, a1, a2, a3, a4, a5, a6, a7, rfl, HW2.out⟩, HB.out.grown hgr HB.out.size (fun r e => by cases e; exact Nat.le_refl _)⟩
end Go.Proofs.Ytijofgbealikaaa
