/- package sched: waits, one pick more. No condition but sizes. -/
import Derived.Test.YtijofgbealikaaaSc
import Derived.Test.YtijofgbealikaaaKitA
import Derived.Deep.Cut
namespace Go.Proofs.Ytijofgbealikaaa
open Go.RowKit
abbrev A8 (l : List Int) : Array Value := (l.map i64).toArray
theorem A8_get {l : List Int} {j : Nat} (h : j < l.length) : (A8 l)[j]? = some (.int .i64 (l[j]?.getD 0)) := by
  simp [A8, List.getElem?_eq_getElem h, i64]
theorem A8_set (l : List Int) (j : Nat) (v : Int) : (A8 l).setIfInBounds j (.int .i64 v) = A8 (l.set j v) := by
  simp [A8, List.map_set, i64]
/-- waits behind one pick more -/
def pickL (l : List Int) (p : Nat) : List Int := (l.map (· + 1)).set p 0
/-- of the first j one more -/
def incL (l : List Int) (j : Nat) : List Int := (l.take j).map (· + 1) ++ l.drop j
theorem incL_len (l : List Int) (j : Nat) : (incL l j).length = l.length := by unfold incL; simp; omega
theorem incL_get {l : List Int} {j : Nat} (h : j < l.length) : (incL l j)[j]?.getD 0 = l[j]?.getD 0 := by
  unfold incL
  rw [List.getElem?_append_right (by simp; omega)]
  simp [Nat.min_eq_left (Nat.le_of_lt h)]
theorem incL_set {l : List Int} {j : Nat} (h : j < l.length) : (incL l j).set j (l[j]?.getD 0 + 1) = incL l (j + 1) := by
  unfold incL
  rw [List.set_append_right _ _ (by simp; omega)]
  have h1 : l.drop j = l[j] :: l.drop (j + 1) := List.drop_eq_getElem_cons h
  rw [h1, List.take_succ_eq_append_getElem h, List.map_append, List.append_assoc, List.length_map, List.length_take, Nat.min_eq_left (Nat.le_of_lt h), Nat.sub_self, List.getElem?_eq_getElem h]
  rfl
theorem incL_all {l : List Int} {j : Nat} (h : l.length ≤ j) : incL l j = l.map (· + 1) := by
  unfold incL
  rw [List.take_of_length_le h, List.drop_of_length_le h, List.append_nil]
theorem list8 {l : List Int} (h : l.length = 8) : ∃ b0 b1 b2 b3 b4 b5 b6 b7, l = [b0, b1, b2, b3, b4, b5, b6, b7] := by
  match l, h with
  | [b0, b1, b2, b3, b4, b5, b6, b7], _ => exact ⟨b0, b1, b2, b3, b4, b5, b6, b7, rfl⟩
set_option maxHeartbeats 4000000 in
theorem pick_any (a0 a1 a2 a3 a4 a5 a6 a7 : Int) (p : Nat) (w : World) (hp : p < 8) (hb : ∀ x ∈ [a0, a1, a2, a3, a4, a5, a6, a7], 0 ≤ x ∧ x ≤ 1000000) :
    Calls Try.prog 31 #[.agg #[.int .i64 a0, .int .i64 a1, .int .i64 a2, .int .i64 a3, .int .i64 a4, .int .i64 a5, .int .i64 a6, .int .i64 a7], .int .i64 p] w fun e w' => (∃ b0 b1 b2 b3 b4 b5 b6 b7, e = .returned (.agg #[.int .i64 b0, .int .i64 b1, .int .i64 b2, .int .i64 b3, .int .i64 b4, .int .i64 b5, .int .i64 b6, .int .i64 b7]) ∧ [b0, b1, b2, b3, b4, b5, b6, b7] = pickL [a0, a1, a2, a3, a4, a5, a6, a7] p) ∧ Below w.heap.size w w' := by
  obtain ⟨l, hl⟩ : ∃ l : List Int, l = [a0, a1, a2, a3, a4, a5, a6, a7] := ⟨_, rfl⟩
  have HL := hid hl
  have hl8 : l.length = 8 := by rw [hl]; rfl
  rw [← hl] at hb ⊢
  have HBD := hid hb; have HB := hid (Below.refl w.heap.size w)
  clear hb hl
  have bx := below_box w (.cells #[.int .i64 a0, .int .i64 a1, .int .i64 a2, .int .i64 a3, .int .i64 a4, .int .i64 a5, .int .i64 a6, .int .i64 a7] 47)
  replace HB := hid (below_then HB.out bx)
  clear bx
  have PA := hid (Blk.new w 47 #[.int .i64 a0, .int .i64 a1, .int .i64 a2, .int .i64 a3, .int .i64 a4, .int .i64 a5, .int .i64 a6, .int .i64 a7])
  have bx := below_box (w.alloc (.cells #[.int .i64 a0, .int .i64 a1, .int .i64 a2, .int .i64 a3, .int .i64 a4, .int .i64 a5, .int .i64 a6, .int .i64 a7] 47)) (.cells #[.int .i64 0, .int .i64 0, .int .i64 0, .int .i64 0, .int .i64 0, .int .i64 0, .int .i64 0, .int .i64 0] 47)
  replace PA := hid (PA.out.step bx); replace HB := hid (below_then HB.out bx)
  clear bx
  have PZ := hid (Blk.new2 w 47 #[.int .i64 0, .int .i64 0, .int .i64 0, .int .i64 0, .int .i64 0, .int .i64 0, .int .i64 0, .int .i64 0] (.cells #[.int .i64 a0, .int .i64 a1, .int .i64 a2, .int .i64 a3, .int .i64 a4, .int .i64 a5, .int .i64 a6, .int .i64 a7] 47))
  go_enter Try.func31, Try.ntmps31
  go_wp2_with fail
  have hz0 := hid (show ((w.alloc (.cells #[.int .i64 a0, .int .i64 a1, .int .i64 a2, .int .i64 a3, .int .i64 a4, .int .i64 a5, .int .i64 a6, .int .i64 a7] 47)).alloc (.cells #[.int .i64 0, .int .i64 0, .int .i64 0, .int .i64 0, .int .i64 0, .int .i64 0, .int .i64 0, .int .i64 0] 47)).heap.size = w.heap.size + 2 by simp)
  generalize (w.alloc (.cells #[.int .i64 a0, .int .i64 a1, .int .i64 a2, .int .i64 a3, .int .i64 a4, .int .i64 a5, .int .i64 a6, .int .i64 a7] 47)).alloc (.cells #[.int .i64 0, .int .i64 0, .int .i64 0, .int .i64 0, .int .i64 0, .int .i64 0, .int .i64 0, .int .i64 0] 47) = W0 at *
  have PB := hid (show Blk W0 w.heap.size 47 (A8 (incL l 0)) from by rw [HL.out]; exact PA.out)
  clear PA
  go_loopw [6] (fun i wr => ∃ j : Nat, j ≤ 8 ∧ i = .int .i64 j ∧ Below w.heap.size w wr ∧ Blk wr w.heap.size 47 (A8 (incL l j)) ∧ Blk wr (w.heap.size + 1) 47 #[.int .i64 0, .int .i64 0, .int .i64 0, .int .i64 0, .int .i64 0, .int .i64 0, .int .i64 0, .int .i64 0]) (fun i _ => 8 - (intOf i).toNat)
  case atStart => exact ⟨0, Nat.zero_le _, rfl, HB.out, PB.out, PZ.out⟩
  case round =>
    clear PB PZ HB
    obtain ⟨j, hj, rfl, h1, h2, h3⟩ := hrel
    have HB := hid h1; have PB := hid h2; have PZ := hid h3
    clear h1 h2 h3
    by_cases hjn : j < 8
    · skip
      obtain ⟨x, hx⟩ : ∃ x, x = l[j]?.getD 0 := ⟨_, rfl⟩
      have hji : (j : Int) < 8 := by omega
      have hxb := all_at.1 HBD.out j (by omega)
      rw [← hx] at hxb
      have hw1 : IntKind.i64.wrap (x + 1) = x + 1 := by rw [IntKind.wrap_i64]; omega
      have hw2 : IntKind.i64.wrap ((j : Int) + 1) = (j : Int) + 1 := by rw [IntKind.wrap_i64]; omega
      have f0 : wr.cell? ⟨w.heap.size, j, none⟩ = some (.int .i64 x) := by rw [PB.out.cell, A8_get (by rw [incL_len]; omega), incL_get (by omega), ← hx]
      have hfz := PB.out.frozen
      have hnext : A8 (incL l (j + 1)) = (A8 (incL l j)).setIfInBounds j (.int .i64 (x + 1)) := by rw [A8_set, hx, incL_set (by omega)]
      have HN := hid hnext
      clear hx hxb hnext
      go_wp2
      go_roundw
      case rel => exact ⟨j + 1, by omega, by go_num, HB.out.setCell (by simp) _, by rw [HN.out]; exact PB.out.setCell j _, PZ.out.far (by simp) _⟩
      case measure => simp [intOf]; omega
    obtain rfl : j = 8 := by omega
    have hpi : (p : Int) < 8 := by omega
    have hPL := hid (show (pickL l p).length = 8 by unfold pickL; simp [hl8])
    obtain ⟨b0, b1, b2, b3, b4, b5, b6, b7, hb⟩ := list8 hPL.out
    have PF := hid (show Blk (wr.setCell ⟨w.heap.size, p, none⟩ (.int .i64 0)) w.heap.size 47 #[.int .i64 b0, .int .i64 b1, .int .i64 b2, .int .i64 b3, .int .i64 b4, .int .i64 b5, .int .i64 b6, .int .i64 b7] from by
      have h := PB.out.setCell p (.int .i64 0)
      rw [A8_set, incL_all (by omega)] at h
      rw [show pickL l p = (l.map (· + 1)).set p 0 from rfl] at hb
      rw [hb] at h
      exact h)
    have HBL := hid hb
    clear hb
    have hfz := PB.out.frozen
    have PZ2 := hid (PZ.out.far (p := ⟨w.heap.size, p, none⟩) (by simp) (.int .i64 0))
    have HB2 := hid (HB.out.setCell (p := ⟨w.heap.size, p, none⟩) (by simp) (.int .i64 0))
    have f0 := PB.out.cell p
    rw [A8_get (by rw [incL_len]; omega)] at f0
    go_upto_region 7 with fail
    clear f0 hfz PB PZ HB
    generalize wr.setCell ⟨w.heap.size, p, none⟩ (.int .i64 0) = W2 at *
    obtain ⟨y00, y01, y02, y03, y04, y05, y06, y07, yf0⟩ := PF.out.cells8
    obtain ⟨z0, z1, z2, z3, z4, z5, z6, z7, zf⟩ := PZ2.out.cells8
    go_wp2
    clear y00 y01 y02 y03 y04 y05 y06 y07 yf0 z0 z1 z2 z3 z4 z5 z6 z7 zf
    have hbk0 : Blk (W2.setCell ⟨w.heap.size + 1, 0, none⟩ (.int .i64 b0)) (w.heap.size + 1) 47 #[.int .i64 b0, .int .i64 0, .int .i64 0, .int .i64 0, .int .i64 0, .int .i64 0, .int .i64 0, .int .i64 0] := PZ2.out.setCell 0 (.int .i64 b0)
    have hbk1 : Blk ((W2.setCell ⟨w.heap.size + 1, 0, none⟩ (.int .i64 b0)).setCell ⟨w.heap.size + 1, 1, none⟩ (.int .i64 b1)) (w.heap.size + 1) 47 #[.int .i64 b0, .int .i64 b1, .int .i64 0, .int .i64 0, .int .i64 0, .int .i64 0, .int .i64 0, .int .i64 0] := hbk0.setCell 1 (.int .i64 b1)
    have hbk2 : Blk (((W2.setCell ⟨w.heap.size + 1, 0, none⟩ (.int .i64 b0)).setCell ⟨w.heap.size + 1, 1, none⟩ (.int .i64 b1)).setCell ⟨w.heap.size + 1, 2, none⟩ (.int .i64 b2)) (w.heap.size + 1) 47 #[.int .i64 b0, .int .i64 b1, .int .i64 b2, .int .i64 0, .int .i64 0, .int .i64 0, .int .i64 0, .int .i64 0] := hbk1.setCell 2 (.int .i64 b2)
    have hbk3 : Blk ((((W2.setCell ⟨w.heap.size + 1, 0, none⟩ (.int .i64 b0)).setCell ⟨w.heap.size + 1, 1, none⟩ (.int .i64 b1)).setCell ⟨w.heap.size + 1, 2, none⟩ (.int .i64 b2)).setCell ⟨w.heap.size + 1, 3, none⟩ (.int .i64 b3)) (w.heap.size + 1) 47 #[.int .i64 b0, .int .i64 b1, .int .i64 b2, .int .i64 b3, .int .i64 0, .int .i64 0, .int .i64 0, .int .i64 0] := hbk2.setCell 3 (.int .i64 b3)
    have hbk4 : Blk (((((W2.setCell ⟨w.heap.size + 1, 0, none⟩ (.int .i64 b0)).setCell ⟨w.heap.size + 1, 1, none⟩ (.int .i64 b1)).setCell ⟨w.heap.size + 1, 2, none⟩ (.int .i64 b2)).setCell ⟨w.heap.size + 1, 3, none⟩ (.int .i64 b3)).setCell ⟨w.heap.size + 1, 4, none⟩ (.int .i64 b4)) (w.heap.size + 1) 47 #[.int .i64 b0, .int .i64 b1, .int .i64 b2, .int .i64 b3, .int .i64 b4, .int .i64 0, .int .i64 0, .int .i64 0] := hbk3.setCell 4 (.int .i64 b4)
    have hbk5 : Blk ((((((W2.setCell ⟨w.heap.size + 1, 0, none⟩ (.int .i64 b0)).setCell ⟨w.heap.size + 1, 1, none⟩ (.int .i64 b1)).setCell ⟨w.heap.size + 1, 2, none⟩ (.int .i64 b2)).setCell ⟨w.heap.size + 1, 3, none⟩ (.int .i64 b3)).setCell ⟨w.heap.size + 1, 4, none⟩ (.int .i64 b4)).setCell ⟨w.heap.size + 1, 5, none⟩ (.int .i64 b5)) (w.heap.size + 1) 47 #[.int .i64 b0, .int .i64 b1, .int .i64 b2, .int .i64 b3, .int .i64 b4, .int .i64 b5, .int .i64 0, .int .i64 0] := hbk4.setCell 5 (.int .i64 b5)
    have hbk6 : Blk (((((((W2.setCell ⟨w.heap.size + 1, 0, none⟩ (.int .i64 b0)).setCell ⟨w.heap.size + 1, 1, none⟩ (.int .i64 b1)).setCell ⟨w.heap.size + 1, 2, none⟩ (.int .i64 b2)).setCell ⟨w.heap.size + 1, 3, none⟩ (.int .i64 b3)).setCell ⟨w.heap.size + 1, 4, none⟩ (.int .i64 b4)).setCell ⟨w.heap.size + 1, 5, none⟩ (.int .i64 b5)).setCell ⟨w.heap.size + 1, 6, none⟩ (.int .i64 b6)) (w.heap.size + 1) 47 #[.int .i64 b0, .int .i64 b1, .int .i64 b2, .int .i64 b3, .int .i64 b4, .int .i64 b5, .int .i64 b6, .int .i64 0] := hbk5.setCell 6 (.int .i64 b6)
    have hbk7 : Blk ((((((((W2.setCell ⟨w.heap.size + 1, 0, none⟩ (.int .i64 b0)).setCell ⟨w.heap.size + 1, 1, none⟩ (.int .i64 b1)).setCell ⟨w.heap.size + 1, 2, none⟩ (.int .i64 b2)).setCell ⟨w.heap.size + 1, 3, none⟩ (.int .i64 b3)).setCell ⟨w.heap.size + 1, 4, none⟩ (.int .i64 b4)).setCell ⟨w.heap.size + 1, 5, none⟩ (.int .i64 b5)).setCell ⟨w.heap.size + 1, 6, none⟩ (.int .i64 b6)).setCell ⟨w.heap.size + 1, 7, none⟩ (.int .i64 b7)) (w.heap.size + 1) 47 #[.int .i64 b0, .int .i64 b1, .int .i64 b2, .int .i64 b3, .int .i64 b4, .int .i64 b5, .int .i64 b6, .int .i64 b7] := hbk6.setCell 7 (.int .i64 b7)
    have hgr : W2.grownBy ((((((((W2.setCell ⟨w.heap.size + 1, 0, none⟩ (.int .i64 b0)).setCell ⟨w.heap.size + 1, 1, none⟩ (.int .i64 b1)).setCell ⟨w.heap.size + 1, 2, none⟩ (.int .i64 b2)).setCell ⟨w.heap.size + 1, 3, none⟩ (.int .i64 b3)).setCell ⟨w.heap.size + 1, 4, none⟩ (.int .i64 b4)).setCell ⟨w.heap.size + 1, 5, none⟩ (.int .i64 b5)).setCell ⟨w.heap.size + 1, 6, none⟩ (.int .i64 b6)).setCell ⟨w.heap.size + 1, 7, none⟩ (.int .i64 b7)) (some (w.heap.size + 1)) := (grown_set (grown_set (grown_set (grown_set (grown_set (grown_set (grown_set (grown_set (World.grownBy.refl W2 (some (w.heap.size + 1))) 0 (.int .i64 b0)) 1 (.int .i64 b1)) 2 (.int .i64 b2)) 3 (.int .i64 b3)) 4 (.int .i64 b4)) 5 (.int .i64 b5)) 6 (.int .i64 b6)) 7 (.int .i64 b7))
    replace PZ2 := hid hbk7
    clear hbk0 hbk1 hbk2 hbk3 hbk4 hbk5 hbk6 hbk7
    generalize (((((((W2.setCell ⟨w.heap.size + 1, 0, none⟩ (.int .i64 b0)).setCell ⟨w.heap.size + 1, 1, none⟩ (.int .i64 b1)).setCell ⟨w.heap.size + 1, 2, none⟩ (.int .i64 b2)).setCell ⟨w.heap.size + 1, 3, none⟩ (.int .i64 b3)).setCell ⟨w.heap.size + 1, 4, none⟩ (.int .i64 b4)).setCell ⟨w.heap.size + 1, 5, none⟩ (.int .i64 b5)).setCell ⟨w.heap.size + 1, 6, none⟩ (.int .i64 b6)).setCell ⟨w.heap.size + 1, 7, none⟩ (.int .i64 b7) = Wf at *
    obtain ⟨v0, v1, v2, v3, v4, v5, v6, v7, vf⟩ := PZ2.out.cells8
    refine bodyPost_ret (v := .agg #[.int .i64 b0, .int .i64 b1, .int .i64 b2, .int .i64 b3, .int .i64 b4, .int .i64 b5, .int .i64 b6, .int .i64 b7]) (by simp [results, Try.results31, go_sem, v0, v1, v2, v3, v4, v5, v6, v7]) rfl ⟨⟨b0, b1, b2, b3, b4, b5, b6, b7, rfl, HBL.out.symm⟩, HB2.out.grown hgr HB2.out.size (fun r e => by cases e; omega)⟩
end Go.Proofs.Ytijofgbealikaaa
