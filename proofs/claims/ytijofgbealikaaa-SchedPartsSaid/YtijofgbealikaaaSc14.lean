/- package sched: what Mend asks of waits (Mend$1). No condition but sizes. -/
import Derived.Test.YtijofgbealikaaaSc13
import Derived.Test.YtijofgbealikaaaSo
import Derived.Test.YtijofgbealikaaaKitA
import Derived.Deep.RegionHeld
namespace Go.Proofs.Ytijofgbealikaaa
open Go.RowKit Go.Sort
/-- can be gone on with: the waits, the longest one first, are at most k-1, k-2, .. -/
def canB (m : Nat) (kk : Int) (l : List Int) : Bool := decide (∀ i, i < m → (srt (l.take m))[m - 1 - i]?.getD 0 ≤ kk - 1 - i)
theorem srtCells_get {xs : List Int} {cs : Array Value} {j : Nat} (h : j < xs.length) : (srtCells xs cs)[j]? = some (.int .i64 ((srt xs)[j]?.getD 0)) := by
  have hl := srt_len xs
  unfold srtCells
  rw [List.getElem?_toArray, List.getElem?_append_left (by rw [List.length_map]; omega), List.getElem?_map, List.getElem?_eq_getElem (by omega)]
  rfl
set_option maxHeartbeats 4000000 in
theorem canm_any (a0 a1 a2 a3 a4 a5 a6 a7 : Int) (p m : Nat) (kk : Int) (g8 g3 g4 : Nat) (w : World) (hp : p < 8) (hm1 : 1 ≤ m) (hm : m ≤ 8) (hk : 0 ≤ kk ∧ kk ≤ 9223372036854775807) (hb : ∀ x ∈ [a0, a1, a2, a3, a4, a5, a6, a7], 0 ≤ x ∧ x ≤ 1000000) (h8 : Blk w g8 47 #[.int .i64 a0, .int .i64 a1, .int .i64 a2, .int .i64 a3, .int .i64 a4, .int .i64 a5, .int .i64 a6, .int .i64 a7]) (h3 : Blk w g3 3 #[.int .i64 m]) (h4 : Blk w g4 3 #[.int .i64 kk]) :
    Calls Try.prog 35 #[.int .i64 p, ptr g8, ptr g3, ptr g4] w fun e w' => e = .returned (.bool (canB m kk (pickL [a0, a1, a2, a3, a4, a5, a6, a7] p))) ∧ Below w.heap.size w w' := by
  have HB := hid (Below.refl w.heap.size w); have P8 := hid h8; have P3 := hid h3; have P4 := hid h4
  obtain ⟨l, hl⟩ : ∃ l : List Int, l = [a0, a1, a2, a3, a4, a5, a6, a7] := ⟨_, rfl⟩
  rw [← hl] at hb ⊢
  obtain ⟨L, hL⟩ : ∃ L, L = pickL l p := ⟨_, rfl⟩
  rw [← hL]
  have hlt0 := hid (show g3 < w.heap.size ∧ g4 < w.heap.size from ⟨h3.lt, h4.lt⟩)
  have HL := hid hl; have HBD := hid hb; have HLL := hid hL
  clear h8 h3 h4 hl hb hL
  obtain ⟨y00, y01, y02, y03, y04, y05, y06, y07, yf0⟩ := P8.out.cells8
  go_enter Try.func35, Try.ntmps35
  go_wp2_with fail
  clear y00 y01 y02 y03 y04 y05 y06 y07 yf0
  refine (pick_any a0 a1 a2 a3 a4 a5 a6 a7 p w hp (by rw [← HL.out]; exact HBD.out)).mono ?_
  rintro e w1 ⟨⟨b0, b1, b2, b3, b4, b5, b6, b7, rfl, hbl⟩, hb⟩
  have HW := hid (show [b0, b1, b2, b3, b4, b5, b6, b7] = L by rw [hbl, ← HL.out, HLL.out])
  clear hbl
  have hsz1 := hid hb.size
  replace P8 := hid (P8.out.step hb); replace P3 := hid (P3.out.step hb); replace P4 := hid (P4.out.step hb); replace HB := hid (below_then HB.out hb)
  clear hb
  have bx := below_box w1 (.cells #[.int .i64 b0, .int .i64 b1, .int .i64 b2, .int .i64 b3, .int .i64 b4, .int .i64 b5, .int .i64 b6, .int .i64 b7] 47)
  replace P8 := hid (P8.out.step bx); replace P3 := hid (P3.out.step bx); replace P4 := hid (P4.out.step bx); replace HB := hid (below_then HB.out bx)
  clear bx
  have PA := hid (Blk.new w1 47 #[.int .i64 b0, .int .i64 b1, .int .i64 b2, .int .i64 b3, .int .i64 b4, .int .i64 b5, .int .i64 b6, .int .i64 b7])
  have hs1 := hid (show w.heap.size < w1.heap.size + 1 by have := hsz1.out; omega)
  have hlts := hid (show g3 < w1.heap.size ∧ g4 < w1.heap.size by have := hlt0.out; have := hsz1.out; omega)
  obtain ⟨y00, yf0⟩ := P3.out.cells1
  have hcut := cut8 m hm
  go_wp2_with fail
  clear hcut y00 yf0
  have hz3 := hid (show (w1.alloc (.cells #[.int .i64 b0, .int .i64 b1, .int .i64 b2, .int .i64 b3, .int .i64 b4, .int .i64 b5, .int .i64 b6, .int .i64 b7] 47)).heap.size = w1.heap.size + 1 by simp)
  generalize w1.alloc (.cells #[.int .i64 b0, .int .i64 b1, .int .i64 b2, .int .i64 b3, .int .i64 b4, .int .i64 b5, .int .i64 b6, .int .i64 b7] 47) = W3 at *
  have hLl : L.length = 8 := by rw [← HW.out]; rfl
  have hLm : (L.take m).length = m := by rw [List.length_take]; omega
  refine (sort_blk w1.heap.size 47 _ m 8 (L.take m) W3 (show Blk W3 w1.heap.size 47 (A8 L) from by rw [← HW.out]; exact PA.out) hLm (fun j hj => by rw [A8_get (by omega), List.getElem?_take, if_pos hj]) (by omega)).mono ?_
  rintro e w4 ⟨rfl, hbk, hgr⟩
  have hne := hid (show g3 < w1.heap.size ∧ g4 < w1.heap.size from hlts.out)
  replace P3 := hid (P3.out.grown hgr (by have := hne.out; simp; omega)); replace P4 := hid (P4.out.grown hgr (by have := hne.out; simp; omega))
  replace HB := hid (HB.out.grown hgr HB.out.size (fun r e => by cases e; have := hs1.out; omega))
  have PB := hid hbk
  clear hbk hgr PA P8
  obtain ⟨y00, yf0⟩ := P3.out.cells1
  go_wp2_with fail
  clear y00 yf0
  go_loopw [17] (fun i wr => ∃ j : Nat, j ≤ m ∧ i = .int .i64 j ∧ Below w.heap.size w wr ∧ Blk wr g3 3 #[.int .i64 m] ∧ Blk wr g4 3 #[.int .i64 kk] ∧ Blk wr w1.heap.size 47 (srtCells (L.take m) (A8 L)) ∧ ∀ i, i < j → (srt (L.take m))[m - 1 - i]?.getD 0 ≤ kk - 1 - i) (fun i _ => m - (intOf i).toNat)
  case atStart => exact ⟨0, Nat.zero_le _, rfl, HB.out, P3.out, P4.out, PB.out, fun i hi => absurd hi (Nat.not_lt_zero _)⟩
  case round =>
    clear HB P3 P4 PB
    obtain ⟨j, hj, rfl, h1, h2, h3, h4, h5⟩ := hrel
    have HB := hid h1; have P3 := hid h2; have P4 := hid h3; have PB := hid h4; have HA := hid h5
    clear h1 h2 h3 h4 h5
    by_cases hjn : j < m
    rotate_left
    · obtain rfl : j = m := by omega
      have hnn : ¬ ((j : Int) < (j : Int)) := by omega
      have E := hid (show canB j kk L = true from decide_eq_true HA.out)
      go_wp2
      go_ret
      exact ⟨ret_bool E.out.symm, HB.out⟩
    have hji : (j : Int) < (m : Int) := by omega
    have hw2 : IntKind.i64.wrap ((j : Int) + 1) = (j : Int) + 1 := by rw [IntKind.wrap_i64]; omega
    have hw3 : IntKind.i64.wrap ((m : Int) - 1) = (m : Int) - 1 := by rw [IntKind.wrap_i64]; omega
    have hw4 : IntKind.i64.wrap ((m : Int) - 1 - (j : Int)) = ((m - 1 - j : Nat) : Int) := by rw [IntKind.wrap_i64]; omega
    have hw5 : IntKind.i64.wrap (kk - 1) = kk - 1 := by rw [IntKind.wrap_i64]; omega
    have hw6 : IntKind.i64.wrap (kk - 1 - (j : Int)) = kk - 1 - (j : Int) := by rw [IntKind.wrap_i64]; omega
    have hqi : ((m - 1 - j : Nat) : Int) < (m : Int) := by omega
    obtain ⟨x, hx⟩ : ∃ x, x = (srt (L.take m))[m - 1 - j]?.getD 0 := ⟨_, rfl⟩
    have hcell := fun W (h : Blk W w1.heap.size 47 (srtCells (L.take m) (A8 L))) => (show W.cell? ⟨w1.heap.size, m - 1 - j, none⟩ = some (.int .i64 x) from by rw [h.cell, srtCells_get (by omega), hx])
    have HC := hid hcell; have HX := hid hx
    clear hcell hx
    go_wp2_with fail
    have bx := (Below.refl wr.heap.size wr).drew
    replace P3 := hid (P3.out.step bx); replace P4 := hid (P4.out.step bx); replace PB := hid (PB.out.step bx); replace HB := hid (below_then HB.out bx)
    clear bx
    have hszd := hid (show wr.drew.heap.size = wr.heap.size from rfl)
    refine wp_region_noPanic ?_
    refine wp_region_held_drew (S := (fun W' : World => W'.cell? ⟨g3, 0, none⟩ = some (.int .i64 m) ∧ W'.cell? ⟨g4, 0, none⟩ = some (.int .i64 kk) ∧ W'.cell? ⟨w1.heap.size, m - 1 - j, none⟩ = some (.int .i64 x))) (by kernel_rfl) ⟨P3.out.cells1.1, P4.out.cells1.1, (HC.out _ PB.out)⟩ (fun hS => ?_)
    generalize wr.drew = Wd at *
    refine wpAnyH_take (i := 0) (v := ?_) (by simp only [List.getElem?_toArray, List.getElem?_cons_succ, List.getElem?_cons_zero]; rfl) (by kernel_rfl) (by kernel_rfl) (by kernel_rfl) (fun _ _ _ h => h) (Or.inl ⟨by rfl, ?_⟩) hS ?_
    rotate_left
    · intro w' hSw; (try dsimp only at hSw); go_split_ands; go_simp; (try with_reducible rfl)
    (try simp only [Act.put, List.setIfInBounds_toArray, List.set_cons_zero, List.set_cons_succ])
    refine wpAnyH_take (i := 1) (v := ?_) (by simp only [List.getElem?_toArray, List.getElem?_cons_succ, List.getElem?_cons_zero]; rfl) (by kernel_rfl) (by kernel_rfl) (by kernel_rfl) (fun _ _ _ h => h) (Or.inl ⟨by rfl, ?_⟩) hS ?_
    rotate_left
    · intro w' hSw; (try dsimp only at hSw); go_split_ands; go_simp; (try with_reducible rfl)
    (try simp only [Act.put, List.setIfInBounds_toArray, List.set_cons_zero, List.set_cons_succ])
    refine wpAnyH_take (i := 2) (v := ?_) (by simp only [List.getElem?_toArray, List.getElem?_cons_succ, List.getElem?_cons_zero]; rfl) (by kernel_rfl) (by kernel_rfl) (by kernel_rfl) (fun _ _ _ h => h) (Or.inl ⟨by rfl, ?_⟩) hS ?_
    rotate_left
    · intro w' hSw; (try dsimp only at hSw); go_split_ands; go_simp; (try with_reducible rfl)
    (try simp only [Act.put, List.setIfInBounds_toArray, List.set_cons_zero, List.set_cons_succ])
    refine wpAnyH_take (i := 3) (v := ?_) (by simp only [List.getElem?_toArray, List.getElem?_cons_succ, List.getElem?_cons_zero]; rfl) (by kernel_rfl) (by kernel_rfl) (by kernel_rfl) (fun _ _ _ h => h) (Or.inl ⟨by rfl, ?_⟩) hS ?_
    rotate_left
    · intro w' hSw; (try dsimp only at hSw); go_split_ands; go_simp; (try with_reducible rfl)
    (try simp only [Act.put, List.setIfInBounds_toArray, List.set_cons_zero, List.set_cons_succ])
    refine wpAnyH_take (i := 4) (v := ?_) (by simp only [List.getElem?_toArray, List.getElem?_cons_succ, List.getElem?_cons_zero]; rfl) (by kernel_rfl) (by kernel_rfl) (by kernel_rfl) (fun _ _ _ h => h) (Or.inl ⟨by rfl, ?_⟩) hS ?_
    rotate_left
    · intro w' hSw; (try dsimp only at hSw); go_split_ands; go_simp; (try with_reducible rfl)
    (try simp only [Act.put, List.setIfInBounds_toArray, List.set_cons_zero, List.set_cons_succ])
    refine wpAnyH_take (i := 5) (v := ?_) (by simp only [List.getElem?_toArray, List.getElem?_cons_succ, List.getElem?_cons_zero]; rfl) (by kernel_rfl) (by kernel_rfl) (by kernel_rfl) (fun _ _ _ h => h) (Or.inl ⟨by rfl, ?_⟩) hS ?_
    rotate_left
    · intro w' hSw; (try dsimp only at hSw); go_split_ands; go_simp; (try with_reducible rfl)
    (try simp only [Act.put, List.setIfInBounds_toArray, List.set_cons_zero, List.set_cons_succ])
    refine wpAnyH_take (i := 6) (v := ?_) (by simp only [List.getElem?_toArray, List.getElem?_cons_succ, List.getElem?_cons_zero]; rfl) (by kernel_rfl) (by kernel_rfl) (by kernel_rfl) (fun _ _ _ h => h) (Or.inl ⟨by rfl, ?_⟩) hS ?_
    rotate_left
    · intro w' hSw; (try dsimp only at hSw); go_split_ands; go_simp; (try with_reducible rfl)
    (try simp only [Act.put, List.setIfInBounds_toArray, List.set_cons_zero, List.set_cons_succ])
    refine wpAnyH_take (i := 7) (v := ?_) (by simp only [List.getElem?_toArray, List.getElem?_cons_succ, List.getElem?_cons_zero]; rfl) (by kernel_rfl) (by kernel_rfl) (by kernel_rfl) (fun _ _ _ h => h) (Or.inl ⟨by rfl, ?_⟩) hS ?_
    rotate_left
    · intro w' hSw; (try dsimp only at hSw); go_split_ands; go_simp; (try with_reducible rfl)
    (try simp only [Act.put, List.setIfInBounds_toArray, List.set_cons_zero, List.set_cons_succ])
    refine wpAnyH_take (i := 8) (v := ?_) (by simp only [List.getElem?_toArray, List.getElem?_cons_succ, List.getElem?_cons_zero]; rfl) (by kernel_rfl) (by kernel_rfl) (by kernel_rfl) (fun _ _ _ h => h) (Or.inl ⟨by rfl, ?_⟩) hS ?_
    rotate_left
    · intro w' hSw; (try dsimp only at hSw); go_split_ands; go_simp; (try with_reducible rfl)
    (try simp only [Act.put, List.setIfInBounds_toArray, List.set_cons_zero, List.set_cons_succ])
    refine wpAnyH_take (i := 9) (v := ?_) (by simp only [List.getElem?_toArray, List.getElem?_cons_succ, List.getElem?_cons_zero]; rfl) (by kernel_rfl) (by kernel_rfl) (by kernel_rfl) (fun _ _ _ h => h) (Or.inl ⟨by rfl, ?_⟩) hS ?_
    rotate_left
    · intro w' hSw; (try dsimp only at hSw); go_split_ands; go_simp; (try with_reducible rfl)
    (try simp only [Act.put, List.setIfInBounds_toArray, List.set_cons_zero, List.set_cons_succ])
    refine wpAnyH_take (i := 10) (v := ?_) (by simp only [List.getElem?_toArray, List.getElem?_cons_succ, List.getElem?_cons_zero]; rfl) (by kernel_rfl) (by kernel_rfl) (by kernel_rfl) (fun _ _ _ h => h) (Or.inl ⟨by rfl, ?_⟩) hS ?_
    rotate_left
    · intro w' hSw; (try dsimp only at hSw); go_split_ands; go_simp; (try with_reducible rfl)
    (try simp only [Act.put, List.setIfInBounds_toArray, List.set_cons_zero, List.set_cons_succ])
    refine wpAnyH_take (i := 11) (v := ?_) (by simp only [List.getElem?_toArray, List.getElem?_cons_succ, List.getElem?_cons_zero]; rfl) (by kernel_rfl) (by kernel_rfl) (by kernel_rfl) (fun _ _ _ h => h) (Or.inl ⟨by rfl, ?_⟩) hS ?_
    rotate_left
    · intro w' hSw; (try dsimp only at hSw); go_split_ands; go_simp; (try with_reducible rfl)
    (try simp only [Act.put, List.setIfInBounds_toArray, List.set_cons_zero, List.set_cons_succ])
    refine wpAnyH_done (by kernel_rfl) ?_ _
    refine NoPanic.normal ?_
    clear hS
    by_cases hlt : kk - 1 - (j : Int) < x
    · have d1 : decide (kk - 1 - (j : Int) < x) = true := decide_eq_true hlt
      have E := hid (show canB m kk L = false from decide_eq_false (fun h => by have := h j hjn; rw [← HX.out] at this; omega))
      clear hlt
      rw [d1]
      clear d1
      go_wp2
      go_ret
      exact ⟨ret_bool E.out.symm, HB.out⟩
    have d1 : decide (kk - 1 - (j : Int) < x) = false := decide_eq_false hlt
    have HN := hid (show (srt (L.take m))[m - 1 - j]?.getD 0 ≤ kk - 1 - (j : Int) by rw [← HX.out]; omega)
    clear hlt
    rw [d1]
    clear d1
    go_wp2_with fail
    go_roundw
    case rel => exact ⟨j + 1, by omega, by go_num, HB.out, P3.out, P4.out, PB.out, fun i hi => by
      rcases Nat.lt_or_ge i j with h | h
      · exact HA.out i h
      · obtain rfl : i = j := by omega
        exact HN.out⟩
    case measure => simp [intOf]; omega
end Go.Proofs.Ytijofgbealikaaa
