/- package pool: Taken; Same. No condition but sizes. -/
import Derived.Test.YtlidbiaadoigeaaPool3
namespace Go.Proofs.Ytlidbiaadoigeaa
open Go.RowKit

/-! ### Taken -/
def filtL (xs : List Int) (k : Nat) : List Int := ((List.range k).map fun j : Nat => (j : Int)).filter fun x => decide (x ∉ xs)
theorem filtL_succ_in {xs : List Int} {k : Nat} (h : (k : Int) ∈ xs) : filtL xs (k + 1) = filtL xs k := by simp [filtL, List.range_succ, h]
theorem filtL_succ_out {xs : List Int} {k : Nat} (h : (k : Int) ∉ xs) : filtL xs (k + 1) = filtL xs k ++ [(k : Int)] := by simp [filtL, List.range_succ, h]
theorem filtL_le (xs : List Int) (k : Nat) : (filtL xs k).length ≤ k := by
  unfold filtL; exact Nat.le_trans (List.length_filter_le _ _) (by simp)
def takenL (base pages : Int) (xs : List Int) : List Int := if freeB base pages xs = true then filtL xs pages.toNat else []

set_option maxHeartbeats 2000000 in
theorem taken_any (base pages : Int) (A : Option Addr) (n c lo : Nat) (xs : List Int) (w : World) (h : Sl i64 0 w lo w.heap.size A n xs) (hn : n ≤ 1000000) :
    Calls Try.prog 18 #[pv base pages A n c] w fun e w' => ∃ A' m c', e = .returned (.slice A' m c') ∧ Ow i64 w' w.heap.size 3 A' m c' (takenL base pages xs) ∧ Below w.heap.size w w' := by
  have H := hid (free_any base pages A n c lo xs _ (h.boxed (.cells #[.int .i64 base, .int .i64 pages, .slice A n c] 24)) hn)
  obtain ⟨i0, hi0, hz00, hz01, hz02⟩ := info_parts info_int
  clear h
  go_enter Try.func18, Try.ntmps18
  go_wp2_with fail
  refine H.out.mono ?_
  rintro e w1 ⟨fl, rfl, hs, h1, hfl, hb⟩
  have HS := hid hs; have H1 := hid h1; have HF := hid hfl; clear hs h1 hfl H
  have b0 := (Blk.new w 24 #[.int .i64 base, .int .i64 pages, .slice A n c]).below hb (by simp <;> omega)
  have hB : Below w.heap.size w w1 := bcell_box hb
  have hz : w.heap.size + 1 ≤ w1.heap.size := by have := hb.size; simp at this; omega
  obtain ⟨k0, k1, k2, kf⟩ := ((b0.alloc (.cells F0 57)).farRow (cs' := fl) (k := w1.heap.size) (by omega)).cells3
  clear hb
  by_cases hf : freeB base pages xs = true
  · have hs := sizedB_iff.1 (freeB_sized hf)
    have hf' : freeB base pages xs = true := hf
    rw [hf]
    obtain ⟨P, rfl⟩ := Int.eq_ofNat_of_zero_le hs.2.2.2.1
    have hP : P ≤ 64 := by omega
    have HFF := hid (HF.out hf)
    have HT := hid (show takenL base P xs = filtL xs P by rw [takenL, if_pos hf, Int.toNat_natCast])
    clear hs hf hf' HF
    go_wp2_with (first | (with_reducible refine wpList_alloc_as rfl 57 rfl F0 zF0 ?_) | (with_reducible refine wpList_store_blk rfl 57 _ _ rfl _ fl rfl rfl 57 F0 64 ?_ sF0 HS.out hi57 H1.out ?_; focus (first | (refine Blk.at ?_; simp; done) | (refine Blk.alloc (Blk.at ?_) _; simp; done))))
    go_loopw [16, 5] (fun i v wr => ∃ k : Nat, ∃ A m c, k ≤ P ∧ i = .int .i64 k ∧ v = .slice A m c ∧ Blk wr w1.heap.size 57 fl ∧
      Ow i64 wr (w1.heap.size + 1) 3 A m c (filtL xs k) ∧ Below w.heap.size w wr ∧ w1.heap.size + 1 ≤ wr.heap.size) (fun i _ _ => P - (intOf i).toNat)
    case atStart => exact ⟨0, none, 0, 0, Nat.zero_le _, rfl, rfl, (Blk.new _ _ _).setRow, Ow.nil _ _ _, (by repeat (first | (with_reducible exact hB) | (with_reducible refine Below.setCell ?_ ?_ _; rotate_left; focus (first | omega | (simp; done) | (simp; omega) | (simp only [World.size_alloc, size_setRow, World.size_setCell]; omega))) | (with_reducible refine below_setRow ?_ ?_ _; rotate_left; focus (first | omega | (simp; done) | (simp; omega) | (simp only [World.size_alloc, size_setRow, World.size_setCell]; omega))) | (with_reducible refine Below.alloc ?_ ?_ _; rotate_left; focus (first | omega | (simp; done) | (simp; omega) | (simp only [World.size_alloc, size_setRow, World.size_setCell]; omega))) | (with_reducible refine Below.drew ?_) | (with_reducible refine below_drewN ?_ _) | (with_reducible exact Below.refl _ _))), by simp⟩
    case round =>
      obtain ⟨k, A', m, c', hk, rfl, rfl, hb1, hown, hBr, hsz⟩ := hrel
      by_cases hlt : k < P
      · have cf : wr.cell? ⟨w1.heap.size, k, none⟩ = some (.bool (decide ((k : Int) ∈ xs))) := by rw [hb1.cell, HFF.out.2.2 k (by omega)]
        have hm : m ≤ 64 := by have := filtL_le xs k; rw [hown.len] at this; omega
        by_cases hin : (k : Int) ∈ xs
        · have e : decide ((k : Int) ∈ xs) = true := by simpa using hin
          rw [e] at cf
          have HI := hid hin; clear hin e
          go_wp2
          go_roundw
          case rel => exact ⟨k + 1, A', m, c', by omega, by go_num, rfl, hb1, by rw [filtL_succ_in HI.out]; exact hown, hBr, hsz⟩
          case measure => simp [intOf]; omega
        · have e : decide ((k : Int) ∈ xs) = false := by simpa using hin
          rw [e] at cf
          have HI := hid hin; clear hin e
          go_wp2_with (first | (at_builtin; refine wpList_app i64 0 _ rfl _ _ 22 rfl (w1.heap.size + 1) 3 i0 _ 8 Try.underlying22 hi0 hz00 hz01 hz02 rfl _ _ _ (filtL xs k) rfl (hown.alloc _) _ _ _ 1 1 [(k : Int)] rfl (Sl.one' (by simp)) one_i64 (by simp only [maxLen]; omega) (by omega) (by simp <;> omega) ?_; intro A1 c1 w2 hown1 hg1 hat1))
          go_roundw
          case rel =>
            have hB1 : Below w.heap.size w w2 := (hBr.alloc hBr.size _).grown hg1 (by have := hBr.size; simp <;> omega) (fun g hg => by have := hown.row_ge g hg; omega)
            exact ⟨k + 1, A1, m + 1, c1, by omega, by go_num, rfl, (hb1.alloc _).grown hg1 (hown.ne_row (by omega)), by rw [filtL_succ_out HI.out]; exact hown1, hB1, by have := hg1.size; simp at this ⊢; omega⟩
          case measure => simp [intOf]; omega
      · obtain rfl : k = P := by omega
        go_wp2
        go_ret
        exact ⟨A', m, c', rfl, by rw [HT.out]; exact hown.mono (by omega), hBr⟩
  · have hf' : freeB base pages xs = false := by simpa using hf
    have HT := hid (show takenL base pages xs = [] by rw [takenL, if_neg hf])
    rw [hf']
    clear hf hf'
    go_wp2_with (first | (with_reducible refine wpList_alloc_as rfl 57 rfl F0 zF0 ?_) | (with_reducible refine wpList_store_blk rfl 57 _ _ rfl _ fl rfl rfl 57 F0 64 ?_ sF0 HS.out hi57 H1.out ?_; focus (first | (refine Blk.at ?_; simp; done) | (refine Blk.alloc (Blk.at ?_) _; simp; done))))
    go_ret
    exact ⟨none, 0, 0, rfl, by rw [HT.out]; exact Ow.nil _ _ _, (by repeat (first | (with_reducible exact hB) | (with_reducible refine Below.setCell ?_ ?_ _; rotate_left; focus (first | omega | (simp; done) | (simp; omega) | (simp only [World.size_alloc, size_setRow, World.size_setCell]; omega))) | (with_reducible refine below_setRow ?_ ?_ _; rotate_left; focus (first | omega | (simp; done) | (simp; omega) | (simp only [World.size_alloc, size_setRow, World.size_setCell]; omega))) | (with_reducible refine Below.alloc ?_ ?_ _; rotate_left; focus (first | omega | (simp; done) | (simp; omega) | (simp only [World.size_alloc, size_setRow, World.size_setCell]; omega))) | (with_reducible refine Below.drew ?_) | (with_reducible refine below_drewN ?_ _) | (with_reducible exact Below.refl _ _)))⟩

/-! ### Same -/
def SameP (b1 p1 : Int) (xs : List Int) (b2 p2 : Int) (ys : List Int) : Prop := b1 = b2 ∧ p1 = p2 ∧ xs = ys
end Go.Proofs.Ytlidbiaadoigeaa
