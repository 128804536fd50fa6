/- afterglowlaw07.own; package pool: New, Taken. No condition but sizes. -/
import Derived.Test.YtlidbiaadoigeaaPool2
namespace Go.Proofs.Ytlidbiaadoigeaa
open Go.RowKit

/-- a pool's value in a world: its row owned from lo on -/
def PoolIs (w : World) (lo : Nat) (base pages : Int) (xs : List Int) (v : Value) : Prop := ∃ A n c, v = pv base pages A n c ∧ Ow i64 w lo 3 A n c xs

set_option maxHeartbeats 1000000 in
theorem own_any (base pages : Int) (A : Option Addr) (n c lo : Nat) (xs : List Int) (w : World) (h : Sl i64 0 w lo w.heap.size A n xs) (hc : n ≤ c) :
    Calls Try.prog 8 #[pv base pages A n c] w fun e w' => ∃ A' c', e = .returned (pv base pages A' (min n 70) c') ∧ Ow i64 w' w.heap.size 3 A' (min n 70) c' (xs.take 70) ∧ Below w.heap.size w w' := by
  obtain ⟨m, hm, hmn, hm70⟩ : ∃ m, m = min n 70 ∧ m ≤ n ∧ m ≤ 70 := ⟨_, rfl, by omega, by omega⟩
  have e : xs.take 70 = xs.take m := by
    rw [List.take_eq_take_iff, h.len]; omega
  rw [← hm, e]
  have h2 := hid ((h.take hmn).boxed (.cells #[.int .i64 base, .int .i64 pages, .slice A n c] 24))
  clear e
  by_cases h70 : n ≤ 70
  · obtain rfl : m = n := by omega
    clear hm
    go_enter Try.func8, Try.ntmps8
    go_wp2_with fail
    refine (clone_int A m c lo _ _ (h2.out.boxed _) (by omega)).mono ?_
    rintro e w1 ⟨A1, c1, rfl, hown, hb⟩
    obtain ⟨k0, k1, k2, kf⟩ := (((Blk.new w _ _).alloc _).below hb (by simp <;> omega)).cells3
    obtain ⟨r0, r1, r2, rf⟩ := ((Blk.new2 w _ _ _).below hb (by simp <;> omega)).cells3
    go_wp2
    refine bodyPost_ret (v := pv base pages A1 m c1) (by simp [results, Try.results8, go_sem, k0, k1, k2, r0, r1, r2]) rfl ⟨A1, c1, rfl, ?_, ?_⟩
    · exact ((((hown.setCell (by simp <;> omega) _).setCell (by simp <;> omega) _).setCell (by simp <;> omega) _).setCell (by simp <;> omega) _).mono (by simp <;> omega)
    · have hB : Below w.heap.size w w1 := (((Below.refl _ w).alloc (Nat.le_refl _) _).alloc (by simp <;> omega) _).trans (hb.mono (by simp <;> omega))
      (repeat (first | (with_reducible exact hB) | (with_reducible refine Below.setCell ?_ ?_ _; rotate_left; focus (first | omega | (simp; done) | (simp; omega) | (simp only [World.size_alloc, size_setRow, World.size_setCell]; omega))) | (with_reducible refine below_setRow ?_ ?_ _; rotate_left; focus (first | omega | (simp; done) | (simp; omega) | (simp only [World.size_alloc, size_setRow, World.size_setCell]; omega))) | (with_reducible refine Below.alloc ?_ ?_ _; rotate_left; focus (first | omega | (simp; done) | (simp; omega) | (simp only [World.size_alloc, size_setRow, World.size_setCell]; omega))) | (with_reducible refine Below.drew ?_) | (with_reducible refine below_drewN ?_ _) | (with_reducible exact Below.refl _ _)))
  · obtain rfl : m = 70 := by omega
    have h70' : 70 ≤ n := hmn
    clear hm
    go_enter Try.func8, Try.ntmps8
    go_wp2_with fail
    refine (clone_int A 70 c lo _ _ (h2.out.boxed _) (by omega)).mono ?_
    rintro e w1 ⟨A1, c1, rfl, hown, hb⟩
    obtain ⟨k0, k1, k2, kf⟩ := (((Blk.new w _ _).alloc _).below hb (by simp <;> omega)).cells3
    obtain ⟨r0, r1, r2, rf⟩ := ((Blk.new2 w _ _ _).below hb (by simp <;> omega)).cells3
    go_wp2
    refine bodyPost_ret (v := pv base pages A1 70 c1) (by simp [results, Try.results8, go_sem, k0, k1, k2, r0, r1, r2]) rfl ⟨A1, c1, rfl, ?_, ?_⟩
    · exact ((((hown.setCell (by simp <;> omega) _).setCell (by simp <;> omega) _).setCell (by simp <;> omega) _).setCell (by simp <;> omega) _).mono (by simp <;> omega)
    · have hB : Below w.heap.size w w1 := (((Below.refl _ w).alloc (Nat.le_refl _) _).alloc (by simp <;> omega) _).trans (hb.mono (by simp <;> omega))
      (repeat (first | (with_reducible exact hB) | (with_reducible refine Below.setCell ?_ ?_ _; rotate_left; focus (first | omega | (simp; done) | (simp; omega) | (simp only [World.size_alloc, size_setRow, World.size_setCell]; omega))) | (with_reducible refine below_setRow ?_ ?_ _; rotate_left; focus (first | omega | (simp; done) | (simp; omega) | (simp only [World.size_alloc, size_setRow, World.size_setCell]; omega))) | (with_reducible refine Below.alloc ?_ ?_ _; rotate_left; focus (first | omega | (simp; done) | (simp; omega) | (simp only [World.size_alloc, size_setRow, World.size_setCell]; omega))) | (with_reducible refine Below.drew ?_) | (with_reducible refine below_drewN ?_ _) | (with_reducible exact Below.refl _ _)))

/-! ### New -/
def downL (pages : Int) (k : Nat) : List Int := (List.range k).map fun j : Nat => pages - 1 - (j : Int)
theorem downL_succ (pages : Int) (k : Nat) : downL pages (k + 1) = downL pages k ++ [pages - 1 - (k : Int)] := by simp [downL, List.range_succ]

set_option maxHeartbeats 1000000 in
theorem new_yes (base pages : Int) (w : World) (hs : sizedB base pages = true) :
    Calls Try.prog 23 #[.int .i64 base, .int .i64 pages] w fun e w' => ∃ A c, e = .returned (.tuple #[pv base pages A pages.toNat c, .int .i64 0]) ∧ Ow i64 w' w.heap.size 3 A pages.toNat c (downL pages pages.toNat) ∧ Below w.heap.size w w' := by
  have hz := sizedB_iff.1 hs
  obtain ⟨i0, hi0, hz00, hz01, hz02⟩ := info_parts info_int
  obtain ⟨P, rfl⟩ := Int.eq_ofNat_of_zero_le hz.2.2.2.1
  rw [Int.toNat_natCast]
  have hP : P ≤ 64 := by omega
  clear hz
  go_enter Try.func23, Try.ntmps23
  go_wp2_with (go_at_call 36; (with_reducible refine (sized_any _ _ _).mono ?_); rintro e w' ⟨rfl, rfl⟩)
  go_loopw [17] (fun i wr => ∃ k : Nat, ∃ A c, k ≤ P ∧ i = .int .i64 k ∧ Blk wr w.heap.size 24 #[.int .i64 0, .int .i64 0, .slice none 0 0] ∧ Blk wr (w.heap.size + 1) 24 #[.int .i64 base, .int .i64 P, .slice A k c] ∧
      Ow i64 wr (w.heap.size + 2) 3 A k c (downL P k) ∧ Below w.heap.size w wr ∧ w.heap.size + 2 ≤ wr.heap.size) (fun i _ => P - (intOf i).toNat)
  case atStart =>
    exact ⟨0, none, 0, Nat.zero_le _, rfl, (Blk.new _ _ _).alloc _, Blk.new2 _ _ _ _, Ow.nil _ _ _, (by repeat (first | (with_reducible exact (Below.refl _ _)) | (with_reducible refine Below.setCell ?_ ?_ _; rotate_left; focus (first | omega | (simp; done) | (simp; omega) | (simp only [World.size_alloc, size_setRow, World.size_setCell]; omega))) | (with_reducible refine below_setRow ?_ ?_ _; rotate_left; focus (first | omega | (simp; done) | (simp; omega) | (simp only [World.size_alloc, size_setRow, World.size_setCell]; omega))) | (with_reducible refine Below.alloc ?_ ?_ _; rotate_left; focus (first | omega | (simp; done) | (simp; omega) | (simp only [World.size_alloc, size_setRow, World.size_setCell]; omega))) | (with_reducible refine Below.drew ?_) | (with_reducible refine below_drewN ?_ _) | (with_reducible exact Below.refl _ _))), by simp⟩
  case round =>
    obtain ⟨k, A, c, hk, rfl, hb0, hb1, hown, hB, hsz⟩ := hrel
    obtain ⟨r0, r1, r2, rf⟩ := hb0.cells3
    obtain ⟨k0, k1, k2, kf⟩ := hb1.cells3
    by_cases hlt : k < P
    · go_wp2_with (first | (at_builtin; refine wpList_app i64 0 _ rfl _ _ 22 rfl (w.heap.size + 2) 3 i0 _ 8 Try.underlying22 hi0 hz00 hz01 hz02 rfl _ _ _ (downL P k) rfl (hown.alloc _) _ _ _ 1 1 [(P : Int) - 1 - (k : Int)] rfl (Sl.one' (by simp)) one_i64 (by simp only [maxLen]; omega) (by omega) (by simp <;> omega) ?_; intro A1 c1 w2 hown1 hg1 hat1; have b0 := (hb0.alloc _).grown hg1 (hown.ne_row (by omega)); have b1 := (hb1.alloc _).grown hg1 (hown.ne_row (by omega)); obtain ⟨m0, m1, m2, mf⟩ := b1.cells3))
      go_roundw
      case rel =>
        have hB1 : Below w.heap.size w w2 := (hB.alloc hB.size _).grown hg1 (by have := hB.size; simp <;> omega) (fun g hg => by have := hown.row_ge g hg; omega)
        exact ⟨k + 1, A1, c1, by omega, by go_num, b0.far (by simp) _, b1.setCell _ _, by rw [downL_succ]; exact hown1.setCell (by simp <;> omega) _, hB1.setCell (by simp <;> omega) _, by have := hg1.size; simp at this ⊢; omega⟩
      case measure => simp [intOf]; omega
    · obtain rfl : k = P := by omega
      go_wp2
      refine bodyPost_ret (v := .tuple #[pv base k A k c, .int .i64 0]) (by simp [results, Try.results23, go_sem, r0, r1, r2, k0, k1, k2]) rfl ⟨A, c, rfl, ?_, ?_⟩
      · exact (((hown.setCell (by simp <;> omega) _).setCell (by simp <;> omega) _).setCell (by simp <;> omega) _).mono (by omega)
      · (repeat (first | (with_reducible exact hB) | (with_reducible refine Below.setCell ?_ ?_ _; rotate_left; focus (first | omega | (simp; done) | (simp; omega) | (simp only [World.size_alloc, size_setRow, World.size_setCell]; omega))) | (with_reducible refine below_setRow ?_ ?_ _; rotate_left; focus (first | omega | (simp; done) | (simp; omega) | (simp only [World.size_alloc, size_setRow, World.size_setCell]; omega))) | (with_reducible refine Below.alloc ?_ ?_ _; rotate_left; focus (first | omega | (simp; done) | (simp; omega) | (simp only [World.size_alloc, size_setRow, World.size_setCell]; omega))) | (with_reducible refine Below.drew ?_) | (with_reducible refine below_drewN ?_ _) | (with_reducible exact Below.refl _ _)))
end Go.Proofs.Ytlidbiaadoigeaa
