/- package pool: Same; afterglowref07: Same, Sized, Right. No condition but sizes. -/
import Derived.Test.YtlidbiaadoigeaaPool4
namespace Go.Proofs.Ytlidbiaadoigeaa
open Go.RowKit

def sameB (b1 p1 : Int) (xs : List Int) (b2 p2 : Int) (ys : List Int) : Bool := decide (b1 = b2 ∧ p1 = p2 ∧ xs = ys)

set_option maxHeartbeats 2000000 in
theorem same_any (b1 p1 b2 p2 : Int) (A B : Option Addr) (n c m c' lo lo' : Nat) (xs ys : List Int) (w : World) (hx : Sl i64 0 w lo w.heap.size A n xs) (hy : Sl i64 0 w lo' w.heap.size B m ys) (hn : n ≤ 1000000) (hm : m ≤ 1000000) :
    Calls Try.prog 20 #[pv b1 p1 A n c, pv b2 p2 B m c'] w fun e w' => e = .returned (.bool (sameB b1 p1 xs b2 p2 ys)) ∧ Below w.heap.size w w' := by
  by_cases h1 : b1 = b2
  · by_cases h2 : p1 = p2
    · have e1 : (b1 == b2) = true := by simp [h1]
      have e2 : (p1 == p2) = true := by simp [h2]
      have E := hid (show sameB b1 p1 xs b2 p2 ys = decide (xs = ys) by simp [sameB, h1, h2])
      have HX := hid hx; have HY := hid hy
      clear h1 h2 hx hy
      go_enter Try.func20, Try.ntmps20
      go_wp2_with fail
      refine (equal_int A B n c m c' _ _ _ _ xs ys _ ((HX.out.boxed _).boxed _) ((HY.out.boxed _).boxed _) hn hm).mono ?_
      rintro e w1 ⟨rfl, q, rfl⟩
      obtain ⟨r, hr⟩ : ∃ r, r = decide (xs = ys) := ⟨_, rfl⟩
      rw [← hr]
      have HR := hid hr
      clear hr
      go_wp2
      go_ret
      exact ⟨ret_bool (by rw [E.out, HR.out]), (by repeat (first | (with_reducible exact (Below.refl _ _)) | (with_reducible refine Below.setCell ?_ ?_ _; rotate_left; focus (first | omega | (simp; done) | (simp; omega) | (simp only [World.size_alloc, size_setRow, World.size_setCell]; omega))) | (with_reducible refine below_setRow ?_ ?_ _; rotate_left; focus (first | omega | (simp; done) | (simp; omega) | (simp only [World.size_alloc, size_setRow, World.size_setCell]; omega))) | (with_reducible refine Below.alloc ?_ ?_ _; rotate_left; focus (first | omega | (simp; done) | (simp; omega) | (simp only [World.size_alloc, size_setRow, World.size_setCell]; omega))) | (with_reducible refine Below.drew ?_) | (with_reducible refine below_drewN ?_ _) | (with_reducible exact Below.refl _ _)))⟩
    · have e1 : (b1 == b2) = true := by simp [h1]
      have e2 : (p1 == p2) = false := by simp [h2]
      have E := hid (show sameB b1 p1 xs b2 p2 ys = false by simp [sameB, h2])
      clear h1 h2 hx hy
      go_enter Try.func20, Try.ntmps20
      go_wp2
      go_ret
      exact ⟨ret_bool E.out.symm, (by repeat (first | (with_reducible exact (Below.refl _ _)) | (with_reducible refine Below.setCell ?_ ?_ _; rotate_left; focus (first | omega | (simp; done) | (simp; omega) | (simp only [World.size_alloc, size_setRow, World.size_setCell]; omega))) | (with_reducible refine below_setRow ?_ ?_ _; rotate_left; focus (first | omega | (simp; done) | (simp; omega) | (simp only [World.size_alloc, size_setRow, World.size_setCell]; omega))) | (with_reducible refine Below.alloc ?_ ?_ _; rotate_left; focus (first | omega | (simp; done) | (simp; omega) | (simp only [World.size_alloc, size_setRow, World.size_setCell]; omega))) | (with_reducible refine Below.drew ?_) | (with_reducible refine below_drewN ?_ _) | (with_reducible exact Below.refl _ _)))⟩
  · have e1 : (b1 == b2) = false := by simp [h1]
    have E := hid (show sameB b1 p1 xs b2 p2 ys = false by simp [sameB, h1])
    clear h1 hx hy
    go_enter Try.func20, Try.ntmps20
    go_wp2
    go_ret
    exact ⟨ret_bool E.out.symm, (by repeat (first | (with_reducible exact (Below.refl _ _)) | (with_reducible refine Below.setCell ?_ ?_ _; rotate_left; focus (first | omega | (simp; done) | (simp; omega) | (simp only [World.size_alloc, size_setRow, World.size_setCell]; omega))) | (with_reducible refine below_setRow ?_ ?_ _; rotate_left; focus (first | omega | (simp; done) | (simp; omega) | (simp only [World.size_alloc, size_setRow, World.size_setCell]; omega))) | (with_reducible refine Below.alloc ?_ ?_ _; rotate_left; focus (first | omega | (simp; done) | (simp; omega) | (simp only [World.size_alloc, size_setRow, World.size_setCell]; omega))) | (with_reducible refine Below.drew ?_) | (with_reducible refine below_drewN ?_ _) | (with_reducible exact Below.refl _ _)))⟩

end Go.Proofs.Ytlidbiaadoigeaa
