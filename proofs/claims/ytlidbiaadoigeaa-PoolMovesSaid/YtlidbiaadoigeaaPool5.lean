/- package pool: Same; afterglowref07: Same, Sized, Right. No condition but sizes. -/
import Derived.Test.YtlidbiaadoigeaaPool4
namespace Go.Proofs.Ytlidbiaadoigeaa
open Go.RowKit

def sameB (b1 p1 : Int) (xs : List Int) (b2 p2 : Int) (ys : List Int) : Bool := decide (b1 = b2 ∧ p1 = p2 ∧ xs = ys)

set_option maxHeartbeats 2000000 in
theorem same_any (b1 p1 b2 p2 : Int) (A B : Option Addr) (n c m c' lo lo' : Nat) (xs ys : List Int) (w : World) (hx : Sl i64 0 w lo w.heap.size A n xs) (hy : Sl i64 0 w lo' w.heap.size B m ys) (hn : n ≤ 1000000) (hm : m ≤ 1000000) :
    Calls Try.prog 20 #[pv b1 p1 A n c, pv b2 p2 B m c'] w fun e w' => e = .returned (.bool (sameB b1 p1 xs b2 p2 ys)) ∧ Below w.heap.size w w' := by
  by_cases h1 : b1 = b2
  · by_cases h2 : p1 = p2
    · have e1 : (b1 == b2) = true := by simp [h1]
      have e2 : (p1 == p2) = true := by simp [h2]
      have E := hid (show sameB b1 p1 xs b2 p2 ys = decide (xs = ys) by simp [sameB, h1, h2])
      have HX := hid hx; have HY := hid hy
      clear h1 h2 hx hy
      go_enter Try.func20, Try.ntmps20
      go_wp2_with fail
      refine (equal_int A B n c m c' _ _ _ _ xs ys _ ((HX.out.boxed _).boxed _) ((HY.out.boxed _).boxed _) hn hm).mono ?_
      rintro e w1 ⟨rfl, q, rfl⟩
      obtain ⟨r, hr⟩ : ∃ r, r = decide (xs = ys) := ⟨_, rfl⟩
      rw [← hr]
      have HR := hid hr
      clear hr
      go_wp2
      go_ret
      exact ⟨ret_bool (by rw [E.out, HR.out]), (by repeat (first | (with_reducible exact (Below.refl _ _)) | (with_reducible refine Below.setCell ?_ ?_ _; rotate_left; focus (first | omega | (simp; done) | (simp; omega) | (simp only [World.size_alloc, size_setRow, World.size_setCell]; omega))) | (with_reducible refine below_setRow ?_ ?_ _; rotate_left; focus (first | omega | (simp; done) | (simp; omega) | (simp only [World.size_alloc, size_setRow, World.size_setCell]; omega))) | (with_reducible refine Below.alloc ?_ ?_ _; rotate_left; focus (first | omega | (simp; done) | (simp; omega) | (simp only [World.size_alloc, size_setRow, World.size_setCell]; omega))) | (with_reducible refine Below.drew ?_) | (with_reducible refine below_drewN ?_ _) | (with_reducible exact Below.refl _ _)))⟩
    · have e1 : (b1 == b2) = true := by simp [h1]
      have e2 : (p1 == p2) = false := by simp [h2]
      have E := hid (show sameB b1 p1 xs b2 p2 ys = false by simp [sameB, h2])
      clear h1 h2 hx hy
      go_enter Try.func20, Try.ntmps20
      go_wp2
      go_ret
      exact ⟨ret_bool E.out.symm, (by repeat (first | (with_reducible exact (Below.refl _ _)) | (with_reducible refine Below.setCell ?_ ?_ _; rotate_left; focus (first | omega | (simp; done) | (simp; omega) | (simp only [World.size_alloc, size_setRow, World.size_setCell]; omega))) | (with_reducible refine below_setRow ?_ ?_ _; rotate_left; focus (first | omega | (simp; done) | (simp; omega) | (simp only [World.size_alloc, size_setRow, World.size_setCell]; omega))) | (with_reducible refine Below.alloc ?_ ?_ _; rotate_left; focus (first | omega | (simp; done) | (simp; omega) | (simp only [World.size_alloc, size_setRow, World.size_setCell]; omega))) | (with_reducible refine Below.drew ?_) | (with_reducible refine below_drewN ?_ _) | (with_reducible exact Below.refl _ _)))⟩
  · have e1 : (b1 == b2) = false := by simp [h1]
    have E := hid (show sameB b1 p1 xs b2 p2 ys = false by simp [sameB, h1])
    clear h1 hx hy
    go_enter Try.func20, Try.ntmps20
    go_wp2
    go_ret
    exact ⟨ret_bool E.out.symm, (by repeat (first | (with_reducible exact (Below.refl _ _)) | (with_reducible refine Below.setCell ?_ ?_ _; rotate_left; focus (first | omega | (simp; done) | (simp; omega) | (simp only [World.size_alloc, size_setRow, World.size_setCell]; omega))) | (with_reducible refine below_setRow ?_ ?_ _; rotate_left; focus (first | omega | (simp; done) | (simp; omega) | (simp only [World.size_alloc, size_setRow, World.size_setCell]; omega))) | (with_reducible refine Below.alloc ?_ ?_ _; rotate_left; focus (first | omega | (simp; done) | (simp; omega) | (simp only [World.size_alloc, size_setRow, World.size_setCell]; omega))) | (with_reducible refine Below.drew ?_) | (with_reducible refine below_drewN ?_ _) | (with_reducible exact Below.refl _ _)))⟩

set_option maxHeartbeats 2000000 in
theorem rsame_any (b1 p1 b2 p2 : Int) (A B : Option Addr) (n c m c' lo lo' : Nat) (xs ys : List Int) (w : World) (hx : Sl i64 0 w lo w.heap.size A n xs) (hy : Sl i64 0 w lo' w.heap.size B m ys) (hn : n ≤ 1000000) (hm : m ≤ 1000000) :
    Calls Try.prog 11 #[pv b1 p1 A n c, pv b2 p2 B m c'] w fun e w' => e = .returned (.bool (sameB b1 p1 xs b2 p2 ys)) ∧ Below w.heap.size w w' := by
  by_cases h1 : b1 = b2
  · by_cases h2 : p1 = p2
    · by_cases h3 : n = m
      · subst h1 h2 h3
        have E := hid (show sameB b1 p1 xs b1 p1 ys = decide (xs = ys) by simp [sameB])
        have e1 : (b1 != b1) = false := by simp
        have e2 : (p1 != p1) = false := by simp
        have e3 : ((n : Int) != (n : Int)) = false := by simp
        have HX := hid hx; have HY := hid hy
        clear hx hy
        go_enter Try.func11, Try.ntmps11
        go_wp2
        go_loop [31] (fun i => ∃ k : Nat, k ≤ n ∧ i = .int .i64 k ∧ (∀ j, j < k → xs[j]?.getD 0 = ys[j]?.getD 0)) (fun i => n - (intOf i).toNat)
        case atStart => exact ⟨0, Nat.zero_le _, rfl, fun j hj => absurd hj (Nat.not_lt_zero _)⟩
        case round =>
          obtain ⟨k, hk, rfl, hall⟩ := hrel
          have HA := hid hall; clear hall
          by_cases hlt : k < n
          · have hx := (HX.out.boxed (.cells #[.int .i64 b1, .int .i64 p1, .slice A n c] 24)).boxed (.cells #[.int .i64 b1, .int .i64 p1, .slice B n c'] 24)
            have hy := (HY.out.boxed (.cells #[.int .i64 b1, .int .i64 p1, .slice A n c] 24)).boxed (.cells #[.int .i64 b1, .int .i64 p1, .slice B n c'] 24)
            obtain ⟨b, off, rfl, _, _, hc1⟩ := hx.row (by omega)
            obtain ⟨b', off', rfl, _, _, hc2⟩ := hy.row (by omega)
            clear hx hy
            have g1 := hc1 k hlt
            have g2 := hc2 k hlt
            clear hc1 hc2
            obtain ⟨x, hX⟩ : ∃ x, x = xs[k]?.getD 0 := ⟨_, rfl⟩
            obtain ⟨y, hY⟩ : ∃ y, y = ys[k]?.getD 0 := ⟨_, rfl⟩
            rw [← hX] at g1
            rw [← hY] at g2
            have HX' := hid hX; have HY' := hid hY
            clear hX hY
            by_cases hxy : x = y
            · have e4 : (x != y) = false := by simp [hxy]
              clear hxy
              go_wp2
              go_round
              case rel => exact ⟨k + 1, by omega, by go_num, below_succ HA.out (by rw [← HX'.out, ← HY'.out]; simpa using e4)⟩
              case measure => simp [intOf]; omega
            · have e4 : (x != y) = true := by simp [hxy]
              have hd : decide (xs = ys) = false := by
                simp only [decide_eq_false_iff_not]; rintro rfl; exact hxy (by rw [HX'.out, HY'.out])
              have HD := hid hd
              clear hxy hd
              go_wp2
              go_ret
              exact ⟨ret_bool (by rw [E.out, HD.out]), (by repeat (first | (with_reducible exact (Below.refl _ _)) | (with_reducible refine Below.setCell ?_ ?_ _; rotate_left; focus (first | omega | (simp; done) | (simp; omega) | (simp only [World.size_alloc, size_setRow, World.size_setCell]; omega))) | (with_reducible refine below_setRow ?_ ?_ _; rotate_left; focus (first | omega | (simp; done) | (simp; omega) | (simp only [World.size_alloc, size_setRow, World.size_setCell]; omega))) | (with_reducible refine Below.alloc ?_ ?_ _; rotate_left; focus (first | omega | (simp; done) | (simp; omega) | (simp only [World.size_alloc, size_setRow, World.size_setCell]; omega))) | (with_reducible refine Below.drew ?_) | (with_reducible refine below_drewN ?_ _) | (with_reducible exact Below.refl _ _)))⟩
          · obtain rfl : k = n := by omega
            have hd : decide (xs = ys) = true := by
              simp only [decide_eq_true_eq]; exact ext_getD HX.out.len HY.out.len HA.out
            have HD := hid hd
            clear hd
            go_wp2
            go_ret
            exact ⟨ret_bool (by rw [E.out, HD.out]), (by repeat (first | (with_reducible exact (Below.refl _ _)) | (with_reducible refine Below.setCell ?_ ?_ _; rotate_left; focus (first | omega | (simp; done) | (simp; omega) | (simp only [World.size_alloc, size_setRow, World.size_setCell]; omega))) | (with_reducible refine below_setRow ?_ ?_ _; rotate_left; focus (first | omega | (simp; done) | (simp; omega) | (simp only [World.size_alloc, size_setRow, World.size_setCell]; omega))) | (with_reducible refine Below.alloc ?_ ?_ _; rotate_left; focus (first | omega | (simp; done) | (simp; omega) | (simp only [World.size_alloc, size_setRow, World.size_setCell]; omega))) | (with_reducible refine Below.drew ?_) | (with_reducible refine below_drewN ?_ _) | (with_reducible exact Below.refl _ _)))⟩
      · have e1 : (b1 != b2) = false := by simp [h1]
        have e2 : (p1 != p2) = false := by simp [h2]
        have e3 : ((n : Int) != (m : Int)) = true := by simp; omega
        have hd : xs ≠ ys := by rintro rfl; exact h3 (hx.len.symm.trans hy.len)
        have E := hid (show sameB b1 p1 xs b2 p2 ys = false by simp [sameB, hd])
        clear h1 h2 h3 hx hy hd
        go_enter Try.func11, Try.ntmps11
        go_wp2
        go_ret
        exact ⟨ret_bool E.out.symm, (by repeat (first | (with_reducible exact (Below.refl _ _)) | (with_reducible refine Below.setCell ?_ ?_ _; rotate_left; focus (first | omega | (simp; done) | (simp; omega) | (simp only [World.size_alloc, size_setRow, World.size_setCell]; omega))) | (with_reducible refine below_setRow ?_ ?_ _; rotate_left; focus (first | omega | (simp; done) | (simp; omega) | (simp only [World.size_alloc, size_setRow, World.size_setCell]; omega))) | (with_reducible refine Below.alloc ?_ ?_ _; rotate_left; focus (first | omega | (simp; done) | (simp; omega) | (simp only [World.size_alloc, size_setRow, World.size_setCell]; omega))) | (with_reducible refine Below.drew ?_) | (with_reducible refine below_drewN ?_ _) | (with_reducible exact Below.refl _ _)))⟩
    · have e1 : (b1 != b2) = false := by simp [h1]
      have e2 : (p1 != p2) = true := by simp [h2]
      have E := hid (show sameB b1 p1 xs b2 p2 ys = false by simp [sameB, h2])
      clear h1 h2 hx hy
      go_enter Try.func11, Try.ntmps11
      go_wp2
      go_ret
      exact ⟨ret_bool E.out.symm, (by repeat (first | (with_reducible exact (Below.refl _ _)) | (with_reducible refine Below.setCell ?_ ?_ _; rotate_left; focus (first | omega | (simp; done) | (simp; omega) | (simp only [World.size_alloc, size_setRow, World.size_setCell]; omega))) | (with_reducible refine below_setRow ?_ ?_ _; rotate_left; focus (first | omega | (simp; done) | (simp; omega) | (simp only [World.size_alloc, size_setRow, World.size_setCell]; omega))) | (with_reducible refine Below.alloc ?_ ?_ _; rotate_left; focus (first | omega | (simp; done) | (simp; omega) | (simp only [World.size_alloc, size_setRow, World.size_setCell]; omega))) | (with_reducible refine Below.drew ?_) | (with_reducible refine below_drewN ?_ _) | (with_reducible exact Below.refl _ _)))⟩
  · have e1 : (b1 != b2) = true := by simp [h1]
    have E := hid (show sameB b1 p1 xs b2 p2 ys = false by simp [sameB, h1])
    clear h1 hx hy
    go_enter Try.func11, Try.ntmps11
    go_wp2
    go_ret
    exact ⟨ret_bool E.out.symm, (by repeat (first | (with_reducible exact (Below.refl _ _)) | (with_reducible refine Below.setCell ?_ ?_ _; rotate_left; focus (first | omega | (simp; done) | (simp; omega) | (simp only [World.size_alloc, size_setRow, World.size_setCell]; omega))) | (with_reducible refine below_setRow ?_ ?_ _; rotate_left; focus (first | omega | (simp; done) | (simp; omega) | (simp only [World.size_alloc, size_setRow, World.size_setCell]; omega))) | (with_reducible refine Below.alloc ?_ ?_ _; rotate_left; focus (first | omega | (simp; done) | (simp; omega) | (simp only [World.size_alloc, size_setRow, World.size_setCell]; omega))) | (with_reducible refine Below.drew ?_) | (with_reducible refine below_drewN ?_ _) | (with_reducible exact Below.refl _ _)))⟩

set_option maxHeartbeats 400000 in
theorem rsized_any (a b : Int) (w : World) :
    Calls Try.prog 27 #[.int .i64 a, .int .i64 b] w fun e w' => e = .returned (.bool (sizedB a b)) ∧ w = w' := by
  go_enter Try.func27, Try.ntmps27
  go_wp2
  all_goals go_ret
  all_goals exact ⟨ret_bool (by rw [Bool.eq_iff_iff, sizedB_iff]; simp; omega), rfl⟩

set_option maxHeartbeats 2000000 in
theorem right_any (base pages : Int) (A : Option Addr) (n c lo : Nat) (xs : List Int) (w : World) (h : Sl i64 0 w lo w.heap.size A n xs) (hn : n ≤ 1000000) (hnc : n ≤ c) :
    Calls Try.prog 9 #[pv base pages A n c] w fun e w' => e = .returned (.bool (freeB base pages xs)) ∧ Below w.heap.size w w' := by
  have H := hid (h.boxed (.cells #[.int .i64 base, .int .i64 pages, .slice A n c] 24))
  clear h
  go_enter Try.func9, Try.ntmps9
  go_wp2
  go_loop [8] (fun i => ∃ k : Nat, k ≤ n ∧ i = .int .i64 k ∧ Good pages (xs.take k)) (fun i => n - (intOf i).toNat)
  case atStart => exact ⟨0, Nat.zero_le _, rfl, by simp [Good]⟩
  case round =>
    obtain ⟨k, hk, rfl, hg⟩ := hrel
    have HG := hid hg; clear hg
    by_cases hlt : k < n
    · obtain ⟨b, off, rfl, _, _, hc⟩ := H.out.row (by omega)
      have g := hc k hlt
      clear hc
      obtain ⟨x, hX⟩ : ∃ x, x = xs[k]?.getD 0 := ⟨_, rfl⟩
      rw [← hX] at g
      have HX := hid hX; clear hX
      by_cases h1 : x < 0
      · have hno := hid (free_no (base := base) (pages := pages) (k := k) (by rw [H.out.len]; exact hlt) HX.out (fun h => by omega))
        go_wp2
        go_ret
        exact ⟨ret_bool hno.out.symm, (by repeat (first | (with_reducible exact (Below.refl _ _)) | (with_reducible refine Below.setCell ?_ ?_ _; rotate_left; focus (first | omega | (simp; done) | (simp; omega) | (simp only [World.size_alloc, size_setRow, World.size_setCell]; omega))) | (with_reducible refine below_setRow ?_ ?_ _; rotate_left; focus (first | omega | (simp; done) | (simp; omega) | (simp only [World.size_alloc, size_setRow, World.size_setCell]; omega))) | (with_reducible refine Below.alloc ?_ ?_ _; rotate_left; focus (first | omega | (simp; done) | (simp; omega) | (simp only [World.size_alloc, size_setRow, World.size_setCell]; omega))) | (with_reducible refine Below.drew ?_) | (with_reducible refine below_drewN ?_ _) | (with_reducible exact Below.refl _ _)))⟩
      · by_cases h2 : pages ≤ x
        · have hno := hid (free_no (base := base) (pages := pages) (k := k) (by rw [H.out.len]; exact hlt) HX.out (fun h => by omega))
          go_wp2
          go_ret
          exact ⟨ret_bool hno.out.symm, (by repeat (first | (with_reducible exact (Below.refl _ _)) | (with_reducible refine Below.setCell ?_ ?_ _; rotate_left; focus (first | omega | (simp; done) | (simp; omega) | (simp only [World.size_alloc, size_setRow, World.size_setCell]; omega))) | (with_reducible refine below_setRow ?_ ?_ _; rotate_left; focus (first | omega | (simp; done) | (simp; omega) | (simp only [World.size_alloc, size_setRow, World.size_setCell]; omega))) | (with_reducible refine Below.alloc ?_ ?_ _; rotate_left; focus (first | omega | (simp; done) | (simp; omega) | (simp only [World.size_alloc, size_setRow, World.size_setCell]; omega))) | (with_reducible refine Below.drew ?_) | (with_reducible refine below_drewN ?_ _) | (with_reducible exact Below.refl _ _)))⟩
        · by_cases h3 : x ∈ xs.take k
          · have hno := hid (free_no (base := base) (pages := pages) (k := k) (by rw [H.out.len]; exact hlt) HX.out (fun h => h.2.2 h3))
            have e3 : decide (x ∈ xs.take k) = true := by simpa using h3
            have hc := has07 (some ⟨b, off, none⟩) k c _ _ x (xs.take k) _ (H.out.take hk) (by omega)
            rw [e3] at hc
            have HC := hid hc
            clear h3 e3 hc
            go_wp2_with (go_at_call 26; (with_reducible refine HC.out.mono ?_); rintro e w' ⟨rfl, rfl⟩)
            go_ret
            exact ⟨ret_bool hno.out.symm, (by repeat (first | (with_reducible exact (Below.refl _ _)) | (with_reducible refine Below.setCell ?_ ?_ _; rotate_left; focus (first | omega | (simp; done) | (simp; omega) | (simp only [World.size_alloc, size_setRow, World.size_setCell]; omega))) | (with_reducible refine below_setRow ?_ ?_ _; rotate_left; focus (first | omega | (simp; done) | (simp; omega) | (simp only [World.size_alloc, size_setRow, World.size_setCell]; omega))) | (with_reducible refine Below.alloc ?_ ?_ _; rotate_left; focus (first | omega | (simp; done) | (simp; omega) | (simp only [World.size_alloc, size_setRow, World.size_setCell]; omega))) | (with_reducible refine Below.drew ?_) | (with_reducible refine below_drewN ?_ _) | (with_reducible exact Below.refl _ _)))⟩
          · have e3 : decide (x ∈ xs.take k) = false := by simpa using h3
            have hc := has07 (some ⟨b, off, none⟩) k c _ _ x (xs.take k) _ (H.out.take hk) (by omega)
            rw [e3] at hc
            have HC := hid hc
            have H3 := hid h3
            clear h3 e3 hc
            go_wp2_with (go_at_call 26; (with_reducible refine HC.out.mono ?_); rintro e w' ⟨rfl, rfl⟩)
            go_round
            case rel => exact ⟨k + 1, by omega, by go_num, good_snoc (by rw [H.out.len]; exact hlt) HX.out HG.out (by omega) (by omega) H3.out⟩
            case measure => simp [intOf]; omega
    · obtain rfl : k = n := by omega
      have hgood : Good pages xs := by have := HG.out; rwa [List.take_of_length_le (Nat.le_of_eq H.out.len)] at this
      have E := hid (show freeB base pages xs = sizedB base pages by simp [freeB, hgood])
      clear hgood
      go_wp2_with (go_at_call 27; (with_reducible refine (rsized_any _ _ _).mono ?_); rintro e w' ⟨rfl, rfl⟩)
      go_ret
      exact ⟨ret_bool E.out.symm, (by repeat (first | (with_reducible exact (Below.refl _ _)) | (with_reducible refine Below.setCell ?_ ?_ _; rotate_left; focus (first | omega | (simp; done) | (simp; omega) | (simp only [World.size_alloc, size_setRow, World.size_setCell]; omega))) | (with_reducible refine below_setRow ?_ ?_ _; rotate_left; focus (first | omega | (simp; done) | (simp; omega) | (simp only [World.size_alloc, size_setRow, World.size_setCell]; omega))) | (with_reducible refine Below.alloc ?_ ?_ _; rotate_left; focus (first | omega | (simp; done) | (simp; omega) | (simp only [World.size_alloc, size_setRow, World.size_setCell]; omega))) | (with_reducible refine Below.drew ?_) | (with_reducible refine below_drewN ?_ _) | (with_reducible exact Below.refl _ _)))⟩
end Go.Proofs.Ytlidbiaadoigeaa
