/- package sched: most, Waits, Least, Fair. No condition but sizes. -/
import Derived.Test.YtijofgbealikaaaSc3
namespace Go.Proofs.Ytijofgbealikaaa
open Go.RowKit
/-- the place of the greatest, of several the first; v, k: the best so far, and its place; i: the place of the next -/
def mostF : List Int → Int → Nat → Nat → Nat
  | [], _, k, _ => k
  | x :: l, v, k, i => if v < x then mostF l x i (i + 1) else mostF l v k (i + 1)
def mostL (l : List Int) : Nat := mostF l (l[0]?.getD 0) 0 0
theorem mostF_step (l : List Int) (j : Nat) (hj : j < l.length) (v : Int) (k : Nat) : mostF (l.drop j) v k j = if v < l[j]?.getD 0 then mostF (l.drop (j + 1)) (l[j]?.getD 0) j (j + 1) else mostF (l.drop (j + 1)) v k (j + 1) := by
  rw [List.drop_eq_getElem_cons hj, List.getElem?_eq_getElem hj]
  rfl
theorem mostF_end (l : List Int) (j : Nat) (hj : l.length ≤ j) (v : Int) (k : Nat) : mostF (l.drop j) v k j = k := by
  rw [List.drop_of_length_le hj]; rfl
set_option maxHeartbeats 2000000 in
theorem most_any (P : Option Addr) (n c lo hi : Nat) (xs : List Int) (w : World) (h : Sl i64 0 w lo hi P n xs) (hn : n ≤ 1000000) :
    Calls Try.prog 32 #[.slice P n c] w fun e w' => e = .returned (.int .i64 (mostL xs)) ∧ w = w' := by
  have HR := hid h
  have hl := hid h.len
  clear h
  go_enter Try.func32, Try.ntmps32
  go_wp2_with fail
  go_loopw [3, 8] (fun k i wr => wr = w ∧ ∃ j m : Nat, j ≤ n ∧ (m < n ∨ n = 0 ∧ m = 0) ∧ i = .int .i64 j ∧ k = .int .i64 m ∧ mostL xs = mostF (xs.drop j) (xs[m]?.getD 0) m j) (fun _ i _ => n - (intOf i).toNat)
  case atStart => exact ⟨rfl, 0, 0, Nat.zero_le _, by omega, rfl, rfl, rfl⟩
  case round =>
    obtain ⟨rfl, j, m, hj, hm, rfl, rfl, he⟩ := hrel
    have HE := hid he
    clear he
    by_cases hjn : j < n
    · obtain ⟨b, off, rfl, _, hbh, hc⟩ := HR.out.row (by omega)
      have hmn : m < n := by omega
      obtain ⟨x, hx⟩ : ∃ x, x = xs[j]?.getD 0 := ⟨_, rfl⟩
      obtain ⟨y, hy⟩ : ∃ y, y = xs[m]?.getD 0 := ⟨_, rfl⟩
      have f0 := hc j hjn
      have f1 := hc m hmn
      rw [← hx] at f0
      rw [← hy] at f1
      have HX := hid hx; have HY := hid hy
      have hji : (j : Int) < (n : Int) := by omega
      have hmi : (m : Int) < (n : Int) := by omega
      have hw2 : IntKind.i64.wrap ((j : Int) + 1) = (j : Int) + 1 := by rw [IntKind.wrap_i64]; omega
      have HS := hid (mostF_step xs j (by rw [hl.out]; exact hjn) y m)
      clear hx hy hc
      by_cases hlt : y < x
      · have d1 : decide (y < x) = true := decide_eq_true hlt
        have H1 := hid (show mostL xs = mostF (xs.drop (j + 1)) (xs[j]?.getD 0) j (j + 1) by rw [HE.out, ← HY.out, HS.out, ← HX.out, if_pos hlt])
        clear hlt
        go_wp2
        go_roundw
        case rel => exact ⟨by trivial, j + 1, j, by omega, by omega, by go_num, rfl, H1.out⟩
        case measure => simp [intOf]; omega
      · have d1 : decide (y < x) = false := decide_eq_false hlt
        have H1 := hid (show mostL xs = mostF (xs.drop (j + 1)) (xs[m]?.getD 0) m (j + 1) by rw [HE.out, ← HY.out, HS.out, ← HX.out, if_neg hlt])
        clear hlt
        go_wp2
        go_roundw
        case rel => exact ⟨by trivial, j + 1, m, by omega, by omega, by go_num, rfl, H1.out⟩
        case measure => simp [intOf]; omega
    · obtain rfl : j = n := by omega
      have H1 := hid (show (m : Int) = (mostL xs : Int) by rw [HE.out, mostF_end xs j (by rw [hl.out]; exact Nat.le_refl _)])
      have hnn : ¬ ((j : Int) < (j : Int)) := by omega
      go_wp2
      go_ret
      exact ⟨ret_int H1.out, rfl⟩
end Go.Proofs.Ytijofgbealikaaa
