/- package sched: Waits, Least, Fair. No condition but sizes. -/
import Derived.Test.YtijofgbealikaaaSc4
namespace Go.Proofs.Ytijofgbealikaaa
open Go.RowKit
theorem cut8 (c : Nat) (hc : c ≤ 8) (g : Nat) (W : World) : (Instr.sliceAt 47 (.pointer (some ⟨g, 0, none⟩)) none (some (.int .i64 c)) none).run Try.prog W = .ok (.slice (some ⟨g, 0, none⟩) c 8) W := by
  have hl : Try.prog.arrayLen 47 = 8 := by kernel_rfl
  rw [run_sliceAt_array_h W 47 ⟨g, 0, none⟩ (by kernel_rfl) .i64 c (by omega) (by rw [hl]; omega), hl]
  have hs : (sizeOf (Try.prog.elem 47)).run Try.prog W = .ok 1 W := by kernel_rfl
  rw [hs]
  simp [Result.andThen, slicedAt, Addr.add]
theorem Blk.row8 {w : World} {g : Nat} {e : TypeId} {l : List Int} (h : Blk w g e (A8 l)) {c : Nat} (hc : c ≤ l.length) : Sl i64 0 w 0 w.heap.size (some ⟨g, 0, none⟩) c (l.take c) := by
  refine ⟨by rw [List.length_take]; omega, fun _ => ⟨g, 0, rfl, Nat.zero_le _, h.lt, fun k hk => ?_⟩⟩
  rw [Nat.zero_add, h.cell, A8_get (by omega), List.getElem?_take, if_pos hk]
/-- waits of so many CPUs -/
def waitsC (c : Int) (xs : List Int) : List Int := if SchR c xs then (wL xs).take c.toNat else []
/-- the longest wait -/
def topW (c : Nat) (xs : List Int) : Int := ((wL xs).take c)[mostL ((wL xs).take c)]?.getD 0
def leastF (c : Nat) (xs : List Int) : Nat → Int
  | 0 => 1
  | j + 1 => max (leastF c xs j) (1 + topW c (xs.take (j + 1)))
def leastC (c : Int) (xs : List Int) : Int := if SchR c xs then leastF c.toNat xs xs.length else 0
def fairC (c : Int) (xs : List Int) (k : Int) : Bool := decide (1 ≤ k ∧ SchR c xs ∧ leastC c xs ≤ k)
theorem mostF_lt : ∀ (l : List Int) (v : Int) (k i n : Nat), k < n → i + l.length ≤ n → mostF l v k i < n
  | [], _, k, _, n, h, _ => h
  | x :: l, v, k, i, n, h, h2 => by
    rw [List.length_cons] at h2
    unfold mostF
    split
    · exact mostF_lt l x i (i + 1) n (by omega) (by omega)
    · exact mostF_lt l v k (i + 1) n h (by omega)
theorem mostL_lt {l : List Int} (h : 0 < l.length) : mostL l < l.length := mostF_lt l _ 0 0 _ h (by omega)
theorem topW_in {c : Nat} (hc : 1 ≤ c) (hc8 : c ≤ 8) (xs : List Int) : 0 ≤ topW c xs ∧ topW c xs ≤ xs.length := by
  unfold topW
  have hl : ((wL xs).take c).length = c := by rw [List.length_take, wL_len]; omega
  have hm := mostL_lt (l := (wL xs).take c) (by omega)
  rw [List.getElem?_eq_getElem hm]
  exact wL_in xs _ (List.mem_of_mem_take (List.getElem_mem hm))
theorem leastF_in {c : Nat} (hc : 1 ≤ c) (hc8 : c ≤ 8) (xs : List Int) : ∀ j, j ≤ xs.length → 1 ≤ leastF c xs j ∧ leastF c xs j ≤ j + 1
  | 0, _ => by simp [leastF]
  | j + 1, h => by
    have ih := leastF_in hc hc8 xs j (by omega)
    have ht := topW_in hc hc8 (xs.take (j + 1))
    rw [List.length_take] at ht
    unfold leastF
    omega
set_option maxHeartbeats 4000000 in
theorem swaits_any (c : Int) (P : Option Addr) (n k : Nat) (xs : List Int) (w : World) (h : Sl i64 0 w 0 w.heap.size P n xs) (hn : n ≤ 1000000) :
    Calls Try.prog 12 #[.int .i64 c, .slice P n k] w fun e w' => (∃ A m d, e = .returned (.slice A m d) ∧ Ow i64 w' w.heap.size 3 A m d (waitsC c xs)) ∧ Below w.heap.size w w' := by
  have HR := hid h; have HB := hid (Below.refl w.heap.size w)
  clear h
  go_enter Try.func12, Try.ntmps12
  go_wp2_with fail
  refine (scheck_any c P n k xs w HR.out hn).mono ?_
  rintro e w1 ⟨rfl, hb⟩
  replace HR := hid (HR.out.step hb); replace HB := hid (below_then HB.out hb)
  clear hb
  by_cases hs : SchR c xs
  rotate_left
  · have e1 : scheckC c xs = 140 := if_neg hs
    have e2 : waitsC c xs = [] := if_neg hs
    have E2 := hid e2
    rw [e1]
    clear e1 e2 hs
    go_wp2
    go_ret
    exact ⟨⟨none, 0, 0, rfl, by rw [E2.out]; exact Ow.nil _ _ _⟩, HB.out⟩
  have e1 : scheckC c xs = 0 := if_pos hs
  have E2 := hid (show waitsC c xs = (wL xs).take c.toNat from if_pos hs)
  rw [e1]
  have HS := hid hs
  clear e1 hs
  obtain ⟨m, rfl⟩ := Int.eq_ofNat_of_zero_le (show 0 ≤ c by have := HS.out.1; omega)
  have hm := HS.out.1
  rw [Int.toNat_natCast] at E2
  go_wp2_with fail
  refine (of_any P n k xs _ HR.out hn (fun x hx => by have := HS.out.2 x hx; omega)).mono ?_
  rintro e w2 ⟨⟨b0, b1, b2, b3, b4, b5, b6, b7, rfl, hw⟩, hb⟩
  have HW := hid hw
  clear hw
  have hs2 := hid HB.out.size
  replace HR := hid (HR.out.step hb); replace HB := hid (below_then HB.out hb)
  clear hb
  have bx := below_box w2 (.cells #[.int .i64 b0, .int .i64 b1, .int .i64 b2, .int .i64 b3, .int .i64 b4, .int .i64 b5, .int .i64 b6, .int .i64 b7] 47)
  replace HR := hid (HR.out.step bx); replace HB := hid (below_then HB.out bx)
  clear bx
  have PA := hid (Blk.new w2 47 #[.int .i64 b0, .int .i64 b1, .int .i64 b2, .int .i64 b3, .int .i64 b4, .int .i64 b5, .int .i64 b6, .int .i64 b7])
  have hcut := cut8 m (by omega)
  go_wp2_with fail
  clear hcut
  have hz3 := hid (show (w2.alloc (.cells #[.int .i64 b0, .int .i64 b1, .int .i64 b2, .int .i64 b3, .int .i64 b4, .int .i64 b5, .int .i64 b6, .int .i64 b7] 47)).heap.size = w2.heap.size + 1 by simp)
  generalize w2.alloc (.cells #[.int .i64 b0, .int .i64 b1, .int .i64 b2, .int .i64 b3, .int .i64 b4, .int .i64 b5, .int .i64 b6, .int .i64 b7] 47) = W3 at *
  refine (clone_int (some ⟨w2.heap.size, 0, none⟩) m 8 0 ((wL xs).take m) _ (Blk.row8 (l := wL xs) (by rw [← HW.out]; exact PA.out) (by rw [wL_len]; omega)) (by omega)).mono ?_
  rintro e w4 ⟨A, d, rfl, ow, hb⟩
  have OW := hid (ow.mono (show w.heap.size ≤ W3.heap.size from HB.out.size))
  clear ow
  replace HR := hid (HR.out.step hb); replace PA := hid (PA.out.step hb); replace HB := hid (below_then HB.out hb)
  clear hb
  go_wp2
  go_ret
  exact ⟨⟨A, m, d, rfl, by rw [E2.out]; exact OW.out⟩, HB.out⟩
end Go.Proofs.Ytijofgbealikaaa
