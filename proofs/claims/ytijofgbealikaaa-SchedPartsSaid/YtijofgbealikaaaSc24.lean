/- afterglowlaw04: wakes. No condition. -/
import Derived.Test.YtijofgbealikaaaSc23
namespace Go.Proofs.Ytijofgbealikaaa
open Go.RowKit
/-- the same by counting, which can be reckoned out -/
def canO (m : Nat) (kk : Int) (l : List Int) : Bool := decide (∀ i, i < m → over (kk - 1 - i) (l.take m) ≤ i)
def mendPO (m : Nat) (kk : Int) (l : List Int) (x : Int) : Nat := if canO m kk (pickL l (wishP m x)) = true then wishP m x else mostL (l.take m)
def mendO (m : Nat) (kk : Int) (xs : List Int) : List Int × List Int := xs.foldl (fun s x => (s.1 ++ [(mendPO m kk s.2 x : Int)], pickL s.2 (mendPO m kk s.2 x))) ([], List.replicate 8 0)
theorem canO_eq {m : Nat} {kk : Int} {l : List Int} (hl : m ≤ l.length) : canB m kk l = canO m kk l := by
  rw [Bool.eq_iff_iff, canB_over hl]; unfold canO; rw [decide_eq_true_eq]
theorem mendO_eq {m : Nat} (hm : m ≤ 8) (kk : Int) (xs : List Int) : mendF m kk xs = mendO m kk xs := by
  refine snoc_ind (P := fun xs => mendF m kk xs = mendO m kk xs) rfl (fun xs x ih => ?_) xs
  have hl : (mendF m kk xs).2.length = 8 := by rw [(mendF_all m kk xs).2, wL_len]
  have hP : mendP m kk (mendF m kk xs).2 x = mendPO m kk (mendF m kk xs).2 x := by
    unfold mendP mendPO; rw [canO_eq (by rw [pickL_len, hl]; exact hm)]
  rw [mendF_snoc]
  show _ = (xs ++ [x]).foldl _ _
  rw [List.foldl_append]
  show mendSt m kk (mendF m kk xs) x = ((mendO m kk xs).1 ++ [(mendPO m kk (mendO m kk xs).2 x : Int)], pickL (mendO m kk xs).2 (mendPO m kk (mendO m kk xs).2 x))
  rw [← ih]
  unfold mendSt
  rw [hP]
theorem wk1 : mendC 3 3 [2, 2, 2] = (0, [2, 0, 1]) := by
  show (if ¬ (1 ≤ (3 : Int) ∧ (3 : Int) ≤ 8) then ((140 : Int), []) else if (3 : Int) < 3 then (2, []) else (0, (mendF (3 : Int).toNat 3 [2, 2, 2]).1)) = _
  rw [mendO_eq (by decide)]
  decide +kernel
theorem wk2 : mendC 3 2 [1] = (2, []) := by decide +kernel
theorem wk3 : fairC 2 [0, 0, 1, 0] 2 = false := by decide +kernel
theorem wk4 : fairC 2 [0, 0, 1, 0] 3 = true := by decide +kernel
theorem wk5 : leastC 2 [0, 0, 1, 0] = 3 := by decide +kernel
theorem wk6 : roundsC 2 [0, 0, 1, 1, 0] = 2 := by decide +kernel
theorem wk7 : waitsC 3 [0, 1, 0] = [0, 1, 3] := by decide +kernel
theorem wk8 : (splitC 2 [0, 0, 1, 0]).length = 2 := by decide +kernel
set_option maxRecDepth 100000 in
set_option maxHeartbeats 4000000 in
theorem swakes_any (w : World) : Calls Try.prog 8 #[] w fun e w' => e = .returned (.bool true) ∧ Below w.heap.size w w' := by
  have HB := hid (Below.refl w.heap.size w)
  have L1 := hid (Sl.lit (enc := i64) (d := 0) (w := w) (e := 3) (g := w.heap.size) [2, 2, 2] (#[.int .i64 2, .int .i64 2, .int .i64 2]) (by simp) (by simp))
  have bx := below_box w (.cells #[.int .i64 2, .int .i64 2, .int .i64 2] 3)
  replace HB := hid (below_then HB.out bx)
  clear bx
  go_enter Try.func8, Try.ntmps8
  go_wp2_with fail
  generalize w.alloc (.cells #[.int .i64 2, .int .i64 2, .int .i64 2] 3) = W1 at *
  refine (smend_any 3 3 _ 3 3 [2, 2, 2] W1 L1.out (by omega) (by omega)).mono ?_
  rintro e w2 ⟨⟨A, m, d, rfl, ho⟩, hb⟩
  rw [wk1] at ho ⊢
  dsimp only at ho ⊢
  obtain rfl : 3 = m := ho.len
  have O1 := hid ho
  clear ho L1
  replace HB := hid (below_then HB.out hb)
  clear hb
  have L2 := hid (Sl.lit (enc := i64) (d := 0) (w := w2) (e := 3) (g := w2.heap.size) [1] (#[.int .i64 1]) (by simp) (by simp))
  have bx := below_box w2 (.cells #[.int .i64 1] 3)
  replace O1 := hid (O1.out.step bx); replace HB := hid (below_then HB.out bx)
  clear bx
  go_wp2_with fail
  generalize w2.alloc (.cells #[.int .i64 1] 3) = W3 at *
  refine (smend_any 3 2 _ 1 1 [1] W3 L2.out (by omega) (by omega)).mono ?_
  rintro e w4 ⟨⟨A2, m2, d2, rfl, ho⟩, hb⟩
  rw [wk2] at ho ⊢
  dsimp only at ho ⊢
  clear ho L2
  replace O1 := hid (O1.out.step hb); replace HB := hid (below_then HB.out hb)
  clear hb
  have L3 := hid (Sl.lit (enc := i64) (d := 0) (w := w4) (e := 3) (g := w4.heap.size) [0, 0, 1, 0] (#[.int .i64 0, .int .i64 0, .int .i64 1, .int .i64 0]) (by simp) (by simp))
  have bx := below_box w4 (.cells #[.int .i64 0, .int .i64 0, .int .i64 1, .int .i64 0] 3)
  replace O1 := hid (O1.out.step bx); replace HB := hid (below_then HB.out bx)
  clear bx
  go_upto_region 4 with fail
  generalize w4.alloc (.cells #[.int .i64 0, .int .i64 0, .int .i64 1, .int .i64 0] 3) = W5 at *
  have L4 := hid (Sl.lit (enc := i64) (d := 0) (w := W5) (e := 3) (g := W5.heap.size) [2, 0, 1] (#[.int .i64 2, .int .i64 0, .int .i64 1]) (by simp) (by simp))
  have bx := below_box W5 (.cells #[.int .i64 2, .int .i64 0, .int .i64 1] 3)
  replace O1 := hid (O1.out.step bx); replace L3 := hid (L3.out.step bx); replace HB := hid (below_then HB.out bx)
  clear bx
  go_wp2_with fail
  generalize W5.alloc (.cells #[.int .i64 2, .int .i64 0, .int .i64 1] 3) = W6 at *
  refine (equal_int A _ 3 d 3 3 0 _ 0 _ [2, 0, 1] [2, 0, 1] W6 ((O1.out.sl (d := 0)).mono (Nat.zero_le _) (Nat.le_refl _)) L4.out (by omega) (by omega)).mono ?_
  rintro e w7 ⟨rfl, q7, hq⟩
  have hb : Below W6.heap.size W6 w7 := hq ▸ below_drewN (Below.refl _ _) q7
  clear hq
  replace O1 := hid (O1.out.step hb); replace L3 := hid (L3.out.step hb); replace L4 := hid (L4.out.step hb); replace HB := hid (below_then HB.out hb)
  clear hb O1 L4
  go_wp2_with fail
  refine (sfair_any 2 _ 4 4 [0, 0, 1, 0] 2 w7 L3.out (by omega)).mono ?_
  rintro e w8 ⟨rfl, hb⟩
  rw [wk3]
  replace L3 := hid (L3.out.step hb); replace HB := hid (below_then HB.out hb)
  clear hb
  go_wp2_with fail
  refine (sfair_any 2 _ 4 4 [0, 0, 1, 0] 3 w8 L3.out (by omega)).mono ?_
  rintro e w9 ⟨rfl, hb⟩
  rw [wk4]
  replace L3 := hid (L3.out.step hb); replace HB := hid (below_then HB.out hb)
  clear hb
  go_wp2_with fail
  refine (sleast_any 2 _ 4 4 [0, 0, 1, 0] w9 L3.out (by omega)).mono ?_
  rintro e w10 ⟨rfl, hb⟩
  rw [wk5]
  replace L3 := hid (L3.out.step hb); replace HB := hid (below_then HB.out hb)
  clear hb
  have L5 := hid (Sl.lit (enc := i64) (d := 0) (w := w10) (e := 3) (g := w10.heap.size) [0, 0, 1, 1, 0] (#[.int .i64 0, .int .i64 0, .int .i64 1, .int .i64 1, .int .i64 0]) (by simp) (by simp))
  have bx := below_box w10 (.cells #[.int .i64 0, .int .i64 0, .int .i64 1, .int .i64 1, .int .i64 0] 3)
  replace L3 := hid (L3.out.step bx); replace HB := hid (below_then HB.out bx)
  clear bx
  go_wp2_with fail
  generalize w10.alloc (.cells #[.int .i64 0, .int .i64 0, .int .i64 1, .int .i64 1, .int .i64 0] 3) = W11 at *
  refine (srounds_any 2 _ 5 5 [0, 0, 1, 1, 0] W11 L5.out (by omega)).mono ?_
  rintro e w12 ⟨rfl, hb⟩
  rw [wk6]
  clear L5
  replace L3 := hid (L3.out.step hb); replace HB := hid (below_then HB.out hb)
  clear hb
  have L6 := hid (Sl.lit (enc := i64) (d := 0) (w := w12) (e := 3) (g := w12.heap.size) [0, 1, 0] (#[.int .i64 0, .int .i64 1, .int .i64 0]) (by simp) (by simp))
  have bx := below_box w12 (.cells #[.int .i64 0, .int .i64 1, .int .i64 0] 3)
  replace L3 := hid (L3.out.step bx); replace HB := hid (below_then HB.out bx)
  clear bx
  go_wp2_with fail
  generalize w12.alloc (.cells #[.int .i64 0, .int .i64 1, .int .i64 0] 3) = W13 at *
  refine (swaits_any 3 _ 3 3 [0, 1, 0] W13 L6.out (by omega)).mono ?_
  rintro e w14 ⟨⟨A3, m3, d3, rfl, ho⟩, hb⟩
  rw [wk7] at ho
  obtain rfl : 3 = m3 := ho.len
  have O3 := hid ho
  clear ho L6
  replace L3 := hid (L3.out.step hb); replace HB := hid (below_then HB.out hb)
  clear hb
  have L7 := hid (Sl.lit (enc := i64) (d := 0) (w := w14) (e := 3) (g := w14.heap.size) [0, 1, 3] (#[.int .i64 0, .int .i64 1, .int .i64 3]) (by simp) (by simp))
  have bx := below_box w14 (.cells #[.int .i64 0, .int .i64 1, .int .i64 3] 3)
  replace L3 := hid (L3.out.step bx); replace O3 := hid (O3.out.step bx); replace HB := hid (below_then HB.out bx)
  clear bx
  go_wp2_with fail
  generalize w14.alloc (.cells #[.int .i64 0, .int .i64 1, .int .i64 3] 3) = W15 at *
  refine (equal_int A3 _ 3 d3 3 3 0 _ 0 _ [0, 1, 3] [0, 1, 3] W15 ((O3.out.sl (d := 0)).mono (Nat.zero_le _) (Nat.le_refl _)) L7.out (by omega) (by omega)).mono ?_
  rintro e w16 ⟨rfl, q7, hq⟩
  have hb : Below W15.heap.size W15 w16 := hq ▸ below_drewN (Below.refl _ _) q7
  clear hq
  replace L3 := hid (L3.out.step hb); replace O3 := hid (O3.out.step hb); replace L7 := hid (L7.out.step hb); replace HB := hid (below_then HB.out hb)
  clear hb O3 L7
  go_wp2_with fail
  refine (ssplit_any 2 _ 4 4 [0, 0, 1, 0] w16 L3.out (by omega)).mono ?_
  rintro e w17 ⟨⟨A4, m4, d4, es, rfl, ho, _, he⟩, hb⟩
  obtain rfl : 2 = m4 := by rw [← ho.len, ← List.length_map (f := Prod.fst), he, wk8]
  clear ho he
  replace L3 := hid (L3.out.step hb); replace HB := hid (below_then HB.out hb)
  clear hb
  go_wp2
  go_ret
  exact ⟨rfl, HB.out⟩
end Go.Proofs.Ytijofgbealikaaa
