/- afterglowlaw13: wakes. No condition. -/
import Derived.Test.YtkdbmlddndgjjaaQt
import Derived.Test.YtkdbmlddndgjjaaQo
import Derived.Test.YtkdbmlddndgjjaaQr2
import Derived.Test.YtkdbmlddndgjjaaOpenSm
import Derived.Laws.StructEq
import Derived.ChangeKeysEq
namespace Go.Proofs.Ytkdbmlddndgjjaa
open Go.RowKit
theorem Sm.lit {α : Type} {sz : Nat} {enc : α → Nat → Value} {d : α} {w : World} {e : TypeId} {cs : Array Value} {g : Nat} (xs : List α) (hg : g = w.heap.size) (hc : ∀ k, k < xs.length → ∀ j, j < sz → cs[k * sz + j]? = some (enc (xs[k]?.getD d) j)) :
    Sm sz enc d (w.alloc (.cells cs e)) 0 (w.alloc (.cells cs e)).heap.size (some ⟨g, 0, none⟩) xs.length xs := by
  subst hg
  refine ⟨rfl, fun _ => ⟨w.heap.size, 0, rfl, Nat.zero_le _, by simp, fun k hk j hj => ?_⟩⟩
  rw [Nat.zero_add, (Blk.new w e cs).cell, hc k hk j hj]
theorem Sm.toSl1 {α : Type} {enc : α → Value} {d : α} {w : World} {lo hi : Nat} {A : Option Addr} {n : Nat} {xs : List α} (h : Sm 1 (fun x _ => enc x) d w lo hi A n xs) : Sl enc d w lo hi A n xs :=
  ⟨h.len, fun hn => by
    obtain ⟨b, off, e, h1, h2, h3⟩ := h.row hn
    exact ⟨b, off, e, h1, h2, fun k hk => by have := h3 k hk 0 (by omega); simpa using this⟩⟩
theorem eqd_tri (a b c d e f : Int) : ∀ W, (binOp .eql 48 (tri a b c) (tri d e f)).run Try.prog W = .ok (.bool (decide ((a, b, c) = (d, e, f)))) W := by
  intro W
  have u3 := Try.underlying3
  have a3 := Try.isAgg3
  have z3 := Try.sizeOf3
  obtain ⟨i, hi⟩ : ∃ i, Try.prog.info? 3 = some i := ⟨_, rfl⟩
  have hc : Try.prog.cellsOf 3 = 1 := by kernel_rfl
  rw [run_eql_struct, show (10000 : Nat) = 9999 + 1 from rfl, run_equalIn_array W 9999 _ _ Try.underlying48 hi, hc, show List.range 3 = [0, 1, 2] from rfl]
  simp only [Op.eqItems]
  go_simp
  by_cases h1 : a = d <;> by_cases h2 : b = e <;> by_cases h3 : c = f <;> simp [h1, h2, h3]
theorem neq_tri (a b c d e f : Int) : ∀ W, (binOp .neq 48 (tri a b c) (tri d e f)).run Try.prog W = .ok (.bool (decide (¬ (a, b, c) = (d, e, f)))) W := by
  intro W
  have u3 := Try.underlying3
  have a3 := Try.isAgg3
  have z3 := Try.sizeOf3
  obtain ⟨i, hi⟩ : ∃ i, Try.prog.info? 3 = some i := ⟨_, rfl⟩
  have hc : Try.prog.cellsOf 3 = 1 := by kernel_rfl
  rw [run_neq_struct, show (10000 : Nat) = 9999 + 1 from rfl, run_equalIn_array W 9999 _ _ Try.underlying48 hi, hc, show List.range 3 = [0, 1, 2] from rfl]
  simp only [Op.eqItems]
  go_simp
  by_cases h1 : a = d <;> by_cases h2 : b = e <;> by_cases h3 : c = f <;> simp [h1, h2, h3]
set_option maxRecDepth 100000 in
set_option maxHeartbeats 4000000 in
theorem qwakes_any (w : World) : Calls Try.prog 7 #[] w fun e w' => e = .returned (.bool true) ∧ Below w.heap.size w w' := by
  have HB := hid (Below.refl w.heap.size w)
  go_enter Try.func7, Try.ntmps7
  go_wp2_with fail
  refine (qnew_any 4 _).mono ?_
  rintro e w1 ⟨rfl, hb⟩
  replace HB := hid (below_then HB.out hb)
  clear hb
  have h0 := hid HB.out.size
  rw [show newQ 4 = (4, [], 0) from by decide +kernel]
  dsimp only
  have bx := below_box w1 (.cells (qcs none 0 0 4) 25)
  replace HB := hid (below_then HB.out bx)
  clear bx
  have P1 := hid (Blk.new w1 25 (qcs none 0 0 4))
  obtain ⟨y00, y01, yf0⟩ := P1.out.cells2
  go_wp2_with fail
  clear y00 y01 yf0
  generalize w1.alloc (.cells (qcs none 0 0 4) 25) = W1 at *
  have hl := hid P1.out.lt
  refine (qput_any none 0 0 4 [] 7 1 W1 (Sm.nil _ _ _ _) (by omega) (by omega) (by omega)).mono ?_
  rintro e w2 ⟨A2, n2, c2, rfl, o2, hb, hnc2⟩
  replace P1 := hid (P1.out.step hb); replace HB := hid (below_then HB.out hb)
  clear hb
  rw [show putF 4 [] 7 1 = (4, [(5, 7)], 0) from by decide +kernel] at o2 ⊢
  dsimp only at o2 ⊢
  obtain rfl : 1 = n2 := o2.sm.len
  have O2 := hid ((o2.setCell (p := ⟨w1.heap.size, 0, none⟩) hl.out (.slice A2 1 c2)).setCell (p := ⟨w1.heap.size, 1, none⟩) hl.out (.int .u64 4))
  have PX := hid ((P1.out.setCell 0 (.slice A2 1 c2)).setCell 1 (.int .u64 4))
  replace HB := hid ((HB.out.setCell (p := ⟨w1.heap.size, 0, none⟩) h0.out (.slice A2 1 c2)).setCell (p := ⟨w1.heap.size, 1, none⟩) h0.out (.int .u64 4))
  clear o2 hl
  obtain ⟨y00, y01, yf0⟩ := P1.out.cells2
  obtain ⟨k0, k1, kf⟩ := PX.out.cells2
  go_wp2_with fail
  clear P1 k0 k1 kf y00 y01 yf0
  have P1 := PX
  clear PX
  generalize (w2.setCell ⟨w1.heap.size, 0, none⟩ (.slice A2 1 c2)).setCell ⟨w1.heap.size, 1, none⟩ (.int .u64 4) = W2 at *
  have hl := hid P1.out.lt
  refine (qput_any A2 1 c2 4 [(5, 7)] 8 2 W2 (O2.out.sm.mono (Nat.zero_le _) (Nat.le_refl _)) (by omega) (by omega) hnc2).mono ?_
  rintro e w3 ⟨A3, n3, c3, rfl, o3, hb, hnc3⟩
  replace P1 := hid (P1.out.step hb); replace HB := hid (below_then HB.out hb)
  clear hb
  rw [show putF 4 [(5, 7)] 8 2 = (4, [(5, 7), (6, 8)], 0) from by decide +kernel] at o3 ⊢
  dsimp only at o3 ⊢
  obtain rfl : 2 = n3 := o3.sm.len
  have O3 := hid ((o3.setCell (p := ⟨w1.heap.size, 0, none⟩) hl.out (.slice A3 2 c3)).setCell (p := ⟨w1.heap.size, 1, none⟩) hl.out (.int .u64 4))
  have PX := hid ((P1.out.setCell 0 (.slice A3 2 c3)).setCell 1 (.int .u64 4))
  replace HB := hid ((HB.out.setCell (p := ⟨w1.heap.size, 0, none⟩) h0.out (.slice A3 2 c3)).setCell (p := ⟨w1.heap.size, 1, none⟩) h0.out (.int .u64 4))
  clear o3 hl
  obtain ⟨y00, y01, yf0⟩ := P1.out.cells2
  obtain ⟨k0, k1, kf⟩ := PX.out.cells2
  go_wp2_with fail
  clear P1 k0 k1 kf y00 y01 yf0
  have P1 := PX
  clear PX
  generalize (w3.setCell ⟨w1.heap.size, 0, none⟩ (.slice A3 2 c3)).setCell ⟨w1.heap.size, 1, none⟩ (.int .u64 4) = W3 at *
  clear O2 hnc2
  refine (qput_any A3 2 c3 4 [(5, 7), (6, 8)] 9 1 W3 (O3.out.sm.mono (Nat.zero_le _) (Nat.le_refl _)) (by omega) (by omega) hnc3).mono ?_
  rintro e w4 ⟨A4, n4, c4, rfl, o4, hb, hnc4⟩
  replace P1 := hid (P1.out.step hb); replace O3 := hid (O3.out.step hb); replace HB := hid (below_then HB.out hb)
  clear hb
  rw [show putF 4 [(5, 7), (6, 8)] 9 1 = (0, [], 2) from by decide +kernel] at o4 ⊢
  dsimp only at o4 ⊢
  obtain rfl : 0 = n4 := o4.sm.len
  have bx := below_box w4 (.cells (qcs A4 0 c4 0) 25)
  replace P1 := hid (P1.out.step bx); replace O3 := hid (O3.out.step bx); replace HB := hid (below_then HB.out bx)
  clear bx
  have P4 := hid (Blk.new w4 25 (qcs A4 0 c4 0))
  obtain ⟨y00, y01, yf0⟩ := P1.out.cells2
  go_wp2_with fail
  clear y00 y01 yf0
  generalize w4.alloc (.cells (qcs A4 0 c4 0) 25) = W4 at *
  clear P4
  clear o4
  refine (qtake_any A3 2 c3 4 [(5, 7), (6, 8)] W4 (O3.out.sm.mono (Nat.zero_le _) (Nat.le_refl _)) (by omega) (by omega)).mono ?_
  rintro e w5 ⟨A5, n5, c5, rfl, o5, hb, hnc5⟩
  replace P1 := hid (P1.out.step hb); replace O3 := hid (O3.out.step hb); replace HB := hid (below_then HB.out hb)
  clear hb
  rw [show takeF 4 [(5, 7), (6, 8)] = (0, [], 0, 4) from by decide +kernel] at o5 ⊢
  dsimp only at o5 ⊢
  obtain rfl : 0 = n5 := o5.sm.len
  have bx := below_box w5 (.cells (qcs A5 0 c5 0) 25)
  replace P1 := hid (P1.out.step bx); replace O3 := hid (O3.out.step bx); replace HB := hid (below_then HB.out bx)
  clear bx
  have P5 := hid (Blk.new w5 25 (qcs A5 0 c5 0))
  obtain ⟨y00, y01, yf0⟩ := P1.out.cells2
  go_wp2_with fail
  clear y00 y01 yf0
  generalize w5.alloc (.cells (qcs A5 0 c5 0) 25) = W5 at *
  clear P5
  clear o5
  refine (qend_any A3 2 c3 4 [(5, 7), (6, 8)] 5 W5 (O3.out.sm.mono (Nat.zero_le _) (Nat.le_refl _)) (by omega) (by omega)).mono ?_
  rintro e w6 ⟨A6, n6, c6, rfl, o6, hb, hnc6⟩
  replace P1 := hid (P1.out.step hb); replace O3 := hid (O3.out.step hb); replace HB := hid (below_then HB.out hb)
  clear hb
  rw [show endF 4 [(5, 7), (6, 8)] 5 = (5, [(5, 7), (6, 8)], 0) from by decide +kernel] at o6 ⊢
  dsimp only at o6 ⊢
  obtain rfl : 2 = n6 := o6.sm.len
  have O6 := hid o6
  clear o6
  have bx := below_box w6 (.cells (qcs A6 2 c6 5) 25)
  replace P1 := hid (P1.out.step bx); replace O3 := hid (O3.out.step bx); replace O6 := hid (O6.out.step bx); replace HB := hid (below_then HB.out bx)
  clear bx
  have P6 := hid (Blk.new w6 25 (qcs A6 2 c6 5))
  obtain ⟨y00, y01, yf0⟩ := P6.out.cells2
  go_wp2_with fail
  clear y00 y01 yf0
  generalize w6.alloc (.cells (qcs A6 2 c6 5) 25) = W6 at *
  refine (qtake_any A6 2 c6 5 [(5, 7), (6, 8)] W6 (O6.out.sm.mono (Nat.zero_le _) (Nat.le_refl _)) (by omega) (by omega)).mono ?_
  rintro e w7 ⟨A7, n7, c7, rfl, o7, hb, hnc7⟩
  replace P1 := hid (P1.out.step hb); replace O3 := hid (O3.out.step hb); replace O6 := hid (O6.out.step hb); replace P6 := hid (P6.out.step hb); replace HB := hid (below_then HB.out hb)
  clear hb
  rw [show takeF 5 [(5, 7), (6, 8)] = (5, [(6, 8)], 7, 0) from by decide +kernel] at o7 ⊢
  dsimp only at o7 ⊢
  obtain rfl : 1 = n7 := o7.sm.len
  have bx := below_box w7 (.cells (qcs A7 1 c7 5) 25)
  replace P1 := hid (P1.out.step bx); replace O3 := hid (O3.out.step bx); replace O6 := hid (O6.out.step bx); replace P6 := hid (P6.out.step bx); replace HB := hid (below_then HB.out bx)
  clear bx
  have P7 := hid (Blk.new w7 25 (qcs A7 1 c7 5))
  obtain ⟨y00, y01, yf0⟩ := P1.out.cells2
  go_wp2_with fail
  clear y00 y01 yf0
  generalize w7.alloc (.cells (qcs A7 1 c7 5) 25) = W7 at *
  clear P7 P6 O6
  clear o7
  refine (qend_any A3 2 c3 4 [(5, 7), (6, 8)] 6 W7 (O3.out.sm.mono (Nat.zero_le _) (Nat.le_refl _)) (by omega) (by omega)).mono ?_
  rintro e w8 ⟨A8, n8, c8, rfl, o8, hb, hnc8⟩
  replace P1 := hid (P1.out.step hb); replace O3 := hid (O3.out.step hb); replace HB := hid (below_then HB.out hb)
  clear hb
  rw [show endF 4 [(5, 7), (6, 8)] 6 = (6, [(5, 7), (6, 8)], 0) from by decide +kernel] at o8 ⊢
  dsimp only at o8 ⊢
  obtain rfl : 2 = n8 := o8.sm.len
  have O8 := hid o8
  clear o8
  have bx := below_box w8 (.cells (qcs A8 2 c8 6) 25)
  replace P1 := hid (P1.out.step bx); replace O3 := hid (O3.out.step bx); replace O8 := hid (O8.out.step bx); replace HB := hid (below_then HB.out bx)
  clear bx
  have P8 := hid (Blk.new w8 25 (qcs A8 2 c8 6))
  obtain ⟨y00, y01, yf0⟩ := P8.out.cells2
  go_wp2_with fail
  clear y00 y01 yf0
  generalize w8.alloc (.cells (qcs A8 2 c8 6) 25) = W8 at *
  refine (drain_any A8 2 c8 6 [(5, 7), (6, 8)] 5 W8 (O8.out.sm.mono (Nat.zero_le _) (Nat.le_refl _)) (by omega) (by omega)).mono ?_
  rintro e w9 ⟨A9, n9, c9, D9, m9, d9, rfl, o9, b9, hb, hnc9⟩
  replace P1 := hid (P1.out.step hb); replace O3 := hid (O3.out.step hb); replace O8 := hid (O8.out.step hb); replace P8 := hid (P8.out.step hb); replace HB := hid (below_then HB.out hb)
  clear hb
  rw [show drainF 6 [(5, 7), (6, 8)] 5 = (6, [], [7, 8], 0) from by decide +kernel] at o9 b9 ⊢
  dsimp only at o9 b9 ⊢
  obtain rfl : 0 = n9 := o9.sm.len
  obtain rfl : 2 = m9 := b9.len
  have B9 := hid b9
  clear o9 b9
  clear P8 O8
  have bx := below_box w9 (.cells (qcs A9 0 c9 6) 25)
  replace P1 := hid (P1.out.step bx); replace O3 := hid (O3.out.step bx); replace B9 := hid (B9.out.step bx); replace HB := hid (below_then HB.out bx)
  clear bx
  have P9 := hid (Blk.new w9 25 (qcs A9 0 c9 6))
  obtain ⟨y00, y01, yf0⟩ := P1.out.cells2
  go_wp2_with fail
  clear y00 y01 yf0
  generalize w9.alloc (.cells (qcs A9 0 c9 6) 25) = W9 at *
  refine (qsegs_any A3 2 c3 4 [(5, 7), (6, 8)] W9 (O3.out.sm.mono (Nat.zero_le _) (Nat.le_refl _)) (by omega) (by omega) hnc3).mono ?_
  rintro e w10 ⟨rfl, hb⟩
  replace P1 := hid (P1.out.step hb); replace O3 := hid (O3.out.step hb); replace B9 := hid (B9.out.step hb); replace P9 := hid (P9.out.step hb); replace HB := hid (below_then HB.out hb)
  clear hb
  rw [show segF 4 [(5, 7), (6, 8)] = (0, 1, 1) from by decide +kernel]
  dsimp only
  have E3 := eqd_tri 0 1 1 0 1 1
  have L := hid (Sm.toSl1 (Sm.lit (sz := 1) (enc := fun (x : Int) _ => u64v x) (d := (0 : Int)) (w := w10) (e := 23) (cs := #[.int .u64 7, .int .u64 8]) (g := w10.heap.size) [7, 8] rfl (by intro k hk j hj; have hk' : k < 2 := hk; have hj' : j < 1 := hj; match k, hk', j, hj' with | 0, _, 0, _ => rfl | 1, _, 0, _ => rfl)))
  have bx := below_box w10 (.cells #[.int .u64 7, .int .u64 8] 23)
  replace P1 := hid (P1.out.step bx); replace O3 := hid (O3.out.step bx); replace B9 := hid (B9.out.step bx); replace P9 := hid (P9.out.step bx); replace HB := hid (below_then HB.out bx)
  clear bx
  go_wp2_with fail
  refine (equal_u64 D9 _ 2 d9 2 2 _ _ _ _ _ _ _ (B9.out.sl (d := (0 : Int))) L.out (by omega) (by simp)).mono ?_
  rintro e w11 ⟨rfl, hb⟩
  replace P1 := hid (P1.out.step hb); replace O3 := hid (O3.out.step hb); replace B9 := hid (B9.out.step hb); replace P9 := hid (P9.out.step hb); replace HB := hid (below_then HB.out hb)
  rw [show decide (([7, 8] : List Int) = [7, 8]) = true from rfl]
  clear E3 hb L P1 P9 O3 B9 h0
  go_wp2
  refine bodyPost_ret (v := .bool true) (by simp [results, Try.results7, go_sem]) rfl ⟨rfl, HB.out⟩
end Go.Proofs.Ytkdbmlddndgjjaa
