/- The statements of chapter 11: wakes answers true. No condition. -/
import Derived.Test.YtannechjcdgeeaaRd13
namespace Go.Proofs.Ytannechjcdgeeaa
open Go.RowKit Go.Shelf Go.Maps

theorem Sm.lit {α : Type} {sz : Nat} {enc : α → Nat → Value} {d : α} {w : World} {e : TypeId} {cs : Array Value} {g : Nat} (xs : List α) (hg : g = w.heap.size) (hc : ∀ k, k < xs.length → ∀ j, j < sz → cs[k * sz + j]? = some (enc (xs[k]?.getD d) j)) :
    Sm sz enc d (w.alloc (.cells cs e)) 0 (w.alloc (.cells cs e)).heap.size (some ⟨g, 0, none⟩) xs.length xs := by
  subst hg
  refine ⟨rfl, fun _ => ⟨w.heap.size, 0, rfl, Nat.zero_le _, by simp, fun k hk j hj => ?_⟩⟩
  rw [Nat.zero_add, (Blk.new w e cs).cell, hc k hk j hj]

set_option maxRecDepth 100000 in
set_option maxHeartbeats 4000000 in
theorem wakes_any (w : World) : Calls Try.prog 6 #[] w fun e w' => e = .returned (.bool true) ∧ Below w.heap.size w w' := by
  go_enter Try.func6, Try.ntmps6
  go_wp2_with fail
  refine (new_ok 2 w (by omega) (by omega)).mono ?_
  rintro e w1 ⟨A1, B1, rfl, h1, hB⟩
  have bx1 := below_box w1 (.cells (rcs 0 A1 2 2 B1 2 2) 24)
  have R1 := h1.rds.step bx1
  have P1 := Blk.new w1 24 (rcs 0 A1 2 2 B1 2 2)
  replace hB := below_then hB bx1
  have L1 := Sm.lit (sz := 2) (enc := encR) (d := (0, false)) (w := w1.alloc (.cells (rcs 0 A1 2 2 B1 2 2) 24)) (e := 32) (cs := #[.int .i64 0, .bool true, .int .i64 1, .bool true, .int .i64 0, .bool true, .int .i64 0, .bool false]) (g := w1.heap.size + 1) [(0, true), (1, true), (0, true), (0, false)] (by simp) (by intro k hk j hj; have hk' : k < 4 := hk; have hj' : j < 2 := hj; match k, hk', j, hj' with | 0, _, 0, _ => rfl | 0, _, 1, _ => rfl | 1, _, 0, _ => rfl | 1, _, 1, _ => rfl | 2, _, 0, _ => rfl | 2, _, 1, _ => rfl | 3, _, 0, _ => rfl | 3, _, 1, _ => rfl)
  obtain ⟨q00, q01, q02, q0f⟩ := P1.cells3
  go_wp2_with fail
  clear q00 q01 q02 q0f
  have bl := below_box (w1.alloc (.cells (rcs 0 A1 2 2 B1 2 2) 24)) (.cells #[.int .i64 0, .bool true, .int .i64 1, .bool true, .int .i64 0, .bool true, .int .i64 0, .bool false] 32)
  replace R1 := R1.step bl
  replace hB := below_then hB bl
  clear bl P1 h1 bx1
  generalize (w1.alloc (.cells #[.int .i64 0, .slice A1 2 2, .slice B1 2 2] 24)).alloc (.cells #[.int .i64 0, .bool true, .int .i64 1, .bool true, .int .i64 0, .bool true, .int .i64 0, .bool false] 32) = W1 at *
  refine (run_any 0 A1 2 2 B1 2 2 _ _ _ 4 4 _ W1 R1 L1 (by omega)).mono ?_
  rintro e w2 ⟨A2, n2, c2, B2, m2, d2, rfl, h2, hb⟩
  replace hB := below_then hB hb
  have e2 : runF 0 (List.replicate 2 0) (List.replicate 2 0) [(0, true), (1, true), (0, true), (0, false)] = (0, 4, (4, [1, 1], [1, 2])) := by decide +kernel
  rw [e2] at h2 ⊢
  clear e2 R1 L1 hb
  dsimp only at h2 ⊢
  obtain rfl : 2 = n2 := h2.oa.len
  obtain rfl : 2 = m2 := h2.ob.len
  have bx2 := below_box w2 (.cells (rcs 4 A2 2 c2 B2 2 d2) 24)
  have R2 := h2.rds.step bx2
  have P2 := Blk.new w2 24 (rcs 4 A2 2 c2 B2 2 d2)
  replace hB := below_then hB bx2
  clear h2 bx2
  obtain ⟨q00, q01, q02, q0f⟩ := P2.cells3
  go_wp2_with fail
  clear q00 q01 q02 q0f
  generalize w2.alloc (.cells #[.int .i64 4, .slice A2 2 c2, .slice B2 2 d2] 24) = W2 at *
  refine (callsIn_wide.1 (oldest_good 4 A2 2 c2 B2 2 d2 [1, 1] [1, 2] W2 R2 (by decide +kernel))).mono ?_
  rintro e w3 ⟨rfl, hb⟩
  replace R2 := R2.step hb
  replace P2 := P2.step hb
  replace hB := below_then hB hb
  rw [show oldF (secL [1, 1] [1, 2] 2) = 1 from by decide +kernel]
  obtain ⟨q00, q01, q02, q0f⟩ := P2.cells3
  go_wp2_with fail
  clear q00 q01 q02 q0f
  refine (leave1_any 4 A2 2 c2 B2 2 d2 [1, 1] [1, 2] 0 w3 R2).mono ?_
  rintro e w4 ⟨A4, n4, c4, B4, m4, d4, rfl, h4, hb4⟩
  replace R2 := R2.step hb4
  replace P2 := P2.step hb4
  replace hB := below_then hB hb4
  rw [show oneF 4 [1, 1] [1, 2] (0, false) = (0, (5, [0, 1], [0, 2])) from by decide +kernel] at h4 ⊢
  dsimp only at h4 ⊢
  obtain rfl : 2 = n4 := h4.oa.len
  obtain rfl : 2 = m4 := h4.ob.len
  have bx4 := below_box w4 (.cells (rcs 5 A4 2 c4 B4 2 d4) 24)
  have R4 := h4.rds.step bx4
  have P4 := Blk.new w4 24 (rcs 5 A4 2 c4 B4 2 d4)
  replace R2 := R2.step bx4
  replace P2 := P2.step bx4
  replace hB := below_then hB bx4
  clear h4 bx4 hb4
  obtain ⟨q00, q01, q02, q0f⟩ := P2.cells3
  obtain ⟨q10, q11, q12, q1f⟩ := P4.cells3
  go_wp2_with fail
  clear q00 q01 q02 q0f
  clear q10 q11 q12 q1f
  generalize w4.alloc (.cells #[.int .i64 5, .slice A4 2 c4, .slice B4 2 d4] 24) = W4 at *
  refine (leave1_any 5 A4 2 c4 B4 2 d4 [0, 1] [0, 2] 0 W4 R4).mono ?_
  rintro e w5 ⟨A5, n5, c5, B5, m5, d5, rfl, h5, hb5⟩
  replace R2 := R2.step hb5
  replace P2 := P2.step hb5
  replace R4 := R4.step hb5
  replace P4 := P4.step hb5
  replace hB := below_then hB hb5
  rw [show oneF 5 [0, 1] [0, 2] (0, false) = (4, (0, [], [])) from by decide +kernel] at h5 ⊢
  dsimp only at h5 ⊢
  obtain rfl : 0 = n5 := h5.oa.len
  obtain rfl : 0 = m5 := h5.ob.len
  have bx5 := below_box w5 (.cells (rcs 0 A5 0 c5 B5 0 d5) 24)
  have R5 := h5.rds.step bx5
  have P5 := Blk.new w5 24 (rcs 0 A5 0 c5 B5 0 d5)
  replace R2 := R2.step bx5
  replace P2 := P2.step bx5
  replace R4 := R4.step bx5
  replace P4 := P4.step bx5
  replace hB := below_then hB bx5
  have S2 := Sl.lit (enc := i64) (d := 0) (w := w5.alloc (.cells (rcs 0 A5 0 c5 B5 0 d5) 24)) (e := 3) (g := w5.heap.size + 1) [1, 2] #[.int .i64 1, .int .i64 2] (by simp) rfl
  clear h5 hb5
  obtain ⟨q00, q01, q02, q0f⟩ := P2.cells3
  go_wp2_with fail
  clear q00 q01 q02 q0f
  have bl := below_box (w5.alloc (.cells (rcs 0 A5 0 c5 B5 0 d5) 24)) (.cells #[.int .i64 1, .int .i64 2] 3)
  replace R2 := R2.step bl; replace P2 := P2.step bl; replace R4 := R4.step bl; replace P4 := P4.step bl
  replace hB := below_then hB bl
  clear bl bx5 P5 R5
  generalize (w5.alloc (.cells #[.int .i64 0, .slice A5 0 c5, .slice B5 0 d5] 24)).alloc (.cells #[.int .i64 1, .int .i64 2] 3) = W5 at *
  refine (eq_below B2 _ 2 d2 2 2 [1, 2] [1, 2] R2.hy S2 (by omega) (by simp)).mono ?_
  rintro e w6 ⟨rfl, hb⟩
  replace R2 := R2.step hb
  replace P2 := P2.step hb
  replace R4 := R4.step hb
  replace P4 := P4.step hb
  replace hB := below_then hB hb
  rw [show decide (([1, 2] : List Int) = [1, 2]) = true from rfl]
  clear S2 hb
  obtain ⟨q00, q01, q02, q0f⟩ := P2.cells3
  go_wp2_with fail
  clear q00 q01 q02 q0f
  refine (passed_any 4 A2 2 c2 B2 2 d2 [1, 1] [1, 2] 0 w6 R2).mono ?_
  rintro e w7 ⟨rfl, hb⟩
  replace R2 := R2.step hb
  replace P2 := P2.step hb
  replace R4 := R4.step hb
  replace P4 := P4.step hb
  replace hB := below_then hB hb
  rw [show decide (PassedP 4 [1, 1] [1, 2] 0) = true from by decide +kernel]
  obtain ⟨q00, q01, q02, q0f⟩ := P2.cells3
  go_wp2_with fail
  clear q00 q01 q02 q0f
  refine (passed_any 4 A2 2 c2 B2 2 d2 [1, 1] [1, 2] 1 w7 R2).mono ?_
  rintro e w8 ⟨rfl, hb⟩
  replace R2 := R2.step hb
  replace P2 := P2.step hb
  replace R4 := R4.step hb
  replace P4 := P4.step hb
  replace hB := below_then hB hb
  rw [show decide (PassedP 4 [1, 1] [1, 2] 1) = false from by decide +kernel]
  obtain ⟨q00, q01, q02, q0f⟩ := P4.cells3
  go_wp2_with fail
  clear q00 q01 q02 q0f
  refine (passed_any 5 A4 2 c4 B4 2 d4 [0, 1] [0, 2] 1 w8 R4).mono ?_
  rintro e w9 ⟨rfl, hb⟩
  replace R4 := R4.step hb
  replace P4 := P4.step hb
  replace hB := below_then hB hb
  rw [show decide (PassedP 5 [0, 1] [0, 2] 1) = true from by decide +kernel]
  obtain ⟨q00, q01, q02, q0f⟩ := P4.cells3
  go_wp2_with fail
  clear q00 q01 q02 q0f
  refine (passed_any 5 A4 2 c4 B4 2 d4 [0, 1] [0, 2] 2 w9 R4).mono ?_
  rintro e w10 ⟨rfl, hb⟩
  replace R4 := R4.step hb
  replace P4 := P4.step hb
  replace hB := below_then hB hb
  rw [show decide (PassedP 5 [0, 1] [0, 2] 2) = false from by decide +kernel]
  obtain ⟨q00, q01, q02, q0f⟩ := P4.cells3
  go_wp2_with fail
  clear q00 q01 q02 q0f
  refine (quiet_any 5 A4 2 c4 B4 2 d4 [0, 1] [0, 2] 0 w10 R4).mono ?_
  rintro e w11 ⟨rfl, hb⟩
  replace hB := below_then hB hb
  rw [show decide (QuietP 5 [0, 1] [0, 2] 0) = true from by decide +kernel]
  have HB := hid hB
  clear hB hb
  go_wp2
  go_ret
  exact ⟨rfl, HB.out⟩
end Go.Proofs.Ytannechjcdgeeaa
