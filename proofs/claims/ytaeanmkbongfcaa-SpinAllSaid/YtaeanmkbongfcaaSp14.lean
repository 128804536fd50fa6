/- The statements of chapter 05: wakes. No condition. -/
import Derived.Test.YtaeanmkbongfcaaSp13
namespace Go.Proofs.Ytaeanmkbongfcaa
open Go.RowKit
set_option maxRecDepth 100000 in
set_option maxHeartbeats 4000000 in
theorem spwakes_any (w : World) : Calls Try.prog 8 #[] w fun e w' => e = .returned (.bool true) ∧ Below w.heap.size w w' := by
  have HB := hid (Below.refl w.heap.size w)
  go_enter Try.func8, Try.ntmps8
  go_wp2_with fail
  refine (laid_any w).mono ?_
  rintro e w1 ⟨A1, c1, B1, d1, rfl, h1, hb⟩
  have HM := hid h1
  clear h1
  replace HB := hid (below_then HB.out hb)
  clear hb
  have bx := below_box w1 (.cells (mcs A1 2 c1 B1 2 d1 false) 25)
  replace HM := hid (HM.out.step bx); replace HB := hid (below_then HB.out bx)
  clear bx
  have PM := hid (Blk.new w1 25 (mcs A1 2 c1 B1 2 d1 false))
  obtain ⟨y00, y01, y02, yf0⟩ := PM.out.cells3
  go_wp2_with fail
  clear y00 y01 y02 yf0
  generalize w1.alloc (.cells (mcs A1 2 c1 B1 2 d1 false) 25) = W1 at *
  refine (ask_any 0 W1).mono ?_
  rintro e w2 ⟨rfl, hb⟩
  replace HM := hid (HM.out.step hb); replace PM := hid (PM.out.step hb); replace HB := hid (below_then HB.out hb)
  clear hb
  go_wp2_with fail
  refine (ask_any 0 w2).mono ?_
  rintro e w3 ⟨rfl, hb⟩
  replace HM := hid (HM.out.step hb); replace PM := hid (PM.out.step hb); replace HB := hid (below_then HB.out hb)
  clear hb
  go_upto_region 3 with fail
  have HL := hid (Sm.lit (sz := 3) (enc := encS) (d := ((0 : Int), (0 : Int), (0 : Int))) (w := w3) (e := 38) (cs := #[.int .i64 0, .int .i64 0, .int .u64 0, .int .i64 0, .int .i64 0, .int .u64 0]) (g := w3.heap.size) [(0, 0, 0), (0, 0, 0)] (by simp) (by intro k hk j hj; have hk' : k < 2 := hk; have hj' : j < 3 := hj; match k, hk', j, hj' with | 0, _, 0, _ => rfl | 0, _, 1, _ => rfl | 0, _, 2, _ => rfl | 1, _, 0, _ => rfl | 1, _, 1, _ => rfl | 1, _, 2, _ => rfl))
  have bx := below_box w3 (.cells #[.int .i64 0, .int .i64 0, .int .u64 0, .int .i64 0, .int .i64 0, .int .u64 0] 38)
  replace HM := hid (HM.out.step bx); replace PM := hid (PM.out.step bx); replace HB := hid (below_then HB.out bx)
  clear bx
  generalize w3.alloc (.cells #[.int .i64 0, .int .i64 0, .int .u64 0, .int .i64 0, .int .i64 0, .int .u64 0] 38) = W4 at *
  obtain ⟨y00, y01, y02, yf0⟩ := PM.out.cells3
  go_wp2_with fail
  clear y00 y01 y02 yf0
  have HQ := hid (Sl.lit (enc := i64) (d := 0) (w := W4) (e := 3) (g := W4.heap.size) [0, 1, 0, 1, 1, 1, 1, 0, 0, 1, 1] (#[.int .i64 0, .int .i64 1, .int .i64 0, .int .i64 1, .int .i64 1, .int .i64 1, .int .i64 1, .int .i64 0, .int .i64 0, .int .i64 1, .int .i64 1]) (by simp) (by simp))
  have bx := below_box W4 (.cells #[.int .i64 0, .int .i64 1, .int .i64 0, .int .i64 1, .int .i64 1, .int .i64 1, .int .i64 1, .int .i64 0, .int .i64 0, .int .i64 1, .int .i64 1] 3)
  replace HM := hid (HM.out.step bx); replace PM := hid (PM.out.step bx); replace HL := hid (HL.out.step bx); replace HB := hid (below_then HB.out bx)
  clear bx
  generalize W4.alloc (.cells #[.int .i64 0, .int .i64 1, .int .i64 0, .int .i64 1, .int .i64 1, .int .i64 1, .int .i64 1, .int .i64 0, .int .i64 0, .int .i64 1, .int .i64 1] 3) = W5 at *
  refine (spplay_any A1 2 c1 B1 2 d1 false [0, 0] [true, true] _ 2 2 [(0, 0, 0), (0, 0, 0)] _ 11 11 [0, 1, 0, 1, 1, 1, 1, 0, 0, 1, 1] W5 HM.out.mem HL.out (by omega) HQ.out (by omega)).mono ?_
  rintro e w6 ⟨A6, n6, c6, B6, k6, d6, L6, nl6, cl6, G6, ng6, cg6, rfl, hm6, hl6, hg6, hb⟩
  rw [show spPlayF ([0, 0], [true, true], false) [(0, 0, 0), (0, 0, 0)] [0, 1, 0, 1, 1, 1, 1, 0, 0, 1, 1] = (0, ([2, 2], [true, true], false), [(0, 5, 0), (0, 5, 1)], [0, 1]) from by decide +kernel] at hm6 hl6 hg6 ⊢
  dsimp only at hm6 hl6 hg6 ⊢
  obtain rfl : 2 = n6 := hm6.oa.len
  obtain rfl : 2 = k6 := hm6.ob.len
  obtain rfl : 2 = nl6 := hl6.len
  obtain rfl : 2 = ng6 := hg6.len
  have M6 := hid hm6; have L6' := hid hl6; have G6' := hid hg6
  clear hm6 hl6 hg6
  clear HL HQ HM PM
  replace HB := hid (below_then HB.out hb)
  clear hb
  obtain ⟨ga, rfl, _⟩ := M6.out.oa.at_ 0 (k := 0) (by omega)
  obtain ⟨gl, rfl, _⟩ := L6'.out.at_ (0, 0, 0) (k := 0) (by omega)
  have bx := below_box w6 (.cells (mcs (some ⟨ga, 0, none⟩) 2 c6 B6 2 d6 false) 25)
  replace M6 := hid (M6.out.step bx); replace L6' := hid (L6'.out.step bx); replace G6' := hid (G6'.out.step bx); replace HB := hid (below_then HB.out bx)
  clear bx
  have P6 := hid (Blk.new w6 25 (mcs (some ⟨ga, 0, none⟩) 2 c6 B6 2 d6 false))
  obtain ⟨ga', hga, _, _, a0, _⟩ := M6.out.oa.at_ 0 (k := 0) (by omega)
  obtain rfl : ga = ga' := by simpa using hga
  obtain ⟨ga', hga', _, _, a1, _⟩ := M6.out.oa.at_ 0 (k := 1) (by omega)
  obtain rfl : ga = ga' := by simpa using hga'
  clear hga hga'
  obtain ⟨y00, y01, y02, yf0⟩ := P6.out.cells3
  go_wp2_with fail
  clear a0 a1 y00 y01 y02 yf0
  have hz6 := hid (show (w6.alloc (.cells (mcs (some ⟨ga, 0, none⟩) 2 c6 B6 2 d6 false) 25)).heap.size = w6.heap.size + 1 by simp)
  generalize w6.alloc (.cells (mcs (some ⟨ga, 0, none⟩) 2 c6 B6 2 d6 false) 25) = W6 at *
  have HK := hid (Sl.lit (enc := i64) (d := 0) (w := W6) (e := 3) (g := w6.heap.size + 1) [0, 1] (#[.int .i64 0, .int .i64 1]) (by have := hz6.out; omega) (by simp))
  have bx := below_box W6 (.cells #[.int .i64 0, .int .i64 1] 3)
  replace M6 := hid (M6.out.step bx); replace L6' := hid (L6'.out.step bx); replace G6' := hid (G6'.out.step bx); replace P6 := hid (P6.out.step bx); replace HB := hid (below_then HB.out bx)
  clear bx
  generalize W6.alloc (.cells #[.int .i64 0, .int .i64 1] 3) = W7 at *
  refine (equal_int G6 _ 2 cg6 2 2 _ _ _ _ _ _ W7 (G6'.out.sl (d := (0 : Int))) HK.out (by omega) (by simp)).mono ?_
  rintro e w8 ⟨rfl, q, rfl⟩
  rw [show decide (([0, 1] : List Int) = [0, 1]) = true from rfl]
  have hb := below_drewN (Below.refl W7.heap.size W7) q
  replace M6 := hid (M6.out.step hb); replace L6' := hid (L6'.out.step hb); replace G6' := hid (G6'.out.step hb); replace P6 := hid (P6.out.step hb); replace HK := hid (HK.out.step hb); replace HB := hid (below_then HB.out hb)
  clear hb
  generalize W7.drewN q = W8 at *
  obtain ⟨gl', hgl, _, _, hc0, _⟩ := L6'.out.at_ (0, 0, 0) (k := 0) (by omega)
  obtain rfl : gl = gl' := by simpa using hgl
  obtain ⟨gl', hgl, _, _, hc1, _⟩ := L6'.out.at_ (0, 0, 0) (k := 1) (by omega)
  obtain rfl : gl = gl' := by simpa using hgl
  have l0 : W8.cell? ⟨gl, 1, none⟩ = some (.int .i64 5) := hc0 1 (by omega)
  have l1 : W8.cell? ⟨gl, 4, none⟩ = some (.int .i64 5) := hc1 1 (by omega)
  clear hgl hc0 hc1
  go_wp2
  go_ret
  exact ⟨rfl, HB.out⟩
end Go.Proofs.Ytaeanmkbongfcaa
