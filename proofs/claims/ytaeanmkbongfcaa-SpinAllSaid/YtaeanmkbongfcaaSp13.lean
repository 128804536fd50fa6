/- The statements of chapter 05: laid. No condition. -/
import Derived.Test.YtaeanmkbongfcaaSp12
namespace Go.Proofs.Ytaeanmkbongfcaa
open Go.RowKit
def LaidPost (w : World) (e : Ending) (w' : World) : Prop :=
  ∃ A c B d, e = .returned (.tuple #[mv A 2 c B 2 d false, .bool true]) ∧ Mown w' w.heap.size A 2 c B 2 d [0, 0] [true, true] ∧ Below w.heap.size w w'
set_option maxRecDepth 100000 in
set_option maxHeartbeats 4000000 in
theorem laid_any (w : World) : Calls Try.prog 31 #[] w (LaidPost w) := by
  have HB := hid (Below.refl w.heap.size w)
  have bx := below_box w (.cells (mcs none 0 0 none 0 0 false) 25)
  replace HB := hid (below_then HB.out bx)
  clear bx
  have PR := hid (Blk.new w 25 (mcs none 0 0 none 0 0 false))
  go_enter Try.func31, Try.ntmps31
  go_wp2_with fail
  have hz0 := hid (show (w.alloc (.cells (mcs none 0 0 none 0 0 false) 25)).heap.size = w.heap.size + 1 by simp)
  generalize w.alloc (.cells (mcs none 0 0 none 0 0 false) 25) = W0 at *
  refine (mnew_ok 2 W0 (by omega) (by omega)).mono ?_
  rintro e w1 ⟨ga, gb, rfl, h1, hb⟩
  have hs1 := hid hb.size
  have HM := hid h1
  clear h1
  replace PR := hid (PR.out.step hb); replace HB := hid (below_then HB.out hb)
  clear hb
  have bx := below_box w1 (.cells (mcs (some ⟨ga, 0, none⟩) 2 2 (some ⟨gb, 0, none⟩) 2 2 false) 25)
  replace PR := hid (PR.out.step bx); replace HM := hid (HM.out.step bx); replace HB := hid (below_then HB.out bx)
  clear bx
  have PM := hid (Blk.new w1 25 (mcs (some ⟨ga, 0, none⟩) 2 2 (some ⟨gb, 0, none⟩) 2 2 false))
  obtain ⟨y00, y01, y02, yf0⟩ := PM.out.cells3
  go_wp2_with fail
  clear y00 y01 y02 yf0
  have hz1 := hid (show (w1.alloc (.cells (mcs (some ⟨ga, 0, none⟩) 2 2 (some ⟨gb, 0, none⟩) 2 2 false) 25)).heap.size = w1.heap.size + 1 by simp)
  generalize w1.alloc (.cells (mcs (some ⟨ga, 0, none⟩) 2 2 (some ⟨gb, 0, none⟩) 2 2 false) 25) = W1 at *
  refine (mlive_any _ 2 2 _ 2 2 false 0 2 _ _ W1 HM.out.mem (by omega) (by omega)).mono ?_
  rintro e w2 ⟨A2, n2, c2, B2, m2, d2, rfl, h2, hb⟩
  rw [show turnF (List.replicate 2 0, List.replicate 2 false, false) 0 2 true 0 5 = (0, ([0, 0], [true, true], false)) from by decide +kernel] at h2 ⊢
  dsimp only at h2 ⊢
  obtain rfl : 2 = n2 := h2.oa.len
  obtain rfl : 2 = m2 := h2.ob.len
  have hs2 := hid hb.size
  have HM2 := hid h2
  clear h2
  clear HM
  replace PR := hid (PR.out.step hb); replace PM := hid (PM.out.step hb); replace HB := hid (below_then HB.out hb)
  clear hb
  obtain ⟨y00, y01, y02, yf0⟩ := PM.out.cells3
  obtain ⟨z00, z01, z02, zf0⟩ := (((PM.out.setCell 0 (.slice A2 2 c2)).setCell 1 (.slice B2 2 d2)).setCell 2 (.bool false)).cells3
  go_wp2_with fail
  clear y00 y01 y02 yf0 z00 z01 z02 zf0
  replace HM2 := hid ((((HM2.out.setCell (p := ⟨w1.heap.size, 0, none⟩) (by have := hz1.out; show w1.heap.size < W1.heap.size; omega) (.slice A2 2 c2)).setCell (p := ⟨w1.heap.size, 1, none⟩) (by have := hz1.out; show w1.heap.size < W1.heap.size; omega) (.slice B2 2 d2)).setCell (p := ⟨w1.heap.size, 2, none⟩) (by have := hz1.out; show w1.heap.size < W1.heap.size; omega) (.bool false)))
  replace PR := hid ((((PR.out.far (p := ⟨w1.heap.size, 0, none⟩) (by have := hs1.out; have := hz0.out; show w.heap.size ≠ w1.heap.size; omega) (.slice A2 2 c2)).far (p := ⟨w1.heap.size, 1, none⟩) (by have := hs1.out; have := hz0.out; show w.heap.size ≠ w1.heap.size; omega) (.slice B2 2 d2)).far (p := ⟨w1.heap.size, 2, none⟩) (by have := hs1.out; have := hz0.out; show w.heap.size ≠ w1.heap.size; omega) (.bool false)))
  replace HB := hid ((((HB.out.setCell (p := ⟨w1.heap.size, 0, none⟩) (by have := hs1.out; have := hz0.out; show w.heap.size ≤ w1.heap.size; omega) (.slice A2 2 c2)).setCell (p := ⟨w1.heap.size, 1, none⟩) (by have := hs1.out; have := hz0.out; show w.heap.size ≤ w1.heap.size; omega) (.slice B2 2 d2)).setCell (p := ⟨w1.heap.size, 2, none⟩) (by have := hs1.out; have := hz0.out; show w.heap.size ≤ w1.heap.size; omega) (.bool false)))
  replace PM := hid ((((PM.out.setCell 0 (.slice A2 2 c2)).setCell 1 (.slice B2 2 d2)).setCell 2 (.bool false)))
  have hz2 := hid (show (((w2.setCell ⟨w1.heap.size, 0, none⟩ (.slice A2 2 c2)).setCell ⟨w1.heap.size, 1, none⟩ (.slice B2 2 d2)).setCell ⟨w1.heap.size, 2, none⟩ (.bool false)).heap.size = w2.heap.size by simp)
  generalize ((w2.setCell ⟨w1.heap.size, 0, none⟩ (.slice A2 2 c2)).setCell ⟨w1.heap.size, 1, none⟩ (.slice B2 2 d2)).setCell ⟨w1.heap.size, 2, none⟩ (.bool false) = W2 at *
  refine (splay_any A2 2 c2 B2 2 d2 false [0, 0] [true, true] 0 W2 HM2.out.mem).mono ?_
  rintro e w3 ⟨A3, n3, c3, B3, m3, d3, rfl, h3, hb⟩
  rw [show layF ([0, 0], [true, true], false) 0 = (0, ([0, 0], [true, true], false)) from by decide +kernel] at h3 ⊢
  dsimp only at h3 ⊢
  obtain rfl : 2 = n3 := h3.oa.len
  obtain rfl : 2 = m3 := h3.ob.len
  have hs3 := hid hb.size
  have HM3 := hid h3
  clear h3
  clear HM2
  replace PR := hid (PR.out.step hb); replace PM := hid (PM.out.step hb); replace HB := hid (below_then HB.out hb)
  clear hb
  obtain ⟨y00, y01, y02, yf0⟩ := PM.out.cells3
  obtain ⟨y10, y11, y12, yf1⟩ := PR.out.cells3
  obtain ⟨z00, z01, z02, zf0⟩ := (((PM.out.setCell 0 (.slice A3 2 c3)).setCell 1 (.slice B3 2 d3)).setCell 2 (.bool false)).cells3
  have hne := hid (show w.heap.size ≠ w1.heap.size by have := hs1.out; have := hz0.out; omega)
  have hlo := hid (show w.heap.size < W2.heap.size ∧ w1.heap.size < W2.heap.size ∧ w.heap.size ≤ w1.heap.size by have := hs1.out; have := hz0.out; have := hz1.out; have := hz2.out; have := hs2.out; omega)
  have PR2 := hid (((PR.out.far (p := ⟨w1.heap.size, 0, none⟩) hne.out (.slice A3 2 c3)).far (p := ⟨w1.heap.size, 1, none⟩) hne.out (.slice B3 2 d3)).far (p := ⟨w1.heap.size, 2, none⟩) hne.out (.bool false))
  obtain ⟨v00, v01, v02, vf0⟩ := PR2.out.cells3
  go_wp2
  obtain ⟨q0, q1, q2, qf⟩ := (((PR2.out.setCell 0 (.slice A3 2 c3)).setCell 1 (.slice B3 2 d3)).setCell 2 (.bool false)).cells3
  refine bodyPost_ret (v := .tuple #[mv A3 2 c3 B3 2 d3 false, .bool true]) (by simp [results, Try.results31, go_sem, q0, q1, q2]) rfl ⟨A3, c3, B3, d3, rfl, ?_, ?_⟩
  · exact ((((((HM3.out.setCell hlo.out.2.1 _).setCell hlo.out.2.1 _).setCell hlo.out.2.1 _).setCell hlo.out.1 _).setCell hlo.out.1 _).setCell hlo.out.1 _).mono (Nat.le_of_lt hlo.out.1)
  · exact (((((HB.out.setCell hlo.out.2.2 _).setCell hlo.out.2.2 _).setCell hlo.out.2.2 _).setCell (Nat.le_refl _) _).setCell (Nat.le_refl _) _).setCell (Nat.le_refl _) _
end Go.Proofs.Ytaeanmkbongfcaa
