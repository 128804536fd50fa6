/- The statements of chapter 02: small, wakes, none. No condition. -/
import Derived.Test.YtenhojdhjfoomaaMSp2
namespace Go.Proofs.Ytenhojdhjfoomaa
open Go.RowKit
theorem Sm.lit {α : Type} {sz : Nat} {enc : α → Nat → Value} {d : α} {w : World} {e : TypeId} {cs : Array Value} {g : Nat} (xs : List α) (hg : g = w.heap.size) (hc : ∀ k, k < xs.length → ∀ j, j < sz → cs[k * sz + j]? = some (enc (xs[k]?.getD d) j)) :
    Sm sz enc d (w.alloc (.cells cs e)) 0 (w.alloc (.cells cs e)).heap.size (some ⟨g, 0, none⟩) xs.length xs := by
  subst hg
  refine ⟨rfl, fun _ => ⟨w.heap.size, 0, rfl, Nat.zero_le _, by simp, fun k hk j hj => ?_⟩⟩
  rw [Nat.zero_add, (Blk.new w e cs).cell, hc k hk j hj]
def SmallPost (w : World) (e : Ending) (w' : World) : Prop :=
  ∃ A c B d, e = .returned (.tuple #[mv A 8 c B 8 d false, .bool true]) ∧ Mown w' w.heap.size A 8 c B 8 d [0, 0, 0, 0, 0, 0, 0, 0] [false, false, true, true, true, false, false, false] ∧ Below w.heap.size w w'
set_option maxRecDepth 100000 in
set_option maxHeartbeats 4000000 in
theorem small_any (w : World) : Calls Try.prog 29 #[] w (SmallPost w) := by
  have hB := below_box w (.cells (mcs none 0 0 none 0 0 false) 25)
  have P0 := Blk.new w 25 (mcs none 0 0 none 0 0 false)
  go_enter Try.func29, Try.ntmps29
  go_wp2_with fail
  refine (mnew_ok 8 _ (by omega) (by omega)).mono ?_
  rintro e w1 ⟨ga, gb, rfl, h1, hb⟩
  replace P0 := P0.step hb
  have h01 : w.heap.size < w1.heap.size := P0.lt
  replace hB := below_then hB hb
  have bx1 := below_box w1 (.cells (mcs (some ⟨ga, 0, none⟩) 8 8 (some ⟨gb, 0, none⟩) 8 8 false) 25)
  have O1 := h1.step bx1
  have R1 := O1.mem
  have P1 := Blk.new w1 25 (mcs (some ⟨ga, 0, none⟩) 8 8 (some ⟨gb, 0, none⟩) 8 8 false)
  replace P0 := P0.step bx1
  replace hB := below_then hB bx1
  clear bx1
  obtain ⟨q00, q01, q02, q0f⟩ := P1.cells3
  go_wp2_with fail
  clear q00 q01 q02 q0f
  generalize (w1.alloc (.cells #[.slice (some ⟨ga, 0, none⟩) 8 8, .slice (some ⟨gb, 0, none⟩) 8 8, .bool false] 25)) = W1 at *
  clear h1 hb
  refine (mlive_any _ 8 8 _ 8 8 false 2 3 _ _ W1 R1 (by omega) (by omega)).mono ?_
  rintro e w2 ⟨A2, n2, c2, B2, m2, d2, rfl, h2, hb2⟩
  rw [show turnF (List.replicate 8 0, List.replicate 8 false, false) 2 3 true 0 5 = (0, ([0, 0, 0, 0, 0, 0, 0, 0], [false, false, true, true, true, false, false, false], false)) from by decide +kernel] at h2 ⊢
  dsimp only at h2 ⊢
  obtain rfl : 8 = n2 := h2.oa.len
  obtain rfl : 8 = m2 := h2.ob.len
  have hz1 : w1.heap.size < W1.heap.size := P1.lt
  have hz0 : w.heap.size < W1.heap.size := P0.lt
  have hne : w.heap.size ≠ w1.heap.size := by omega
  replace P1 := P1.step hb2; replace P0 := P0.step hb2; replace hB := below_then hB hb2
  have Q2 := ((P1.setCell 0 (.slice A2 8 c2)).setCell 1 (.slice B2 8 d2)).setCell 2 (.bool false)
  have Q0 := ((P0.far (p := ⟨w1.heap.size, 0, none⟩) hne (.slice A2 8 c2)).far (p := ⟨w1.heap.size, 1, none⟩) hne (.slice B2 8 d2)).far (p := ⟨w1.heap.size, 2, none⟩) hne (.bool false)
  obtain ⟨p0, p1, p2, pf⟩ := P1.cells3
  obtain ⟨k0, k1, k2, kf⟩ := Q2.cells3
  obtain ⟨r0, r1, r2, rf⟩ := Q0.cells3
  have HQ := hid Q0; have HB := hid hB; have H2 := hid h2
  clear P1 P0 Q2 Q0 hB h2 hb2 R1 O1
  go_wp2
  obtain ⟨q0, q1, q2, qf⟩ := (((HQ.out.setCell 0 (.slice A2 8 c2)).setCell 1 (.slice B2 8 d2)).setCell 2 (.bool false)).cells3
  refine bodyPost_ret (v := .tuple #[mv A2 8 c2 B2 8 d2 false, .bool true]) (by simp [results, Try.results29, go_sem, q0, q1, q2]) rfl ⟨A2, c2, B2, d2, rfl, ?_, ?_⟩
  · exact ((((((H2.out.setCell hz1 _).setCell hz1 _).setCell hz1 _).setCell hz0 _).setCell hz0 _).setCell hz0 _).mono (by omega)
  · exact (((((HB.out.setCell (Nat.le_of_lt h01) _).setCell (Nat.le_of_lt h01) _).setCell (Nat.le_of_lt h01) _).setCell (Nat.le_refl _) _).setCell (Nat.le_refl _) _).setCell (Nat.le_refl _) _

set_option maxRecDepth 100000 in
set_option maxHeartbeats 4000000 in
theorem mwakes_any (w : World) : Calls Try.prog 8 #[] w fun e w' => e = .returned (.bool true) ∧ Below w.heap.size w w' := by
  have hB := Below.refl w.heap.size w
  go_enter Try.func8, Try.ntmps8
  go_wp2_with fail
  refine (small_any w).mono ?_
  rintro e w1 ⟨A1, c1, B1, d1, rfl, h1, hb⟩
  replace hB := below_then hB hb
  have L1 := Sm.lit (sz := 4) (enc := encA) (d := (0, 0, 0, 0)) (w := w1.alloc (.cells (mcs A1 8 c1 B1 8 d1 false) 25)) (e := 44) (cs := #[.int .i64 2, .int .i64 3, .int .u64 0, .int .u64 7, .int .i64 3, .int .i64 3, .int .u64 7, .int .u64 9, .int .i64 3, .int .i64 3, .int .u64 7, .int .u64 1, .int .i64 1, .int .i64 5, .int .u64 0, .int .u64 0]) (g := w1.heap.size + 1) [(2, 3, 0, 7), (3, 3, 7, 9), (3, 3, 7, 1), (1, 5, 0, 0)] (by simp) (by intro k hk j hj; have hk' : k < 4 := hk; have hj' : j < 4 := hj; match k, hk', j, hj' with | 0, _, 0, _ => rfl | 0, _, 1, _ => rfl | 0, _, 2, _ => rfl | 0, _, 3, _ => rfl | 1, _, 0, _ => rfl | 1, _, 1, _ => rfl | 1, _, 2, _ => rfl | 1, _, 3, _ => rfl | 2, _, 0, _ => rfl | 2, _, 1, _ => rfl | 2, _, 2, _ => rfl | 2, _, 3, _ => rfl | 3, _, 0, _ => rfl | 3, _, 1, _ => rfl | 3, _, 2, _ => rfl | 3, _, 3, _ => rfl)
  have bx1 := below_box w1 (.cells (mcs A1 8 c1 B1 8 d1 false) 25)
  have O1 := h1.step bx1
  have R1 := O1.mem
  have P1 := Blk.new w1 25 (mcs A1 8 c1 B1 8 d1 false)
  replace hB := below_then hB bx1
  clear bx1
  obtain ⟨q00, q01, q02, q0f⟩ := P1.cells3
  go_wp2_with fail
  clear q00 q01 q02 q0f
  have bl := below_box (w1.alloc (.cells #[.slice A1 8 c1, .slice B1 8 d1, .bool false] 25)) (.cells #[.int .i64 2, .int .i64 3, .int .u64 0, .int .u64 7, .int .i64 3, .int .i64 3, .int .u64 7, .int .u64 9, .int .i64 3, .int .i64 3, .int .u64 7, .int .u64 1, .int .i64 1, .int .i64 5, .int .u64 0, .int .u64 0] 44)
  replace R1 := R1.step bl; replace P1 := P1.step bl
  replace hB := below_then hB bl
  clear bl h1 O1
  generalize (w1.alloc (.cells #[.slice A1 8 c1, .slice B1 8 d1, .bool false] 25)).alloc (.cells #[.int .i64 2, .int .i64 3, .int .u64 0, .int .u64 7, .int .i64 3, .int .i64 3, .int .u64 7, .int .u64 9, .int .i64 3, .int .i64 3, .int .u64 7, .int .u64 1, .int .i64 1, .int .i64 5, .int .u64 0, .int .u64 0] 44) = W1 at *
  refine (mrun_good A1 8 c1 B1 8 d1 false _ _ _ 4 4 _ W1 R1 L1 (by omega) (by decide +kernel)).mono ?_
  rintro e w2 ⟨A2, n2, c2, B2, m2, d2, G, ng, cg, rfl, h2, g2, hb2⟩
  rw [show runMF ([0, 0, 0, 0, 0, 0, 0, 0], [false, false, true, true, true, false, false, false], false) [(2, 3, 0, 7), (3, 3, 7, 9), (3, 3, 7, 1), (1, 5, 0, 0)] = (0, ([0, 0, 0, 9, 0, 0, 0, 0], [false, false, true, true, true, false, false, false], true), [(0, true), (7, true), (9, false), (0, false)]) from by decide +kernel] at h2 g2 ⊢
  dsimp only at h2 g2 ⊢
  obtain rfl : 8 = n2 := h2.oa.len
  obtain rfl : 8 = m2 := h2.ob.len
  obtain rfl : 4 = ng := g2.len
  have h1l : w1.heap.size < W1.heap.size := P1.lt
  have h1w : w.heap.size ≤ w1.heap.size := by have := hb.size; exact this
  replace P1 := P1.step hb2; replace hB := below_then hB hb2
  obtain ⟨p0, p1, p2, pf⟩ := P1.cells3
  have O2 := ((h2.setCell (p := ⟨w1.heap.size, 0, none⟩) h1l (.slice A2 8 c2)).setCell (p := ⟨w1.heap.size, 1, none⟩) h1l (.slice B2 8 d2)).setCell (p := ⟨w1.heap.size, 2, none⟩) h1l (.bool true)
  have G2 := ((g2.setCell (p := ⟨w1.heap.size, 0, none⟩) h1l (.slice A2 8 c2)).setCell (p := ⟨w1.heap.size, 1, none⟩) h1l (.slice B2 8 d2)).setCell (p := ⟨w1.heap.size, 2, none⟩) h1l (.bool true)
  have P1' : Blk (((w2.setCell ⟨w1.heap.size, 0, none⟩ (.slice A2 8 c2)).setCell ⟨w1.heap.size, 1, none⟩ (.slice B2 8 d2)).setCell ⟨w1.heap.size, 2, none⟩ (.bool true)) w1.heap.size 25 (mcs A2 8 c2 B2 8 d2 true) := ((P1.setCell 0 _).setCell 1 _).setCell 2 _
  replace hB := ((hB.setCell (p := ⟨w1.heap.size, 0, none⟩) h1w (.slice A2 8 c2)).setCell (p := ⟨w1.heap.size, 1, none⟩) h1w (.slice B2 8 d2)).setCell (p := ⟨w1.heap.size, 2, none⟩) h1w (.bool true)
  obtain ⟨k0, k1, k2, kf⟩ := P1'.cells3
  clear P1 h2 g2 hb2 hb R1 L1
  go_wp2_with fail
  clear p0 p1 p2 pf k0 k1 k2 kf
  generalize (((w2.setCell ⟨w1.heap.size, 0, none⟩ (.slice A2 8 c2)).setCell ⟨w1.heap.size, 1, none⟩ (.slice B2 8 d2)).setCell ⟨w1.heap.size, 2, none⟩ (.bool true)) = W2 at *
  refine (mfree_any A2 8 c2 B2 8 d2 true 3 1 _ _ W2 O2.mem (by omega) (by omega)).mono ?_
  rintro e w3 ⟨A3, n3, c3, B3, m3, d3, rfl, h3, hb3⟩
  rw [show turnF ([0, 0, 0, 9, 0, 0, 0, 0], [false, false, true, true, true, false, false, false], true) 3 1 false poison 4 = (0, ([0, 0, 0, 18369900232523579118, 0, 0, 0, 0], [false, false, true, false, true, false, false, false], true)) from by decide +kernel] at h3 ⊢
  dsimp only at h3 ⊢
  obtain rfl : 8 = n3 := h3.oa.len
  obtain rfl : 8 = m3 := h3.ob.len
  have G3 := G2.step hb3
  replace P1' := P1'.step hb3
  replace hB := below_then hB hb3
  have L3 := Sm.lit (sz := 2) (enc := encG) (d := (0, false)) (w := w3.alloc (.cells (mcs A3 8 c3 B3 8 d3 true) 25)) (e := 47) (cs := #[.int .u64 0, .bool true, .int .u64 7, .bool true, .int .u64 9, .bool false, .int .u64 0, .bool false]) (g := w3.heap.size + 1) [(0, true), (7, true), (9, false), (0, false)] (by simp) (by intro k hk j hj; have hk' : k < 4 := hk; have hj' : j < 2 := hj; match k, hk', j, hj' with | 0, _, 0, _ => rfl | 0, _, 1, _ => rfl | 1, _, 0, _ => rfl | 1, _, 1, _ => rfl | 2, _, 0, _ => rfl | 2, _, 1, _ => rfl | 3, _, 0, _ => rfl | 3, _, 1, _ => rfl)
  have bx3 := below_box w3 (.cells (mcs A3 8 c3 B3 8 d3 true) 25)
  have O3 := h3.step bx3
  have R3 := O3.mem
  have P3 := Blk.new w3 25 (mcs A3 8 c3 B3 8 d3 true)
  replace G3 := G3.step bx3
  replace P1' := P1'.step bx3
  replace hB := below_then hB bx3
  clear bx3
  clear G2 O2 h3 hb3
  obtain ⟨p0, p1, p2, pf⟩ := P1'.cells3
  go_wp2_with fail
  clear p0 p1 p2 pf
  have bl := below_box (w3.alloc (.cells #[.slice A3 8 c3, .slice B3 8 d3, .bool true] 25)) (.cells #[.int .u64 0, .bool true, .int .u64 7, .bool true, .int .u64 9, .bool false, .int .u64 0, .bool false] 47)
  replace O3 := O3.step bl; replace P3 := P3.step bl; replace P1' := P1'.step bl; replace G3 := G3.step bl
  replace hB := below_then hB bl
  clear bl R3
  generalize (w3.alloc (.cells #[.slice A3 8 c3, .slice B3 8 d3, .bool true] 25)).alloc (.cells #[.int .u64 0, .bool true, .int .u64 7, .bool true, .int .u64 9, .bool false, .int .u64 0, .bool false] 47) = W3 at *
  refine (equal_got G _ 4 cg 4 4 _ _ _ _ _ _ W3 (G3.sm (d := (0, false))) L3 (by omega) (by simp)).mono ?_
  rintro e w4 ⟨rfl, hb⟩
  rw [show decide (([(0, true), (7, true), (9, false), (0, false)] : List (Int × Bool)) = [(0, true), (7, true), (9, false), (0, false)]) = true from rfl]
  replace O3 := O3.step hb; replace P3 := P3.step hb; replace P1' := P1'.step hb
  replace hB := below_then hB hb
  clear hb L3 G3
  obtain ⟨g3, rfl, _, _, a0, _⟩ := O3.oa.at_ 0 (k := 3) (by omega)
  replace a0 : w4.cell? ⟨g3, 3, none⟩ = some (.int .u64 18369900232523579118) := a0
  obtain ⟨p0, p1, p2, pf⟩ := P1'.cells3
  obtain ⟨k0, k1, k2, kf⟩ := P3.cells3
  go_wp2_with fail
  clear p0 p1 p2 pf k0 k1 k2 kf a0
  refine (mspans_any _ 8 c3 B3 8 d3 true _ _ w4 O3.mem).mono ?_
  rintro e w5 ⟨A5, n5, c5, rfl, h5, hb⟩
  rw [show spansF [0, 0, 0, 18369900232523579118, 0, 0, 0, 0] [false, false, true, false, true, false, false, false] = [(2, 1), (4, 1)] from by decide +kernel] at h5
  obtain rfl : 2 = n5 := h5.len
  replace hB := below_then hB hb
  have L5 := Sm.lit (sz := 2) (enc := encP) (d := (0, 0)) (w := w5) (e := 29) (cs := #[.int .i64 2, .int .i64 1, .int .i64 4, .int .i64 1]) (g := w5.heap.size) [(2, 1), (4, 1)] rfl (by intro k hk j hj; have hk' : k < 2 := hk; have hj' : j < 2 := hj; match k, hk', j, hj' with | 0, _, 0, _ => rfl | 0, _, 1, _ => rfl | 1, _, 0, _ => rfl | 1, _, 1, _ => rfl)
  have bl := below_box w5 (.cells #[.int .i64 2, .int .i64 1, .int .i64 4, .int .i64 1] 29)
  replace h5 := h5.step bl
  replace hB := below_then hB bl
  clear hb O3 P3 P1' bl
  go_wp2_with fail
  refine (equal_pairs A5 _ 2 c5 2 2 _ _ _ _ _ _ _ (h5.sm (d := (0, 0))) L5 (by omega) (by simp)).mono ?_
  rintro e w6 ⟨rfl, hb⟩
  rw [show decide (([(2, 1), (4, 1)] : List (Int × Int)) = [(2, 1), (4, 1)]) = true from rfl]
  have HB := hid (below_then hB hb)
  clear hB hb h5 L5
  go_wp2
  go_ret
  exact ⟨rfl, HB.out⟩
set_option maxHeartbeats 1000000 in
theorem mnone_any (A : Option Addr) (n c : Nat) (B : Option Addr) (m d : Nat) (f : Bool) (w : World) (hn : n ≤ 1000000) (hm : m ≤ 1000000) :
    Calls Try.prog 26 #[mv A n c B m d f] w fun e w' => e = .returned (.bool (decide (n = 0 ∧ m = 0 ∧ f = false))) ∧ Below w.heap.size w w' := by
  have HB := hid (below_box w (.cells (mcs A n c B m d f) 25))
  obtain ⟨k0, k1, k2, kf⟩ := (Blk.new w 25 (mcs A n c B m d f)).cells3
  have hw : IntKind.i64.wrap ((n : Int) + (m : Int)) = (n : Int) + (m : Int) := by rw [IntKind.wrap_i64]; omega
  by_cases h0 : n + m = 0
  · have e1 : ((n : Int) + (m : Int) == 0) = true := by simp; omega
    have E := hid (show decide (n = 0 ∧ m = 0 ∧ f = false) = !f by cases f <;> simp <;> omega)
    clear h0
    go_enter Try.func26, Try.ntmps26
    go_wp2
    go_ret
    exact ⟨ret_bool E.out.symm, HB.out⟩
  · have e1 : ((n : Int) + (m : Int) == 0) = false := by simp; omega
    have E := hid (show decide (n = 0 ∧ m = 0 ∧ f = false) = false from decide_eq_false (by omega))
    clear h0
    go_enter Try.func26, Try.ntmps26
    go_wp2
    go_ret
    exact ⟨ret_bool E.out.symm, HB.out⟩
end Go.Proofs.Ytenhojdhjfoomaa
