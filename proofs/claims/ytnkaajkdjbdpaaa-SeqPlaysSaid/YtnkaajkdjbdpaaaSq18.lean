/- afterglowref06: same, SameRead, SameWrite. No condition but sizes. -/
import Derived.Test.YtnkaajkdjbdpaaaSq17
namespace Go.Proofs.Ytnkaajkdjbdpaaa
open Go.RowKit
instance : DecidableEq Srd := fun s t => decidable_of_iff (s.a = t.a ∧ s.f = t.f ∧ s.m = t.m ∧ s.ph = t.ph ∧ s.bg = t.bg ∧ s.vs = t.vs ∧ s.tr = t.tr) ⟨fun h => by
  obtain ⟨h1, h2, h3, h4, h5, h6, h7⟩ := h
  obtain ⟨s0, s1, s2, s3, s4, s5, s6⟩ := s
  obtain ⟨t0, t1, t2, t3, t4, t5, t6⟩ := t
  dsimp only at *
  subst h1 h2 h3 h4 h5 h6 h7
  rfl, fun h => by subst h; exact ⟨rfl, rfl, rfl, rfl, rfl, rfl, rfl⟩⟩
instance : DecidableEq Swr := fun s t => decidable_of_iff (s.a = t.a ∧ s.f = t.f ∧ s.vs = t.vs ∧ s.ph = t.ph ∧ s.bg = t.bg ∧ s.wr = t.wr) ⟨fun h => by
  obtain ⟨h1, h2, h3, h4, h5, h6⟩ := h
  obtain ⟨s0, s1, s2, s3, s4, s5⟩ := s
  obtain ⟨t0, t1, t2, t3, t4, t5⟩ := t
  dsimp only at *
  subst h1 h2 h3 h4 h5 h6
  rfl, fun h => by subst h; exact ⟨rfl, rfl, rfl, rfl, rfl, rfl⟩⟩
set_option maxHeartbeats 2000000 in
theorem same_any (A : Option Addr) (n c : Nat) (B : Option Addr) (m d : Nat) (lo hi lo' hi' : Nat) (xs ys : List Int) (w : World) (hx : Sl u64v 0 w lo hi A n xs) (hy : Sl u64v 0 w lo' hi' B m ys) (hn : n ≤ 1000000) :
    Calls Try.prog 41 #[.slice A n c, .slice B m d] w fun e w' => e = .returned (.bool (decide (xs = ys))) ∧ w = w' := by
  have HX := hid hx; have HY := hid hy; have hlx := hid hx.len; have hly := hid hy.len
  clear hx hy
  by_cases hnm : n = m
  rotate_left
  · have E := hid (show decide (xs = ys) = false from decide_eq_false (fun h => hnm (by rw [← hlx.out, ← hly.out, h])))
    have d0 : ((n : Int) != (m : Int)) = true := by simp; omega
    clear hnm
    go_enter Try.func41, Try.ntmps41
    go_wp2
    go_ret
    exact ⟨ret_bool E.out.symm, rfl⟩
  subst hnm
  go_enter Try.func41, Try.ntmps41
  go_wp2_with fail
  go_loop [14] (fun i => ∃ k : Nat, k ≤ n ∧ i = .int .i64 k ∧ ∀ j, j < k → xs[j]?.getD 0 = ys[j]?.getD 0) (fun i => n - (intOf i).toNat)
  case atStart => exact ⟨0, Nat.zero_le _, rfl, fun k hk => absurd hk (Nat.not_lt_zero _)⟩
  case round =>
    obtain ⟨k, hk, rfl, hall⟩ := hrel
    have HA := hid hall
    clear hall
    by_cases hkn : k < n
    · obtain ⟨b, off, rfl, _, _, hc⟩ := HX.out.row (by omega)
      obtain ⟨b', off', rfl, _, _, hc'⟩ := HY.out.row (by omega)
      have f0 := hc k hkn
      have g0 := hc' k hkn
      obtain ⟨x, hx⟩ : ∃ x, x = xs[k]?.getD 0 := ⟨_, rfl⟩
      obtain ⟨y, hy⟩ : ∃ y, y = ys[k]?.getD 0 := ⟨_, rfl⟩
      rw [← hx] at f0
      rw [← hy] at g0
      have HXX := hid hx; have HYY := hid hy
      have hki : (k : Int) < (n : Int) := by omega
      clear hc hc' hx hy
      by_cases hxy : x = y
      · have d1 : (x != y) = false := by simp [hxy]
        have HXY := hid hxy
        clear hxy
        go_wp2
        go_round
        case rel => exact ⟨k + 1, by omega, by go_num, below_succ HA.out (by rw [← HXX.out, ← HYY.out]; exact HXY.out)⟩
        case measure => simp [intOf]; omega
      · have d1 : (x != y) = true := by simp [hxy]
        have E := hid (show decide (xs = ys) = false from decide_eq_false (fun h => hxy (by rw [HXX.out, HYY.out, h])))
        clear hxy
        go_wp2
        go_ret
        exact ⟨ret_bool E.out.symm, rfl⟩
    · obtain rfl : k = n := by omega
      have E := hid (show decide (xs = ys) = true from decide_eq_true (ext_getDg 0 hlx.out hly.out HA.out))
      go_wp2
      go_ret
      exact ⟨ret_bool E.out.symm, rfl⟩
set_option maxHeartbeats 8000000 in
theorem sameread_any (s t : Srd) (V : Option Addr) (n c : Nat) (U : Option Addr) (m d : Nat) (w : World) (hx : Sl u64v 0 w 0 w.heap.size V n s.vs) (hy : Sl u64v 0 w 0 w.heap.size U m t.vs) (hn : n ≤ 1000000) :
    Calls Try.prog 16 #[rdV s V n c, rdV t U m d] w fun e w' => e = .returned (.bool (decide (s = t))) ∧ Below w.heap.size w w' := by
  have HX := hid hx; have HY := hid hy; have HB := hid (Below.refl w.heap.size w)
  clear hx hy
  obtain ⟨q, hq⟩ : ∃ q, q = decide (s = t) := ⟨_, rfl⟩
  rw [← hq]
  have HQ := hid hq
  clear hq
  have bx := below_box w (.cells (rdc s.a s.f s.m s.ph s.bg V n c s.tr) 29)
  replace HX := hid (HX.out.step bx); replace HY := hid (HY.out.step bx); replace HB := hid (below_then HB.out bx)
  clear bx
  have PS := hid (Blk.new w 29 (rdc s.a s.f s.m s.ph s.bg V n c s.tr))
  have bx := below_box (w.alloc (.cells (rdc s.a s.f s.m s.ph s.bg V n c s.tr) 29)) (.cells (rdc t.a t.f t.m t.ph t.bg U m d t.tr) 29)
  replace HX := hid (HX.out.step bx); replace HY := hid (HY.out.step bx); replace PS := hid (PS.out.step bx); replace HB := hid (below_then HB.out bx)
  clear bx
  have PT := hid (Blk.new2 w 29 (rdc t.a t.f t.m t.ph t.bg U m d t.tr) (.cells (rdc s.a s.f s.m s.ph s.bg V n c s.tr) 29))
  go_enter Try.func16, Try.ntmps16
  go_upto_region 1 with fail
  generalize (w.alloc (.cells (rdc s.a s.f s.m s.ph s.bg V n c s.tr) 29)).alloc (.cells (rdc t.a t.f t.m t.ph t.bg U m d t.tr) 29) = W0 at *
  by_cases e_a : s.a = t.a
  rotate_left
  · have d_a : (s.a == t.a) = false := by simpa using e_a
    have E := hid (show q = false from HQ.out.trans (decide_eq_false (fun h => e_a (by rw [h]))))
    clear e_a
    obtain ⟨y00, y01, y02, y03, y04, y05, y06, yf0⟩ := PS.out.cells7
    obtain ⟨y10, y11, y12, y13, y14, y15, y16, yf1⟩ := PT.out.cells7
    go_wp2
    go_ret
    exact ⟨ret_bool E.out.symm, HB.out⟩
  have d_a : (s.a == t.a) = true := by simpa using e_a
  have E_a := hid e_a
  clear e_a
  by_cases e_f : s.f = t.f
  rotate_left
  · have d_f : (s.f == t.f) = false := by simpa using e_f
    have E := hid (show q = false from HQ.out.trans (decide_eq_false (fun h => e_f (by rw [h]))))
    clear e_f
    obtain ⟨y00, y01, y02, y03, y04, y05, y06, yf0⟩ := PS.out.cells7
    obtain ⟨y10, y11, y12, y13, y14, y15, y16, yf1⟩ := PT.out.cells7
    go_wp2
    go_ret
    exact ⟨ret_bool E.out.symm, HB.out⟩
  have d_f : (s.f == t.f) = true := by simpa using e_f
  have E_f := hid e_f
  clear e_f
  by_cases e_m : s.m = t.m
  rotate_left
  · have d_m : (s.m == t.m) = false := by simpa using e_m
    have E := hid (show q = false from HQ.out.trans (decide_eq_false (fun h => e_m (by rw [h]))))
    clear e_m
    obtain ⟨y00, y01, y02, y03, y04, y05, y06, yf0⟩ := PS.out.cells7
    obtain ⟨y10, y11, y12, y13, y14, y15, y16, yf1⟩ := PT.out.cells7
    go_wp2
    go_ret
    exact ⟨ret_bool E.out.symm, HB.out⟩
  have d_m : (s.m == t.m) = true := by simpa using e_m
  have E_m := hid e_m
  clear e_m
  by_cases e_ph : s.ph = t.ph
  rotate_left
  · have d_ph : (s.ph == t.ph) = false := by simpa using e_ph
    have E := hid (show q = false from HQ.out.trans (decide_eq_false (fun h => e_ph (by rw [h]))))
    clear e_ph
    obtain ⟨y00, y01, y02, y03, y04, y05, y06, yf0⟩ := PS.out.cells7
    obtain ⟨y10, y11, y12, y13, y14, y15, y16, yf1⟩ := PT.out.cells7
    go_wp2
    go_ret
    exact ⟨ret_bool E.out.symm, HB.out⟩
  have d_ph : (s.ph == t.ph) = true := by simpa using e_ph
  have E_ph := hid e_ph
  clear e_ph
  by_cases e_bg : s.bg = t.bg
  rotate_left
  · have d_bg : (s.bg == t.bg) = false := by simpa using e_bg
    have E := hid (show q = false from HQ.out.trans (decide_eq_false (fun h => e_bg (by rw [h]))))
    clear e_bg
    obtain ⟨y00, y01, y02, y03, y04, y05, y06, yf0⟩ := PS.out.cells7
    obtain ⟨y10, y11, y12, y13, y14, y15, y16, yf1⟩ := PT.out.cells7
    go_wp2
    go_ret
    exact ⟨ret_bool E.out.symm, HB.out⟩
  have d_bg : (s.bg == t.bg) = true := by simpa using e_bg
  have E_bg := hid e_bg
  clear e_bg
  by_cases e_tr : s.tr = t.tr
  rotate_left
  · have d_tr : (s.tr == t.tr) = false := by simpa using e_tr
    have E := hid (show q = false from HQ.out.trans (decide_eq_false (fun h => e_tr (by rw [h]))))
    clear e_tr
    obtain ⟨y00, y01, y02, y03, y04, y05, y06, yf0⟩ := PS.out.cells7
    obtain ⟨y10, y11, y12, y13, y14, y15, y16, yf1⟩ := PT.out.cells7
    go_wp2
    go_ret
    exact ⟨ret_bool E.out.symm, HB.out⟩
  have d_tr : (s.tr == t.tr) = true := by simpa using e_tr
  have E_tr := hid e_tr
  clear e_tr
  obtain ⟨y00, y01, y02, y03, y04, y05, y06, yf0⟩ := PS.out.cells7
  obtain ⟨y10, y11, y12, y13, y14, y15, y16, yf1⟩ := PT.out.cells7
  go_wp2_with fail
  clear y00 y01 y02 y03 y04 y05 y06 yf0 y10 y11 y12 y13 y14 y15 y16 yf1
  refine (same_any V n c U m d _ _ _ _ s.vs t.vs _ HX.out HY.out hn).mono ?_
  rintro e w' ⟨rfl, rfl⟩
  have E := hid (show q = decide (s.vs = t.vs) from HQ.out.trans (decide_eq_decide.2 ⟨fun h => by rw [h], fun h => by
    obtain ⟨s0, s1, s2, s3, s4, s5, s6⟩ := s
    obtain ⟨t0, t1, t2, t3, t4, t5, t6⟩ := t
    simp only at *
    simp only [Srd.mk.injEq]
    exact ⟨E_a.out, E_f.out, E_m.out, E_ph.out, E_bg.out, h, E_tr.out⟩⟩))
  clear d_a d_f d_m d_ph d_bg d_tr
  go_wp2
  go_ret
  exact ⟨ret_bool E.out.symm, HB.out⟩
set_option maxHeartbeats 8000000 in
theorem samewrite_any (s t : Swr) (V : Option Addr) (n c : Nat) (U : Option Addr) (m d : Nat) (w : World) (hx : Sl u64v 0 w 0 w.heap.size V n s.vs) (hy : Sl u64v 0 w 0 w.heap.size U m t.vs) (hn : n ≤ 1000000) :
    Calls Try.prog 17 #[wrV s V n c, wrV t U m d] w fun e w' => e = .returned (.bool (decide (s = t))) ∧ Below w.heap.size w w' := by
  have HX := hid hx; have HY := hid hy; have HB := hid (Below.refl w.heap.size w)
  clear hx hy
  obtain ⟨q, hq⟩ : ∃ q, q = decide (s = t) := ⟨_, rfl⟩
  rw [← hq]
  have HQ := hid hq
  clear hq
  have bx := below_box w (.cells (wrc s.a s.f V n c s.ph s.bg s.wr) 34)
  replace HX := hid (HX.out.step bx); replace HY := hid (HY.out.step bx); replace HB := hid (below_then HB.out bx)
  clear bx
  have PS := hid (Blk.new w 34 (wrc s.a s.f V n c s.ph s.bg s.wr))
  have bx := below_box (w.alloc (.cells (wrc s.a s.f V n c s.ph s.bg s.wr) 34)) (.cells (wrc t.a t.f U m d t.ph t.bg t.wr) 34)
  replace HX := hid (HX.out.step bx); replace HY := hid (HY.out.step bx); replace PS := hid (PS.out.step bx); replace HB := hid (below_then HB.out bx)
  clear bx
  have PT := hid (Blk.new2 w 34 (wrc t.a t.f U m d t.ph t.bg t.wr) (.cells (wrc s.a s.f V n c s.ph s.bg s.wr) 34))
  go_enter Try.func17, Try.ntmps17
  go_upto_region 1 with fail
  generalize (w.alloc (.cells (wrc s.a s.f V n c s.ph s.bg s.wr) 34)).alloc (.cells (wrc t.a t.f U m d t.ph t.bg t.wr) 34) = W0 at *
  by_cases e_a : s.a = t.a
  rotate_left
  · have d_a : (s.a == t.a) = false := by simpa using e_a
    have E := hid (show q = false from HQ.out.trans (decide_eq_false (fun h => e_a (by rw [h]))))
    clear e_a
    obtain ⟨y00, y01, y02, y03, y04, y05, yf0⟩ := PS.out.cells6
    obtain ⟨y10, y11, y12, y13, y14, y15, yf1⟩ := PT.out.cells6
    go_wp2
    go_ret
    exact ⟨ret_bool E.out.symm, HB.out⟩
  have d_a : (s.a == t.a) = true := by simpa using e_a
  have E_a := hid e_a
  clear e_a
  by_cases e_f : s.f = t.f
  rotate_left
  · have d_f : (s.f == t.f) = false := by simpa using e_f
    have E := hid (show q = false from HQ.out.trans (decide_eq_false (fun h => e_f (by rw [h]))))
    clear e_f
    obtain ⟨y00, y01, y02, y03, y04, y05, yf0⟩ := PS.out.cells6
    obtain ⟨y10, y11, y12, y13, y14, y15, yf1⟩ := PT.out.cells6
    go_wp2
    go_ret
    exact ⟨ret_bool E.out.symm, HB.out⟩
  have d_f : (s.f == t.f) = true := by simpa using e_f
  have E_f := hid e_f
  clear e_f
  by_cases e_ph : s.ph = t.ph
  rotate_left
  · have d_ph : (s.ph == t.ph) = false := by simpa using e_ph
    have E := hid (show q = false from HQ.out.trans (decide_eq_false (fun h => e_ph (by rw [h]))))
    clear e_ph
    obtain ⟨y00, y01, y02, y03, y04, y05, yf0⟩ := PS.out.cells6
    obtain ⟨y10, y11, y12, y13, y14, y15, yf1⟩ := PT.out.cells6
    go_wp2
    go_ret
    exact ⟨ret_bool E.out.symm, HB.out⟩
  have d_ph : (s.ph == t.ph) = true := by simpa using e_ph
  have E_ph := hid e_ph
  clear e_ph
  by_cases e_bg : s.bg = t.bg
  rotate_left
  · have d_bg : (s.bg == t.bg) = false := by simpa using e_bg
    have E := hid (show q = false from HQ.out.trans (decide_eq_false (fun h => e_bg (by rw [h]))))
    clear e_bg
    obtain ⟨y00, y01, y02, y03, y04, y05, yf0⟩ := PS.out.cells6
    obtain ⟨y10, y11, y12, y13, y14, y15, yf1⟩ := PT.out.cells6
    go_wp2
    go_ret
    exact ⟨ret_bool E.out.symm, HB.out⟩
  have d_bg : (s.bg == t.bg) = true := by simpa using e_bg
  have E_bg := hid e_bg
  clear e_bg
  by_cases e_wr : s.wr = t.wr
  rotate_left
  · have d_wr : (s.wr == t.wr) = false := by simpa using e_wr
    have E := hid (show q = false from HQ.out.trans (decide_eq_false (fun h => e_wr (by rw [h]))))
    clear e_wr
    obtain ⟨y00, y01, y02, y03, y04, y05, yf0⟩ := PS.out.cells6
    obtain ⟨y10, y11, y12, y13, y14, y15, yf1⟩ := PT.out.cells6
    go_wp2
    go_ret
    exact ⟨ret_bool E.out.symm, HB.out⟩
  have d_wr : (s.wr == t.wr) = true := by simpa using e_wr
  have E_wr := hid e_wr
  clear e_wr
  obtain ⟨y00, y01, y02, y03, y04, y05, yf0⟩ := PS.out.cells6
  obtain ⟨y10, y11, y12, y13, y14, y15, yf1⟩ := PT.out.cells6
  go_wp2_with fail
  clear y00 y01 y02 y03 y04 y05 yf0 y10 y11 y12 y13 y14 y15 yf1
  refine (same_any V n c U m d _ _ _ _ s.vs t.vs _ HX.out HY.out hn).mono ?_
  rintro e w' ⟨rfl, rfl⟩
  have E := hid (show q = decide (s.vs = t.vs) from HQ.out.trans (decide_eq_decide.2 ⟨fun h => by rw [h], fun h => by
    obtain ⟨s0, s1, s2, s3, s4, s5⟩ := s
    obtain ⟨t0, t1, t2, t3, t4, t5⟩ := t
    simp only at *
    simp only [Swr.mk.injEq]
    exact ⟨E_a.out, E_f.out, h, E_ph.out, E_bg.out, E_wr.out⟩⟩))
  clear d_a d_f d_ph d_bg d_wr
  go_wp2
  go_ret
  exact ⟨ret_bool E.out.symm, HB.out⟩
end Go.Proofs.Ytnkaajkdjbdpaaa
