/- afterglowlaw11.ReaderBack returns true at every readers and number, and turns nothing old. No condition but the sizes of memory. -/
import Derived.Test.YtannechjcdgeeaaRd16
import Derived.Test.YtannechjcdgeeaaRd17
namespace Go.Proofs.Ytannechjcdgeeaa
open Go.RowKit Go.Shelf Go.Maps

/-- what own hands back can be read -/
theorem own_r (now : Int) (A : Option Addr) (n c : Nat) (B : Option Addr) (m d : Nat) (xs ys : List Int) (w : World) (hx : Sl i64 0 w 0 w.heap.size A n xs) (hy : Sl i64 0 w 0 w.heap.size B m ys) (hnc : n ≤ c) (hmd : m ≤ d) :
    Calls Try.prog 7 #[rv now A n c B m d] w fun e w' => ∃ A' n' c' B' m' d', e = .returned (rv now A' n' c' B' m' d') ∧ Rds w' A' n' c' B' m' d' (xs.take 9) (ys.take 9) ∧ Below w.heap.size w w' := by
  refine (own_any now A n c B m d 0 xs ys w hx hy hnc hmd).mono ?_
  rintro e w' ⟨A', c', B', d', he, h1, h2, hb⟩
  exact ⟨A', _, c', B', _, d', he, ⟨(h1.sl (d := 0)).mono (Nat.zero_le _) (Nat.le_refl _), (h2.sl (d := 0)).mono (Nat.zero_le _) (Nat.le_refl _), h1.cap.1, h2.cap.1, by omega, by omega⟩, hb⟩

set_option maxRecDepth 100000 in
set_option maxHeartbeats 4000000 in
theorem back_any (now : Int) (A : Option Addr) (n c : Nat) (B : Option Addr) (m d : Nat) (xs ys : List Int) (cpu : Int) (w : World) (hx : Sl i64 0 w 0 w.heap.size A n xs) (hy : Sl i64 0 w 0 w.heap.size B m ys) (hnc : n ≤ c) (hmd : m ≤ d) :
    Calls Try.prog 5 #[rv now A n c B m d, .int .i64 cpu] w fun e w' => e = .returned (.bool true) ∧ Below w.heap.size w w' := by
  have hB := below_box w (.cells (rcs now A n c B m d) 24)
  have P0 := Blk.new w 24 (rcs now A n c B m d)
  replace hx := hx.step hB; replace hy := hy.step hB
  go_enter Try.func5, Try.ntmps5
  go_wp2_with fail
  generalize w.alloc (.cells #[.int .i64 now, .slice A n c, .slice B m d] 24) = W0 at *
  refine (wakes_any W0).mono ?_
  rintro e w1 ⟨rfl, hb⟩
  replace hx := hx.step hb
  replace hy := hy.step hb
  replace P0 := P0.step hb
  replace hB := below_then hB hb
  obtain ⟨q00, q01, q02, q0f⟩ := P0.cells3
  go_wp2_with fail
  clear q00 q01 q02 q0f
  refine (own_r now A n c B m d xs ys w1 hx hy hnc hmd).mono ?_
  rintro e w2 ⟨A2, n2, c2, B2, m2, d2, rfl, R2, hb2⟩
  replace hB := below_then hB hb2
  generalize xs.take 9 = ns at *
  generalize ys.take 9 = os at *
  have bx := below_box w2 (.cells (rcs now A2 n2 c2 B2 m2 d2) 24)
  have P2 := Blk.new w2 24 (rcs now A2 n2 c2 B2 m2 d2)
  replace R2 := R2.step bx
  replace hB := below_then hB bx
  clear bx hx hy P0 hb hb2
  obtain ⟨q00, q01, q02, q0f⟩ := P2.cells3
  go_wp2_with fail
  clear q00 q01 q02 q0f
  generalize w2.alloc (.cells #[.int .i64 now, .slice A2 n2 c2, .slice B2 m2 d2] 24) = W2 at *
  refine (enter1_any now A2 n2 c2 B2 m2 d2 ns os cpu W2 R2).mono ?_
  rintro e w3 ⟨A3, n3, c3, B3, m3, d3, rfl, h3, hb3⟩
  replace R2 := R2.step hb3
  replace P2 := P2.step hb3
  replace hB := below_then hB hb3
  by_cases h0 : (oneF now ns os (cpu, true)).1 = 0
  · obtain ⟨hg, hc⟩ := oneF_zero h0
    rw [oneF_ok hg hc] at h3 ⊢
    dsimp only [stN] at h3 ⊢
    obtain ⟨hq, hp⟩ := entered hg hc
    have hg3 := good_step hg hc
    obtain ⟨z1, z2, z3, z4, _⟩ := stC_zero hc
    dsimp only [stN] at hg3 z1 z2 z3 z4
    have hb1 := back_ns (ns := ns) z2
    have hb2 := back_os hg z2
    obtain ⟨_, _, _, hn0, hn1⟩ := hg.1
    have hst : stC (now + 1, stepNs ns cpu.toNat true, stepOs now ns os cpu.toNat true) (cpu, false) = if now + 1 = 2147483647 then 6 else 0 := by
      show stepCode _ _ _ _ = _
      have h0 := ((good_iff.1 hg).2 _ z2).1
      unfold stepCode
      rw [if_neg (by rw [stepNs_len]; omega)]
      split
      · rfl
      · rw [if_neg (by simp), if_neg (by rw [stepNs_get z2, if_pos rfl, if_pos rfl]; omega)]
    generalize hns3 : stepNs ns cpu.toNat true = ns3 at *
    generalize hos3 : stepOs now ns os cpu.toNat true = os3 at *
    have hq' := decide_eq_false hq; have hp' := decide_eq_false hp
    have HL : Hid (now + 1 ≠ 2147483647 → stN (now + 1, ns3, os3) (cpu, false) = (now + 2, ns, os)) := hid (fun _ => by
      show (now + 1 + 1, stepNs ns3 cpu.toNat false, stepOs (now + 1) ns3 os3 cpu.toNat false) = _
      rw [hb1, hb2, show now + 1 + 1 = now + 2 by omega])
    have HG3 := hid hg3; have HST := hid hst; have HQ := hid hq'; have HPP := hid hp'
    clear hq hp hb1 hb2 hns3 hos3 hg3 hst hq' hp' h0 hg hc z1 z2 z4
    have bx3 := below_box w3 (.cells (rcs (now + 1) A3 n3 c3 B3 m3 d3) 24)
    have R3 := h3.rds.step bx3
    have P3 := Blk.new w3 24 (rcs (now + 1) A3 n3 c3 B3 m3 d3)
    replace R2 := R2.step bx3
    replace P2 := P2.step bx3
    replace hB := below_then hB bx3
    clear bx3 hb3 h3
    obtain ⟨q00, q01, q02, q0f⟩ := P3.cells3
    go_wp2_with fail
    clear q00 q01 q02 q0f
    generalize w3.alloc (.cells #[.int .i64 (now + 1), .slice A3 n3 c3, .slice B3 m3 d3] 24) = W3 at *
    refine (quiet_any (now + 1) A3 n3 c3 B3 m3 d3 ns3 os3 cpu W3 R3).mono ?_
    rintro e w4 ⟨rfl, hb⟩
    replace R2 := R2.step hb
    replace P2 := P2.step hb
    replace R3 := R3.step hb
    replace P3 := P3.step hb
    replace hB := below_then hB hb
    rw [HQ.out]
    obtain ⟨q00, q01, q02, q0f⟩ := P3.cells3
    go_wp2_with fail
    clear q00 q01 q02 q0f
    refine (passed_any (now + 1) A3 n3 c3 B3 m3 d3 ns3 os3 (now + 1) w4 R3).mono ?_
    rintro e w5 ⟨rfl, hb⟩
    replace R2 := R2.step hb
    replace P2 := P2.step hb
    replace R3 := R3.step hb
    replace P3 := P3.step hb
    replace hB := below_then hB hb
    rw [HPP.out]
    obtain ⟨q00, q01, q02, q0f⟩ := P3.cells3
    go_wp2_with fail
    clear q00 q01 q02 q0f
    refine (leave1_any (now + 1) A3 n3 c3 B3 m3 d3 ns3 os3 cpu w5 R3).mono ?_
    rintro e w6 ⟨A6, n6, c6, B6, m6, d6, rfl, h6, hb6⟩
    replace R2 := R2.step hb6
    replace P2 := P2.step hb6
    replace R3 := R3.step hb6
    replace P3 := P3.step hb6
    replace hB := below_then hB hb6
    by_cases hmax : now + 1 = 2147483647
    · rw [oneF_err HG3.out (by rw [HST.out, if_pos hmax]; decide), HST.out, if_pos hmax] at h6 ⊢
      dsimp only at h6 ⊢
      obtain rfl : 0 = n6 := h6.oa.len
      obtain rfl : 0 = m6 := h6.ob.len
      have bx6 := below_box w6 (.cells (rcs 0 A6 0 c6 B6 0 d6) 24)
      have R6 := h6.rds.step bx6
      have P6 := Blk.new w6 24 (rcs 0 A6 0 c6 B6 0 d6)
      replace P3 := P3.step bx6
      replace hB := below_then hB bx6
      have HB := hid hB
      have hm' : (now + 1 == 2147483647) = true := by simp [hmax]
      clear hB bx6 hb6 h6 R2 P2 R3 hmax
      obtain ⟨q00, q01, q02, q0f⟩ := P3.cells3
      go_wp2_with fail
      clear q00 q01 q02 q0f
      go_wp2
      go_ret
      exact ⟨rfl, HB.out⟩
    · rw [oneF_ok HG3.out (by rw [HST.out, if_neg hmax]), HL.out hmax] at h6 ⊢
      dsimp only at h6 ⊢
      have R6 := h6.rds.step (below_box w6 (.cells (rcs now A6 n6 c6 B6 m6 d6) 24))
      have R2' := R2.step (below_box w6 (.cells (rcs now A6 n6 c6 B6 m6 d6) 24))
      have P2a := P2.step (below_box w6 (.cells (rcs (now + 2) A6 n6 c6 B6 m6 d6) 24))
      have P2b := P2.step (below_box w6 (.cells (rcs now A6 n6 c6 B6 m6 d6) 24))
      have hb7 := below_then hB (below_box w6 (.cells (rcs now A6 n6 c6 B6 m6 d6) 24))
      have e1 : (now + 2 != now + 2) = false := by simp
      have i1 : now + 2 ≤ 2147483647 := by omega
      clear h6 R2 P2 hB hb6 hmax P3 R3
      obtain ⟨q00, q01, q02, q0f⟩ := P2a.cells3
      obtain ⟨q10, q11, q12, q1f⟩ := P2b.cells3
      go_wp2_with fail
      clear q00 q01 q02 q0f
      clear q10 q11 q12 q1f
      refine (same_any now A6 n6 c6 B6 m6 d6 ns os now A2 n2 c2 B2 m2 d2 ns os _ R6 R2').mono ?_
      rintro e w7 ⟨rfl, hb⟩
      rw [show sameR now ns os now ns os = true from decide_eq_true ⟨rfl, rfl, rfl⟩]
      have HB := hid (below_then hb7 hb)
      clear hb7 hb R6 R2' P2a P2b
      go_wp2
      go_ret
      exact ⟨rfl, HB.out⟩
  · have h1 := oneF_nz h0
    generalize oneF now ns os (cpu, true) = r at *
    obtain ⟨code, nw, ns', os'⟩ := r
    dsimp only at h0 h1 h3 ⊢
    simp only [Prod.mk.injEq] at h1
    obtain ⟨rfl, rfl, rfl⟩ := h1
    obtain rfl : 0 = n3 := h3.oa.len
    obtain rfl : 0 = m3 := h3.ob.len
    have bx3 := below_box w3 (.cells (rcs 0 A3 0 c3 B3 0 d3) 24)
    have R3 := h3.rds.step bx3
    have P3 := Blk.new w3 24 (rcs 0 A3 0 c3 B3 0 d3)
    replace hB := below_then hB bx3
    have hc0 : (code != 0) = true := by simpa using h0
    have HB := hid hB
    clear hB bx3 hb3 h3 h0 R2 P2 R3
    obtain ⟨q00, q01, q02, q0f⟩ := P3.cells3
    go_wp2_with fail
    clear q00 q01 q02 q0f
    go_wp2
    go_ret
    exact ⟨rfl, HB.out⟩
end Go.Proofs.Ytannechjcdgeeaa
