/- afterglowlaw11.ReaderStays returns true at every readers, row of readings and number, and turns nothing old. No condition but the sizes of memory. -/
import Derived.Test.YtannechjcdgeeaaLBack
namespace Go.Proofs.Ytannechjcdgeeaa
open Go.RowKit Go.Shelf Go.Maps

/-! ### the plain law -/
theorem runF_ok {now : Int} {ns os : List Int} {x : Int × Bool} (h : Good now ns os) (hc : stC (now, ns, os) x = 0) : runF now ns os [x] = (0, 1, stN (now, ns, os) x) := by
  unfold runF; rw [if_pos h]; simp only [runA, if_pos hc]; rfl
theorem runF_err {now : Int} {ns os : List Int} {x : Int × Bool} (h : Good now ns os) (hc : stC (now, ns, os) x ≠ 0) : runF now ns os [x] = (stC (now, ns, os) x, 1, (0, [], [])) := by
  unfold runF; rw [if_pos h]; simp only [runA, if_neg hc]; rfl
theorem passed_step {now : Int} {ns os : List Int} {x : Int × Bool} {step : Int} (hc : stC (now, ns, os) x = 0) (hp : PassedP now ns os step) :
    PassedP (stN (now, ns, os) x).1 (stN (now, ns, os) x).2.1 (stN (now, ns, os) x).2.2 step := by
  obtain ⟨hg, h0, h1, h2⟩ := hp
  refine ⟨good_step hg hc, h0, by show step ≤ now + 1; omega, fun a ha => ?_⟩
  obtain ⟨cpu, ent⟩ := x
  obtain ⟨c1, c2, c3, c4, c5⟩ := stC_zero hc
  dsimp only [stN] at ha c1 c2 c3 c4 c5
  rw [stepNs_len] at ha
  obtain ⟨i, hi, hpos, rfl⟩ := mem_sec.1 ha
  have hl : os.length = ns.length := hg.1.2.2.1
  rw [stepNs_get c2] at hpos
  rw [stepOs_get (by omega)]
  by_cases h : i = cpu.toNat
  · rw [if_pos h] at hpos ⊢
    cases ent
    · simp only [Bool.false_eq_true, if_false] at hpos ⊢
      rw [if_neg (by omega)]
      exact h2 _ (mem_sec.2 ⟨cpu.toNat, c2, by omega, rfl⟩)
    · simp only [eq_self, if_true] at hpos ⊢
      split
      · omega
      · have := ((good_iff.1 hg).2 _ c2).1
        exact h2 _ (mem_sec.2 ⟨cpu.toNat, c2, by omega, rfl⟩)
  · rw [if_neg h] at hpos ⊢
    exact h2 _ (mem_sec.2 ⟨i, hi, hpos, rfl⟩)
theorem passed_all {now : Int} {ns os : List Int} (hg : Good now ns os) : PassedP now ns os now ↔ ∀ i, i < ns.length → ns[i]?.getD 0 = 0 := by
  have hr := (good_iff.1 hg).2
  constructor
  · rintro ⟨_, _, _, h⟩ i hi
    apply Classical.byContradiction
    intro hne
    have hpos : 0 < ns[i]?.getD 0 := by have := (hr i hi).1; omega
    have := h _ (mem_sec.2 ⟨i, hi, hpos, rfl⟩)
    have := ((hr i hi).2.2.2.1 hpos).2
    omega
  · intro h
    refine ⟨hg, hg.1.2.2.2.1, Int.le_refl _, fun a ha => ?_⟩
    obtain ⟨i, hi, hpos, rfl⟩ := mem_sec.1 ha
    have := h i hi
    omega
/-- others are as they were -/
theorem step_others {now : Int} {ns os : List Int} {x : Int × Bool} (hg : Good now ns os) (hc : stC (now, ns, os) x = 0) {i : Nat} (h : (i : Int) ≠ x.1) :
    (stN (now, ns, os) x).2.1[i]?.getD 0 = ns[i]?.getD 0 ∧ (stN (now, ns, os) x).2.2[i]?.getD 0 = os[i]?.getD 0 := by
  obtain ⟨c1, c2, _⟩ := stC_zero hc
  dsimp only [stN] at c1 c2 ⊢
  have hl : os.length = ns.length := hg.1.2.2.1
  rw [stepNs_get c2, stepOs_get (by omega), if_neg (by omega), if_neg (by omega)]
  exact ⟨rfl, rfl⟩
theorem Rown.setCell {W : World} {lo : Nat} {A : Option Addr} {n c : Nat} {B : Option Addr} {m d : Nat} {ns os : List Int} (h : Rown W lo A n c B m d ns os) {p : Addr} (hp : p.block < lo) (u : Value) : Rown (W.setCell p u) lo A n c B m d ns os :=
  ⟨h.oa.setCell hp u, h.ob.setCell hp u, h.apart, h.hn, h.hm⟩

set_option maxRecDepth 100000 in
set_option maxHeartbeats 4000000 in
theorem stays_any (now : Int) (A : Option Addr) (n c : Nat) (B : Option Addr) (m d : Nat) (xs ys : List Int) (L : Option Addr) (nl cl : Nat) (ls : List (Int × Bool)) (step : Int) (w : World) (hx : Sl i64 0 w 0 w.heap.size A n xs) (hy : Sl i64 0 w 0 w.heap.size B m ys) (hnc : n ≤ c) (hmd : m ≤ d)
    (hL : Sm 2 encR (0, false) w 0 w.heap.size L nl ls) (hcl : nl ≤ cl) (hcm : cl ≤ maxLen) :
    Calls Try.prog 3 #[rv now A n c B m d, .slice L nl cl, .int .i64 step] w fun e w' => e = .returned (.bool true) ∧ Below w.heap.size w w' := by
  have hB := below_box w (.cells (rcs now A n c B m d) 24)
  have P0 := Blk.new w 24 (rcs now A n c B m d)
  replace hx := hx.step hB; replace hy := hy.step hB
  have HL := hid hL
  have hnl : nl ≤ 9223372036854775807 := by unfold maxLen at hcm; omega
  clear hL hcm
  go_enter Try.func3, Try.ntmps3
  go_wp2_with fail
  generalize hW0 : w.alloc (.cells #[.int .i64 now, .slice A n c, .slice B m d] 24) = W0 at *
  clear hW0
  refine (wakes_any W0).mono ?_
  rintro e w1 ⟨rfl, hb⟩
  replace hx := hx.step hb
  replace hy := hy.step hb
  replace P0 := P0.step hb
  replace hB := below_then hB hb
  obtain ⟨q00, q01, q02, q0f⟩ := P0.cells3
  go_wp2_with fail
  clear q00 q01 q02 q0f
  refine (own_r now A n c B m d xs ys w1 hx hy hnc hmd).mono ?_
  rintro e w2 ⟨A2, n2, c2, B2, m2, d2, rfl, R2, hb2⟩
  replace hB := below_then hB hb2
  generalize xs.take 9 = ns at *
  generalize ys.take 9 = os at *
  have hz2 := hb2.size
  have bx := below_box w2 (.cells (rcs now A2 n2 c2 B2 m2 d2) 24)
  have P2 := Blk.new w2 24 (rcs now A2 n2 c2 B2 m2 d2)
  replace R2 := R2.step bx
  have hsz : w.heap.size ≤ w2.heap.size := hB.size
  replace hB := below_then hB bx
  clear bx hx hy P0 hb hb2 hz2
  obtain ⟨q00, q01, q02, q0f⟩ := P2.cells3
  go_wp2_with fail
  clear q00 q01 q02 q0f
  generalize w2.alloc (.cells #[.int .i64 now, .slice A2 n2 c2, .slice B2 m2 d2] 24) = W2 at *
  by_cases hg : Good now ns os
  · have HG := hid hg
    refine (check_good now A2 n2 c2 B2 m2 d2 ns os W2 R2 hg).mono ?_
    rintro e w3 ⟨rfl, hb⟩
    replace R2 := R2.step hb
    replace P2 := P2.step hb
    replace hB := below_then hB hb
    clear hg hb
    obtain ⟨q00, q01, q02, q0f⟩ := P2.cells3
    go_wp2_with fail
    clear q00 q01 q02 q0f
    refine (passed_any now A2 n2 c2 B2 m2 d2 ns os step w3 R2).mono ?_
    rintro e w4 ⟨rfl, hb⟩
    replace R2 := R2.step hb
    replace P2 := P2.step hb
    replace hB := below_then hB hb
    clear hb
    have HB := hid hB; have HP := hid P2; have HR := hid R2
    clear hB P2 R2
    go_wp2_with fail
    go_loopw [34, 8] (fun i p wr => ∃ k : Nat, ∃ A' n' c' B' m' d', ∃ s : St, k ≤ nl ∧ i = .int .i64 k ∧ p = .bool (decide (PassedP s.1 s.2.1 s.2.2 step)) ∧ Blk wr w2.heap.size 24 (rcs s.1 A' n' c' B' m' d') ∧ Rds wr A' n' c' B' m' d' s.2.1 s.2.2 ∧ Good s.1 s.2.1 s.2.2 ∧ Below w.heap.size w wr) (fun i _ _ => nl - (intOf i).toNat)
    case atStart => exact ⟨0, A2, n2, c2, B2, m2, d2, (now, ns, os), Nat.zero_le _, rfl, rfl, HP.out, HR.out, HG.out, HB.out⟩
    case round =>
      clear HP HR HG HB
      obtain ⟨k, A3, n3, c3, B3, m3, d3, ⟨nw, ns3, os3⟩, hk, rfl, rfl, P3, R3, hg, hB⟩ := hrel
      dsimp only at P3 R3 hg ⊢
      by_cases hlt : k < nl
      · obtain ⟨b, off, rfl, _, hbB, hc⟩ := HL.out.row (by omega)
        have g0 := (hB.cell (p := ⟨b, off + k * 2 + 0, none⟩) hbB).trans (hc k hlt 0 (by omega))
        have g1 := (hB.cell (p := ⟨b, off + k * 2 + 1, none⟩) hbB).trans (hc k hlt 1 (by omega))
        obtain ⟨⟨cpu, ent⟩, hX⟩ : ∃ x, x = ls[k]?.getD (0, false) := ⟨_, rfl⟩
        rw [← hX] at g0 g1
        simp only [encR, Nat.add_zero, if_pos rfl] at g0
        simp only [encR, if_neg (by decide : ¬ (1 : Nat) = 0)] at g1
        clear hc hX HL
        by_cases h30 : k = 30
        · have h30' : ((k : Int) == 30) = true := by simp [h30]
          have HB := hid (below_then hB (below_box wr (.cells #[.int .i64 cpu, .bool ent] 32)))
          clear hB P3 R3 hg h30
          go_wp2
          go_ret
          exact ⟨rfl, HB.out⟩
        · have h30' : ((k : Int) == 30) = false := by simp; omega
          have b1 := below_box wr (.cells #[.int .i64 cpu, .bool ent] 32)
          have b2 := below_box (wr.alloc (.cells #[.int .i64 cpu, .bool ent] 32)) (.cells #[.int .i64 cpu, .bool ent] 32)
          have HLit := Sm.one (sz := 2) (enc := encR) (d := ((0 : Int), false)) (w := (wr.alloc (.cells #[.int .i64 cpu, .bool ent] 32))) (e := 32) (cs := #[.int .i64 cpu, .bool ent]) (g := wr.heap.size + 1) (cpu, ent) (by simp) (by intro j hj; match j, hj with | 0, _ => rfl | 1, _ => rfl)
          have PX := Blk.new wr 32 #[.int .i64 cpu, .bool ent]
          have P3a := P3.step b1
          have P3b := P3a.step b2
          have R3b := (R3.step b1).step b2
          have PXb := PX.step b2
          have hBb := below_then (below_then hB b1) b2
          obtain ⟨x0, x1, xf⟩ := PX.cells2
          obtain ⟨k0, k1, k2, kf⟩ := P3a.cells3
          have HG := hid hg
          have hl := hid (show os3.length = ns3.length from hg.1.2.2.1)
          clear P3 P3a R3 PX hB b1 b2 hg h30
          go_wp2_with fail
          clear k0 k1 k2 kf x0 x1 xf g0 g1
          generalize ((wr.alloc (.cells #[.int .i64 cpu, .bool ent] 32)).alloc (.cells #[.int .i64 cpu, .bool ent] 32)) = W4 at *
          refine (run_any nw A3 n3 c3 B3 m3 d3 ns3 os3 _ 1 1 [(cpu, ent)] W4 R3b HLit (by omega)).mono ?_
          rintro e w5 ⟨A5, n5, c5, B5, m5, d5, rfl, h5, hb5⟩
          by_cases hc : stC (nw, ns3, os3) (cpu, ent) = 0
          · have hst := stC_zero hc
            have HP1 : Hid (PassedP nw ns3 os3 step → PassedP (stN (nw, ns3, os3) (cpu, ent)).1 (stN (nw, ns3, os3) (cpu, ent)).2.1 (stN (nw, ns3, os3) (cpu, ent)).2.2 step) := hid (passed_step (step := step) hc)
            have HG5 := hid (good_step HG.out hc)
            have HOT : Hid (∀ i : Nat, (i : Int) ≠ cpu → (stN (nw, ns3, os3) (cpu, ent)).2.1[i]?.getD 0 = ns3[i]?.getD 0 ∧ (stN (nw, ns3, os3) (cpu, ent)).2.2[i]?.getD 0 = os3[i]?.getD 0) := hid (fun i hi => step_others HG.out hc (x := (cpu, ent)) hi)
            have HLN := hid (show (stN (nw, ns3, os3) (cpu, ent)).2.1.length = ns3.length from stepNs_len _ _ _)
            have HLO := hid (show (stN (nw, ns3, os3) (cpu, ent)).2.2.length = os3.length from stepOs_len _ _ _ _ _)
            have hnw : (stN (nw, ns3, os3) (cpu, ent)).1 = nw + 1 := rfl
            have hnwlo : 0 ≤ nw := HG.out.1.2.2.2.1
            have hnwhi : nw < 2147483647 := by have := HG.out.1.2.2.2.2; have := hst.2.2.1; dsimp only at this; omega
            rw [runF_ok HG.out hc] at h5 ⊢
            generalize stN (nw, ns3, os3) (cpu, ent) = sn at *
            obtain ⟨nw5, ns5, os5⟩ := sn
            dsimp only at h5 hnw HP1 HG5 HOT HLN HLO ⊢
            subst hnw
            clear hst hc
            have hlo : w2.heap.size < W4.heap.size := P3b.lt
            have bx := below_box w5 (.cells (rcs (nw + 1) A5 n5 c5 B5 m5 d5) 24)
            have P5 := Blk.new w5 24 (rcs (nw + 1) A5 n5 c5 B5 m5 d5)
            have O5 := h5.step bx
            have P6 := (P3b.step hb5).step bx
            have R6 := (R3b.step hb5).step bx
            have X6 := (PXb.step hb5).step bx
            have hB6 := below_then (below_then hBb hb5) bx
            clear bx h5 hb5 P3b R3b PXb hBb HLit
            obtain ⟨p0, p1, p2, pf⟩ := P5.cells3
            obtain ⟨k0, k1, k2, kf⟩ := P6.cells3
            have he : (nw + 1 != nw + 1) = false := by simp
            go_wp2_with fail
            clear p0 p1 p2 pf k0 k1 k2 kf
            have hz5 : w5.heap.size < (w5.alloc (.cells #[.int .i64 (nw + 1), .slice A5 n5 c5, .slice B5 m5 d5] 24)).heap.size := by simp
            generalize (w5.alloc (.cells #[.int .i64 (nw + 1), .slice A5 n5 c5, .slice B5 m5 d5] 24)) = W6 at *
            refine (check_good (nw + 1) A5 n5 c5 B5 m5 d5 ns5 os5 W6 O5.rds HG5.out).mono ?_
            rintro e w7 ⟨rfl, hb7⟩
            replace P5 := P5.step hb7; replace O5 := O5.step hb7; replace P6 := P6.step hb7; replace R6 := R6.step hb7; replace X6 := X6.step hb7; replace hB6 := below_then hB6 hb7
            clear hb7 hz5
            obtain ⟨p0, p1, p2, pf⟩ := P5.cells3
            obtain ⟨k0, k1, k2, kf⟩ := P6.cells3
            have HP5 := hid P5; have HO5 := hid O5; have HP6 := hid P6; have HR6 := hid R6; have HX6 := hid X6; have HB6 := hid hB6
            obtain rfl : n3 = n5 := by have := R6.lenx; have := O5.oa.len; have := HLN.out; omega
            obtain rfl : m3 = n3 := by have := R6.leny; have := R6.lenx; have := hl.out; omega
            obtain rfl : m3 = m5 := by have := R6.leny; have := O5.ob.len; have := HLO.out; omega
            have hm1000 : m3 ≤ 1000 := R6.hn
            clear P5 O5 P6 R6 X6 hB6
            go_wp2_with fail
            go_loopw [65] (fun i wr => ∃ j q : Nat, j ≤ m3 ∧ i = .int .i64 j ∧ wr = w7.drewN q) (fun i _ => m3 - (intOf i).toNat)
            case atStart => exact ⟨0, 0, Nat.zero_le _, rfl, rfl⟩
            case round =>
              obtain ⟨j, q, hj, rfl, rfl⟩ := hrel
              by_cases hjl : j < m3
              · have hl5 := HO5.out.oa.len; have hl6 := HO5.out.ob.len; have hl7 := HR6.out.lenx; have hl8 := HR6.out.leny
                obtain ⟨x0, x1, xf⟩ := HX6.out.cells2
                by_cases hjc : (j : Int) = cpu
                · have e1 : ((j : Int) != cpu) = false := by simp [hjc]
                  clear hjc hl5 hl6 hl7 hl8
                  go_wp2
                  go_quiet (fail)
                  go_wp2
                  go_roundw
                  case rel => exact ⟨j + 1, _, by omega, by go_num, rfl⟩
                  case measure => simp [intOf]; omega
                · have e1 : ((j : Int) != cpu) = true := by simp [hjc]
                  obtain ⟨o1, o2⟩ := HOT.out j hjc
                  obtain ⟨b5, f5, rfl, _, _, c1⟩ := HO5.out.rds.hx.row (by omega)
                  obtain ⟨b6, f6, rfl, _, _, c2⟩ := HO5.out.rds.hy.row (by omega)
                  obtain ⟨b7, f7, rfl, _, _, c3⟩ := HR6.out.hx.row (by omega)
                  obtain ⟨b8, f8, rfl, _, _, c4⟩ := HR6.out.hy.row (by omega)
                  replace c1 := c1 j hjl; replace c2 := c2 j hjl; replace c3 := c3 j hjl; replace c4 := c4 j hjl
                  rw [o1] at c1
                  rw [o2] at c2
                  generalize ns3[j]?.getD 0 = x at *
                  generalize os3[j]?.getD 0 = y at *
                  have e2 : (x != x) = false := by simp
                  have e3 : (y != y) = false := by simp
                  clear hjc hl5 hl6 hl7 hl8 o1 o2
                  go_wp2
                  go_quiet (fail)
                  go_wp2
                  go_roundw
                  case rel => exact ⟨j + 1, _, by omega, by go_num, rfl⟩
                  case measure => simp [intOf]; omega
              · obtain rfl : j = m3 := by omega
                have bq : Below w7.heap.size w7 (w7.drewN q) := below_drewN (Below.refl _ _) q
                have HP5 := hid (HP5.out.step bq); have HO5 := hid (HO5.out.step bq); have HP6 := hid (HP6.out.step bq); have HB6 := hid (below_then HB6.out bq)
                clear bq HR6 HX6 p0 p1 p2 pf k0 k1 k2 kf hjl
                generalize w7.drewN q = W8 at *
                obtain ⟨p0, p1, p2, pf⟩ := HP5.out.cells3
                go_wp2_with fail
                clear p0 p1 p2 pf
                refine (passed_any (nw + 1) A5 j c5 B5 j d5 ns5 os5 step W8 HO5.out.rds).mono ?_
                rintro e W9 ⟨rfl, hb⟩
                replace HP5 := hid (HP5.out.step hb); replace HO5 := hid (HO5.out.step hb); replace HP6 := hid (HP6.out.step hb); replace HB6 := hid (below_then HB6.out hb)
                clear hb
                obtain ⟨m3, rfl⟩ : ∃ m3, m3 = j := ⟨_, rfl⟩
                by_cases hp : PassedP nw ns3 os3 step
                · have HBb : Hid (true = decide (PassedP (nw + 1) ns5 os5 step)) := hid (decide_eq_true (HP1.out hp)).symm
                  rw [decide_eq_true hp, ← HBb.out]
                  clear hp HP1
                  obtain ⟨p0, p1, p2, pf⟩ := HP5.out.cells3
                  go_wp2_with fail
                  clear p0 p1 p2 pf
                  go_loopw [110, 16] (fun i s wr => ∃ j : Nat, j ≤ m3 ∧ i = .int .i64 j ∧ s = .bool (decide (∀ i, i < j → ns5[i]?.getD 0 = 0)) ∧ Below W9.heap.size W9 wr) (fun i _ _ => m3 - (intOf i).toNat)
                  case atStart => exact ⟨0, Nat.zero_le _, rfl, by simp, Below.refl _ _⟩
                  case round =>
                    obtain ⟨j, hj, rfl, rfl, hbq⟩ := hrel
                    have HBQ := hid hbq
                    have hnl5 := hid (show ns5.length = m3 from HO5.out.oa.len)
                    obtain ⟨p0, p1, p2, pf⟩ := (HP5.out.step hbq).cells3
                    clear hbq
                    by_cases hjl : j < m3
                    · by_cases hall : ∀ i, i < j → ns5[i]?.getD 0 = 0
                      · have HQ := hid (show decide (QuietP (nw + 1) ns5 os5 j) = decide (∀ i, i < j + 1 → ns5[i]?.getD 0 = 0) from decide_eq_decide.2 ⟨fun h i hi => by
                            rcases Nat.lt_succ_iff_lt_or_eq.1 hi with h1 | h1
                            · exact hall i h1
                            · subst h1; have := h.2.2.2; rwa [Int.toNat_natCast] at this, fun h => ⟨HG5.out, by omega, by rw [hnl5.out]; omega, by rw [Int.toNat_natCast]; exact h j (by omega)⟩⟩)
                        rw [decide_eq_true hall]
                        clear hall
                        go_wp2_with fail
                        refine (quiet_any (nw + 1) A5 m3 c5 B5 m3 d5 ns5 os5 j _ (HO5.out.step HBQ.out).rds).mono ?_
                        rintro e w10 ⟨rfl, hb10⟩
                        rw [HQ.out]
                        have HBQ2 := hid (below_then HBQ.out hb10)
                        clear p0 p1 p2 pf hb10
                        go_wp2
                        go_roundw
                        case rel => exact ⟨j + 1, by omega, by go_num, rfl, HBQ2.out⟩
                        case measure => simp [intOf]; omega
                      · have hall' : ¬ ∀ i, i < j + 1 → ns5[i]?.getD 0 = 0 := fun h => hall (fun i hi => h i (by omega))
                        have HF := hid (decide_eq_false hall')
                        rw [decide_eq_false hall]
                        clear hall hall' p0 p1 p2 pf
                        go_wp2
                        go_roundw
                        case rel => exact ⟨j + 1, by omega, by go_num, by rw [HF.out], HBQ.out⟩
                        case measure => simp [intOf]; omega
                    · obtain rfl : j = m3 := by omega
                      have HPA := hid (show decide (PassedP (nw + 1) ns5 os5 (nw + 1)) = decide (∀ i, i < j → ns5[i]?.getD 0 = 0) from decide_eq_decide.2 (by have := passed_all HG5.out; rwa [hnl5.out] at this))
                      go_wp2_with fail
                      clear p0 p1 p2 pf
                      refine (passed_any (nw + 1) A5 j c5 B5 j d5 ns5 os5 (nw + 1) _ (HO5.out.step HBQ.out).rds).mono ?_
                      rintro e w10 ⟨rfl, hb10⟩
                      rw [HPA.out]
                      have hb11 := below_then HBQ.out hb10
                      have P5 := HP5.out.step hb11
                      have P6 := HP6.out.step hb11
                      have HO5 := hid (HO5.out.step hb11)
                      have HB6 := hid (below_then HB6.out hb11)
                      have HP6 := hid P6
                      obtain ⟨p0, p1, p2, pf⟩ := P5.cells3
                      obtain ⟨k0, k1, k2, kf⟩ := P6.cells3
                      have hlo' := hlo
                      clear hb11 hb10 P5 P6 HBQ
                      generalize decide (∀ i, i < j → ns5[i]?.getD 0 = 0) = qb at *
                      have e : (qb != qb) = false := by simp
                      go_wp2
                      go_roundw
                      case rel => exact ⟨k + 1, A5, j, c5, B5, j, d5, (nw + 1, ns5, os5), by omega, by go_num, by rw [HBb.out], ((HP6.out.setCell 0 _).setCell 1 _).setCell 2 _, (((HO5.out.setCell (by simp; omega) _).setCell (by simp; omega) _).setCell (by simp; omega) _).rds, HG5.out, ((HB6.out.setCell hsz _).setCell hsz _).setCell hsz _⟩
                      case measure => simp [intOf]; omega
                · rw [decide_eq_false hp]
                  obtain ⟨b, hb⟩ : ∃ b, b = decide (PassedP (nw + 1) ns5 os5 step) := ⟨_, rfl⟩
                  have HBb := hid hb
                  rw [← hb]
                  clear hb hp HP1
                  obtain ⟨p0, p1, p2, pf⟩ := HP5.out.cells3
                  go_wp2_with fail
                  clear p0 p1 p2 pf
                  go_loopw [110, 16] (fun i s wr => ∃ j : Nat, j ≤ m3 ∧ i = .int .i64 j ∧ s = .bool (decide (∀ i, i < j → ns5[i]?.getD 0 = 0)) ∧ Below W9.heap.size W9 wr) (fun i _ _ => m3 - (intOf i).toNat)
                  case atStart => exact ⟨0, Nat.zero_le _, rfl, by simp, Below.refl _ _⟩
                  case round =>
                    obtain ⟨j, hj, rfl, rfl, hbq⟩ := hrel
                    have HBQ := hid hbq
                    have hnl5 := hid (show ns5.length = m3 from HO5.out.oa.len)
                    obtain ⟨p0, p1, p2, pf⟩ := (HP5.out.step hbq).cells3
                    clear hbq
                    by_cases hjl : j < m3
                    · by_cases hall : ∀ i, i < j → ns5[i]?.getD 0 = 0
                      · have HQ := hid (show decide (QuietP (nw + 1) ns5 os5 j) = decide (∀ i, i < j + 1 → ns5[i]?.getD 0 = 0) from decide_eq_decide.2 ⟨fun h i hi => by
                            rcases Nat.lt_succ_iff_lt_or_eq.1 hi with h1 | h1
                            · exact hall i h1
                            · subst h1; have := h.2.2.2; rwa [Int.toNat_natCast] at this, fun h => ⟨HG5.out, by omega, by rw [hnl5.out]; omega, by rw [Int.toNat_natCast]; exact h j (by omega)⟩⟩)
                        rw [decide_eq_true hall]
                        clear hall
                        go_wp2_with fail
                        refine (quiet_any (nw + 1) A5 m3 c5 B5 m3 d5 ns5 os5 j _ (HO5.out.step HBQ.out).rds).mono ?_
                        rintro e w10 ⟨rfl, hb10⟩
                        rw [HQ.out]
                        have HBQ2 := hid (below_then HBQ.out hb10)
                        clear p0 p1 p2 pf hb10
                        go_wp2
                        go_roundw
                        case rel => exact ⟨j + 1, by omega, by go_num, rfl, HBQ2.out⟩
                        case measure => simp [intOf]; omega
                      · have hall' : ¬ ∀ i, i < j + 1 → ns5[i]?.getD 0 = 0 := fun h => hall (fun i hi => h i (by omega))
                        have HF := hid (decide_eq_false hall')
                        rw [decide_eq_false hall]
                        clear hall hall' p0 p1 p2 pf
                        go_wp2
                        go_roundw
                        case rel => exact ⟨j + 1, by omega, by go_num, by rw [HF.out], HBQ.out⟩
                        case measure => simp [intOf]; omega
                    · obtain rfl : j = m3 := by omega
                      have HPA := hid (show decide (PassedP (nw + 1) ns5 os5 (nw + 1)) = decide (∀ i, i < j → ns5[i]?.getD 0 = 0) from decide_eq_decide.2 (by have := passed_all HG5.out; rwa [hnl5.out] at this))
                      go_wp2_with fail
                      clear p0 p1 p2 pf
                      refine (passed_any (nw + 1) A5 j c5 B5 j d5 ns5 os5 (nw + 1) _ (HO5.out.step HBQ.out).rds).mono ?_
                      rintro e w10 ⟨rfl, hb10⟩
                      rw [HPA.out]
                      have hb11 := below_then HBQ.out hb10
                      have P5 := HP5.out.step hb11
                      have P6 := HP6.out.step hb11
                      have HO5 := hid (HO5.out.step hb11)
                      have HB6 := hid (below_then HB6.out hb11)
                      have HP6 := hid P6
                      obtain ⟨p0, p1, p2, pf⟩ := P5.cells3
                      obtain ⟨k0, k1, k2, kf⟩ := P6.cells3
                      have hlo' := hlo
                      clear hb11 hb10 P5 P6 HBQ
                      generalize decide (∀ i, i < j → ns5[i]?.getD 0 = 0) = qb at *
                      have e : (qb != qb) = false := by simp
                      go_wp2
                      go_roundw
                      case rel => exact ⟨k + 1, A5, j, c5, B5, j, d5, (nw + 1, ns5, os5), by omega, by go_num, by rw [HBb.out], ((HP6.out.setCell 0 _).setCell 1 _).setCell 2 _, (((HO5.out.setCell (by simp; omega) _).setCell (by simp; omega) _).setCell (by simp; omega) _).rds, HG5.out, ((HB6.out.setCell hsz _).setCell hsz _).setCell hsz _⟩
                      case measure => simp [intOf]; omega
          · rw [runF_err HG.out hc] at h5 ⊢
            generalize stC (nw, ns3, os3) (cpu, ent) = code at *
            dsimp only at h5 ⊢
            have bx := below_box w5 (.cells (rcs 0 A5 n5 c5 B5 m5 d5) 24)
            have HP6 := hid ((P3b.step hb5).step bx)
            have HR6 := hid ((R3b.step hb5).step bx)
            have HB6 := hid (below_then (below_then hBb hb5) bx)
            have hc0 : (code != 0) = true := by simpa using hc
            clear bx h5 hb5 P3b R3b PXb hBb HLit hc
            go_wp2
            go_roundw
            case rel => exact ⟨k + 1, A3, n3, c3, B3, m3, d3, (nw, ns3, os3), by omega, by go_num, rfl, HP6.out, HR6.out, HG.out, HB6.out⟩
            case measure => simp [intOf]; omega
      · obtain rfl : k = nl := by omega
        have HB := hid hB
        clear hB P3 R3 hg
        go_wp2
        go_ret
        exact ⟨rfl, HB.out⟩
  · have HNP := hid (decide_eq_false (p := PassedP now ns os step) (fun h => hg h.1))
    refine (check_bad now A2 n2 c2 B2 m2 d2 ns os W2 R2 hg).mono ?_
    rintro e w3 ⟨rfl, hb⟩
    replace R2 := R2.step hb
    replace P2 := P2.step hb
    replace hB := below_then hB hb
    clear hg hb
    obtain ⟨q00, q01, q02, q0f⟩ := P2.cells3
    go_wp2_with fail
    clear q00 q01 q02 q0f
    refine (passed_any now A2 n2 c2 B2 m2 d2 ns os step w3 R2).mono ?_
    rintro e w4 ⟨rfl, hb⟩
    replace hB := below_then hB hb
    rw [HNP.out]
    have HB := hid hB
    clear hB hb R2 P2
    go_wp2
    go_ret
    exact ⟨rfl, HB.out⟩
end Go.Proofs.Ytannechjcdgeeaa
