/- afterglowlaw02.MemorySwaps returns true at every memory, place and three words, and turns nothing old. No condition but the sizes of memory. -/
import Derived.Test.YtenhojdhjfoomaaLHolds
namespace Go.Proofs.Ytenhojdhjfoomaa
open Go.RowKit

set_option maxRecDepth 100000 in
set_option maxHeartbeats 8000000 in
theorem swaps_any (A : Option Addr) (n c : Nat) (B : Option Addr) (m d : Nat) (f : Bool) (xs : List Int) (ys : List Bool) (at_ v0 v1 v2 : Int) (w : World) (hx : Sl u64v 0 w 0 w.heap.size A n xs) (hy : Sl blv false w 0 w.heap.size B m ys) (hnc : n ≤ c) (hmd : m ≤ d) :
    Calls Try.prog 6 #[mv A n c B m d f, .int .i64 at_, .agg #[.int .u64 v0, .int .u64 v1, .int .u64 v2]] w fun e w' => e = .returned (.bool true) ∧ Below w.heap.size w w' := by
  have hB := below_then (below_box w (.cells (mcs A n c B m d f) 25)) (below_box _ (.cells #[.int .u64 v0, .int .u64 v1, .int .u64 v2] 60))
  have P3 := (Blk.new w 25 (mcs A n c B m d f)).step (below_box _ (.cells #[.int .u64 v0, .int .u64 v1, .int .u64 v2] 60))
  have P5 := Blk.new2 w 60 #[.int .u64 v0, .int .u64 v1, .int .u64 v2] (.cells (mcs A n c B m d f) 25)
  replace hx := hx.step hB; replace hy := hy.step hB
  go_enter Try.func6, Try.ntmps6
  go_wp2_with fail
  generalize hW0 : ((w.alloc (.cells #[.slice A n c, .slice B m d, .bool f] 25)).alloc (.cells #[.int .u64 v0, .int .u64 v1, .int .u64 v2] 60)) = W0 at *
  clear hW0
  refine (mwakes_any W0).mono ?_
  rintro e w1 ⟨rfl, hb⟩
  replace P3 := P3.step hb; replace P5 := P5.step hb; replace hx := hx.step hb; replace hy := hy.step hb; replace hB := below_then hB hb
  clear hb
  obtain ⟨q00, q01, q02, q0f⟩ := P3.cells3
  go_wp2_with fail
  clear q00 q01 q02 q0f
  refine (lown_r A n c B m d f xs ys w1 hx hy hnc hmd).mono ?_
  rintro e w2 ⟨A2, n2, c2, B2, m2, d2, rfl, oa, ob, hb, hn2, hm2⟩
  have bx := below_box w2 (.cells (mcs A2 n2 c2 B2 m2 d2 f) 25)
  have hbx := below_then hb bx
  have Q7 := Blk.new w2 25 (mcs A2 n2 c2 B2 m2 d2 f)
  have R7 := Mem.ofOw (oa.step bx) (ob.step bx) (by omega) (by omega)
  replace P5 := P5.step hbx; replace hB := below_then hB hbx
  generalize xs.take 64 = ws at *
  generalize ys.take 64 = ls at *
  clear hbx bx hb hx hy P3 oa ob
  obtain ⟨p0, p1, p2, pf⟩ := Q7.cells3
  go_wp2_with fail
  clear p0 p1 p2 pf
  generalize (w2.alloc (.cells #[.slice A2 n2 c2, .slice B2 m2 d2, .bool f] 25)) = W3 at *
  by_cases hg : MGood ws ls
  · by_cases ha : goodAt (ws, ls, f) at_ = true
    · obtain ⟨k, rfl, hkl, hkv⟩ := goodAt_iff.1 ha
      have E8 : Hid (accF (ws, ls, f) (1, (k : Int), 0, 0) = (0, ((ws, ls, f), (ws[k]?.getD 0, true)))) := hid (by
        unfold accF stepM
        rw [if_neg (not_not_intro hg), if_neg (by simp), if_neg (by rw [ha]; simp), if_pos rfl]
        simp only [Int.toNat_natCast])
      have hg1 := hid (mgood_set (v := v1) hg hkl hkv)
      by_cases hs : ws[k]?.getD 0 = v0
      · have E11 : Hid (accF (ws, ls, f) (3, (k : Int), v0, v1) = (0, ((ws.set k v1, ls, f), (ws[k]?.getD 0, true)))) := hid (by
          unfold accF stepM
          rw [if_neg (not_not_intro hg), if_neg (by simp), if_neg (by rw [ha]; simp), if_neg (by simp), if_neg (by simp [hs])]
          simp only [Int.toNat_natCast])
        have E14 : Hid (accF (ws.set k v1, ls, f) (3, (k : Int), v0, v2) = (0, (if v1 = v0 then ((ws.set k v1).set k v2, ls, f) else (ws.set k v1, ls, f), (v1, decide (v1 = v0))))) := hid (by
          have ha1 : goodAt (ws.set k v1, ls, f) (k : Int) = true := goodAt_iff.2 ⟨k, rfl, by simpa using hkl, hkv⟩
          unfold accF stepM
          rw [if_neg (not_not_intro hg1.out), if_neg (by simp), if_neg (by rw [ha1]; simp), if_neg (by simp)]
          dsimp only
          rw [Int.toNat_natCast, set_get ws k k v1 0 hkl, if_pos rfl]
          by_cases h : v1 = v0
          · rw [if_neg (by simp [h]), if_pos h, decide_eq_true h]
          · rw [if_pos ⟨by simp, h⟩, if_neg h, decide_eq_false h])
        have hse : (ws[k]?.getD 0 == v0) = true := by simp [hs]
        clear hg ha hg1 hs
        have hxx : (ws[k]?.getD 0 != ws[k]?.getD 0) = false := by simp
        obtain ⟨x, hX⟩ : ∃ x, x = ws[k]?.getD 0 := ⟨_, rfl⟩
        rw [← hX] at E8 E11 hxx hse
        clear hX
        refine (mstep_any A2 n2 c2 B2 m2 d2 f 1 k 0 0 ws ls W3 R7).mono ?_
        rintro e w8 ⟨A8, n8, c8, B8, m8, d8, rfl, O8, hb8⟩
        rw [E8.out] at O8 ⊢
        dsimp only at O8 ⊢
        have bx8 := below_then (below_box w8 (.cells (mcs A8 n8 c8 B8 m8 d8 f) 25)) (below_box _ (.cells #[.int .u64 x, .bool true] 47))
        have bq8 := below_then hb8 bx8
        replace O8 := O8.step bx8
        have R8 := O8.mem
        have M8 := (Blk.new w8 25 (mcs A8 n8 c8 B8 m8 d8 f)).step (below_box _ (.cells #[.int .u64 x, .bool true] 47))
        have G8 := Blk.new2 w8 47 #[.int .u64 x, .bool true] (.cells (mcs A8 n8 c8 B8 m8 d8 f) 25)
        replace Q7 := Q7.step bq8
        replace R7 := R7.step bq8
        replace P5 := P5.step bq8
        replace hB := below_then hB bq8
        clear bx8 bq8 hb8
        obtain ⟨p0, p1, p2, pf⟩ := Q7.cells3
        obtain ⟨k0, k1, k2, kf⟩ := P5.cells3
        go_wp2_with fail
        generalize ((w8.alloc (.cells #[.slice A8 n8 c8, .slice B8 m8 d8, .bool f] 25)).alloc (.cells #[.int .u64 x, .bool true] 47)) = W4 at *
        clear p0 p1 p2 pf k0 k1 k2 kf
        refine (mstep_any A2 n2 c2 B2 m2 d2 f 3 k v0 v1 ws ls W4 R7).mono ?_
        rintro e w11 ⟨A11, n11, c11, B11, m11, d11, rfl, O11, hb11⟩
        rw [E11.out] at O11 ⊢
        dsimp only at O11 ⊢
        have bx11 := below_then (below_box w11 (.cells (mcs A11 n11 c11 B11 m11 d11 f) 25)) (below_box _ (.cells #[.int .u64 x, .bool true] 47))
        have bq11 := below_then hb11 bx11
        replace O11 := O11.step bx11
        have R11 := O11.mem
        have M11 := (Blk.new w11 25 (mcs A11 n11 c11 B11 m11 d11 f)).step (below_box _ (.cells #[.int .u64 x, .bool true] 47))
        have G11 := Blk.new2 w11 47 #[.int .u64 x, .bool true] (.cells (mcs A11 n11 c11 B11 m11 d11 f) 25)
        replace Q7 := Q7.step bq11
        replace R7 := R7.step bq11
        replace P5 := P5.step bq11
        replace M8 := M8.step bq11
        replace R8 := R8.step bq11
        replace G8 := G8.step bq11
        replace hB := below_then hB bq11
        clear bx11 bq11 hb11
        obtain ⟨p0, p1, p2, pf⟩ := Q7.cells3
        obtain ⟨k0, k1, kf⟩ := G8.cells2
        obtain ⟨r0, r1, r2, rf⟩ := M8.cells3
        obtain ⟨s0, s1, sf⟩ := G11.cells2
        go_wp2_with fail
        generalize ((w11.alloc (.cells #[.slice A11 n11 c11, .slice B11 m11 d11, .bool f] 25)).alloc (.cells #[.int .u64 x, .bool true] 47)) = W5 at *
        clear p0 p1 p2 pf k0 k1 kf r0 r1 r2 rf s0 s1 sf
        refine (msame_any A8 n8 c8 B8 m8 d8 f ws ls A2 n2 c2 B2 m2 d2 f ws ls W5 R8 R7).mono ?_
        rintro e W6 ⟨rfl, hb⟩
        rw [show sameM (ws, ls, f) (ws, ls, f) = true from decide_eq_true ⟨rfl, rfl, rfl⟩]
        replace Q7 := Q7.step hb; replace R7 := R7.step hb; replace P5 := P5.step hb; replace G8 := G8.step hb; replace G11 := G11.step hb; replace M11 := M11.step hb; replace R11 := R11.step hb
        replace hB := below_then hB hb
        clear hb M8 R8 O8 O11
        obtain ⟨k0, k1, kf⟩ := G8.cells2
        obtain ⟨s0, s1, sf⟩ := G11.cells2
        obtain ⟨t0, t1, t2, tf⟩ := M11.cells3
        obtain ⟨p0, p1, p2, pf⟩ := Q7.cells3
        obtain ⟨r0, r1, r2, rf⟩ := P5.cells3
        have htt : (true != true) = false := rfl
        go_wp2_with fail
        clear k0 k1 kf s0 s1 sf t0 t1 t2 tf p0 p1 p2 pf r0 r1 r2 rf
        obtain ⟨s3, hs3⟩ : ∃ s, s = (if v1 = v0 then ((ws.set k v1).set k v2, ls, f) else (ws.set k v1, ls, f)) := ⟨_, rfl⟩
        rw [← hs3] at E14
        clear hs3
        obtain ⟨ws3, ls3, f3⟩ := s3
        have E14b := hid (show (decide (v1 = v0) : Bool) = (v1 == v0) by simp [Bool.beq_eq_decide_eq])
        rw [E14b.out] at E14
        obtain ⟨bq, hbq⟩ : ∃ b, b = (v1 == v0) := ⟨_, rfl⟩
        rw [← hbq] at E14
        have HBQ := hid hbq
        clear hbq
        have hff : (bq == bq) = true := by simp
        have hvv : (v1 == v1) = true := by simp
        refine (mstep_any A11 n11 c11 B11 m11 d11 f 3 k v0 v2 (ws.set k v1) ls W6 R11).mono ?_
        rintro e w14 ⟨A14, n14, c14, B14, m14, d14, rfl, O14, hb14⟩
        rw [E14.out] at O14 ⊢
        dsimp only at O14 ⊢
        have bx14 := below_then (below_box w14 (.cells (mcs A14 n14 c14 B14 m14 d14 f3) 25)) (below_box _ (.cells #[.int .u64 v1, .bool bq] 47))
        have bq14 := below_then hb14 bx14
        replace O14 := O14.step bx14
        have R14 := O14.mem
        have M14 := (Blk.new w14 25 (mcs A14 n14 c14 B14 m14 d14 f3)).step (below_box _ (.cells #[.int .u64 v1, .bool bq] 47))
        have G14 := Blk.new2 w14 47 #[.int .u64 v1, .bool bq] (.cells (mcs A14 n14 c14 B14 m14 d14 f3) 25)
        replace P5 := P5.step bq14
        replace hB := below_then hB bq14
        clear bx14 bq14 hb14
        have hbq' := HBQ.out.symm
        have HB := hid hB
        obtain ⟨r0, r1, r2, rf⟩ := P5.cells3
        obtain ⟨k0, k1, kf⟩ := G14.cells2
        clear hB M14 O14 R14 Q7 R7 M11 R11 G8 G11
        go_wp2
        go_ret
        exact ⟨rfl, HB.out⟩
      · have E11 : Hid (accF (ws, ls, f) (3, (k : Int), v0, v1) = (0, ((ws, ls, f), (ws[k]?.getD 0, false)))) := hid (by
          unfold accF stepM
          rw [if_neg (not_not_intro hg), if_neg (by simp), if_neg (by rw [ha]; simp), if_neg (by simp), if_pos (by simp [hs])]
          simp only [Int.toNat_natCast])
        have hse : (ws[k]?.getD 0 == v0) = false := by simp [hs]
        clear hg ha hg1 hs
        have hxx : (ws[k]?.getD 0 != ws[k]?.getD 0) = false := by simp
        obtain ⟨x, hX⟩ : ∃ x, x = ws[k]?.getD 0 := ⟨_, rfl⟩
        rw [← hX] at E8 E11 hxx hse
        clear hX
        refine (mstep_any A2 n2 c2 B2 m2 d2 f 1 k 0 0 ws ls W3 R7).mono ?_
        rintro e w8 ⟨A8, n8, c8, B8, m8, d8, rfl, O8, hb8⟩
        rw [E8.out] at O8 ⊢
        dsimp only at O8 ⊢
        have bx8 := below_then (below_box w8 (.cells (mcs A8 n8 c8 B8 m8 d8 f) 25)) (below_box _ (.cells #[.int .u64 x, .bool true] 47))
        have bq8 := below_then hb8 bx8
        replace O8 := O8.step bx8
        have R8 := O8.mem
        have M8 := (Blk.new w8 25 (mcs A8 n8 c8 B8 m8 d8 f)).step (below_box _ (.cells #[.int .u64 x, .bool true] 47))
        have G8 := Blk.new2 w8 47 #[.int .u64 x, .bool true] (.cells (mcs A8 n8 c8 B8 m8 d8 f) 25)
        replace Q7 := Q7.step bq8
        replace R7 := R7.step bq8
        replace P5 := P5.step bq8
        replace hB := below_then hB bq8
        clear bx8 bq8 hb8
        obtain ⟨p0, p1, p2, pf⟩ := Q7.cells3
        obtain ⟨k0, k1, k2, kf⟩ := P5.cells3
        go_wp2_with fail
        generalize ((w8.alloc (.cells #[.slice A8 n8 c8, .slice B8 m8 d8, .bool f] 25)).alloc (.cells #[.int .u64 x, .bool true] 47)) = W4 at *
        clear p0 p1 p2 pf k0 k1 k2 kf
        refine (mstep_any A2 n2 c2 B2 m2 d2 f 3 k v0 v1 ws ls W4 R7).mono ?_
        rintro e w11 ⟨A11, n11, c11, B11, m11, d11, rfl, O11, hb11⟩
        rw [E11.out] at O11 ⊢
        dsimp only at O11 ⊢
        have bx11 := below_then (below_box w11 (.cells (mcs A11 n11 c11 B11 m11 d11 f) 25)) (below_box _ (.cells #[.int .u64 x, .bool false] 47))
        have bq11 := below_then hb11 bx11
        replace O11 := O11.step bx11
        have R11 := O11.mem
        have M11 := (Blk.new w11 25 (mcs A11 n11 c11 B11 m11 d11 f)).step (below_box _ (.cells #[.int .u64 x, .bool false] 47))
        have G11 := Blk.new2 w11 47 #[.int .u64 x, .bool false] (.cells (mcs A11 n11 c11 B11 m11 d11 f) 25)
        replace Q7 := Q7.step bq11
        replace R7 := R7.step bq11
        replace P5 := P5.step bq11
        replace M8 := M8.step bq11
        replace R8 := R8.step bq11
        replace G8 := G8.step bq11
        replace hB := below_then hB bq11
        clear bx11 bq11 hb11
        obtain ⟨p0, p1, p2, pf⟩ := Q7.cells3
        obtain ⟨k0, k1, kf⟩ := G8.cells2
        obtain ⟨r0, r1, r2, rf⟩ := M8.cells3
        obtain ⟨s0, s1, sf⟩ := G11.cells2
        go_wp2_with fail
        generalize ((w11.alloc (.cells #[.slice A11 n11 c11, .slice B11 m11 d11, .bool f] 25)).alloc (.cells #[.int .u64 x, .bool false] 47)) = W5 at *
        clear p0 p1 p2 pf k0 k1 kf r0 r1 r2 rf s0 s1 sf
        refine (msame_any A8 n8 c8 B8 m8 d8 f ws ls A2 n2 c2 B2 m2 d2 f ws ls W5 R8 R7).mono ?_
        rintro e W6 ⟨rfl, hb⟩
        rw [show sameM (ws, ls, f) (ws, ls, f) = true from decide_eq_true ⟨rfl, rfl, rfl⟩]
        replace Q7 := Q7.step hb; replace R7 := R7.step hb; replace P5 := P5.step hb; replace G8 := G8.step hb; replace G11 := G11.step hb; replace M11 := M11.step hb; replace R11 := R11.step hb
        replace hB := below_then hB hb
        clear hb M8 R8 O8 O11
        obtain ⟨k0, k1, kf⟩ := G8.cells2
        obtain ⟨s0, s1, sf⟩ := G11.cells2
        obtain ⟨t0, t1, t2, tf⟩ := M11.cells3
        obtain ⟨p0, p1, p2, pf⟩ := Q7.cells3
        obtain ⟨r0, r1, r2, rf⟩ := P5.cells3
        have htt : (true != true) = false := rfl
        go_wp2_with fail
        clear k0 k1 kf s0 s1 sf t0 t1 t2 tf p0 p1 p2 pf r0 r1 r2 rf
        refine (msame_any A11 n11 c11 B11 m11 d11 f ws ls A2 n2 c2 B2 m2 d2 f ws ls W6 R11 R7).mono ?_
        rintro e w20 ⟨rfl, hb⟩
        rw [show sameM (ws, ls, f) (ws, ls, f) = true from decide_eq_true ⟨rfl, rfl, rfl⟩]
        have HB := hid (below_then hB hb)
        clear hB hb
        go_wp2
        go_ret
        exact ⟨rfl, HB.out⟩
    · have E8 : Hid (accF (ws, ls, f) (1, at_, 0, 0) = (0, ((ws, ls, true), (0, false)))) := hid (by
        unfold accF stepM
        rw [if_neg (not_not_intro hg), if_neg (by simp), if_pos (by simpa using ha)])
      have E11 : Hid (accF (ws, ls, f) (3, at_, v0, v1) = (0, ((ws, ls, true), (0, false)))) := hid (by
        unfold accF stepM
        rw [if_neg (not_not_intro hg), if_neg (by simp), if_pos (by simpa using ha)])
      clear hg ha
      refine (mstep_any A2 n2 c2 B2 m2 d2 f 1 at_ 0 0 ws ls W3 R7).mono ?_
      rintro e w8 ⟨A8, n8, c8, B8, m8, d8, rfl, O8, hb8⟩
      rw [E8.out] at O8 ⊢
      dsimp only at O8 ⊢
      have bx8 := below_then (below_box w8 (.cells (mcs A8 n8 c8 B8 m8 d8 true) 25)) (below_box _ (.cells #[.int .u64 0, .bool false] 47))
      have bq8 := below_then hb8 bx8
      replace O8 := O8.step bx8
      have R8 := O8.mem
      have M8 := (Blk.new w8 25 (mcs A8 n8 c8 B8 m8 d8 true)).step (below_box _ (.cells #[.int .u64 0, .bool false] 47))
      have G8 := Blk.new2 w8 47 #[.int .u64 0, .bool false] (.cells (mcs A8 n8 c8 B8 m8 d8 true) 25)
      replace Q7 := Q7.step bq8
      replace R7 := R7.step bq8
      replace P5 := P5.step bq8
      replace hB := below_then hB bq8
      clear bx8 bq8 hb8
      obtain ⟨p0, p1, p2, pf⟩ := Q7.cells3
      obtain ⟨k0, k1, k2, kf⟩ := P5.cells3
      go_wp2_with fail
      generalize ((w8.alloc (.cells #[.slice A8 n8 c8, .slice B8 m8 d8, .bool true] 25)).alloc (.cells #[.int .u64 0, .bool false] 47)) = W4 at *
      clear p0 p1 p2 pf k0 k1 k2 kf
      refine (mstep_any A2 n2 c2 B2 m2 d2 f 3 at_ v0 v1 ws ls W4 R7).mono ?_
      rintro e w11 ⟨A11, n11, c11, B11, m11, d11, rfl, O11, hb11⟩
      rw [E11.out] at O11 ⊢
      dsimp only at O11 ⊢
      have bx11 := below_then (below_box w11 (.cells (mcs A11 n11 c11 B11 m11 d11 true) 25)) (below_box _ (.cells #[.int .u64 0, .bool false] 47))
      have bq11 := below_then hb11 bx11
      replace O11 := O11.step bx11
      have R11 := O11.mem
      have M11 := (Blk.new w11 25 (mcs A11 n11 c11 B11 m11 d11 true)).step (below_box _ (.cells #[.int .u64 0, .bool false] 47))
      have G11 := Blk.new2 w11 47 #[.int .u64 0, .bool false] (.cells (mcs A11 n11 c11 B11 m11 d11 true) 25)
      replace Q7 := Q7.step bq11
      replace R7 := R7.step bq11
      replace P5 := P5.step bq11
      replace M8 := M8.step bq11
      replace R8 := R8.step bq11
      replace G8 := G8.step bq11
      replace hB := below_then hB bq11
      clear bx11 bq11 hb11
      obtain ⟨p0, p1, p2, pf⟩ := Q7.cells3
      obtain ⟨k0, k1, kf⟩ := G8.cells2
      obtain ⟨r0, r1, r2, rf⟩ := M8.cells3
      obtain ⟨s0, s1, sf⟩ := G11.cells2
      go_wp2_with fail
      generalize ((w11.alloc (.cells #[.slice A11 n11 c11, .slice B11 m11 d11, .bool true] 25)).alloc (.cells #[.int .u64 0, .bool false] 47)) = W5 at *
      clear p0 p1 p2 pf k0 k1 kf r0 r1 r2 rf s0 s1 sf
      refine (msame_any A8 n8 c8 B8 m8 d8 true ws ls A2 n2 c2 B2 m2 d2 f ws ls W5 R8 R7).mono ?_
      rintro e w6 ⟨rfl, hb⟩
      rw [show sameM (ws, ls, true) (ws, ls, f) = f by cases f <;> simp [sameM]]
      replace M8 := M8.step hb; replace G8 := G8.step hb; replace G11 := G11.step hb; replace M11 := M11.step hb
      have HB := hid (below_then hB hb)
      obtain ⟨k0, k1, kf⟩ := G8.cells2
      obtain ⟨r0, r1, r2, rf⟩ := M8.cells3
      obtain ⟨s0, s1, sf⟩ := G11.cells2
      obtain ⟨t0, t1, t2, tf⟩ := M11.cells3
      clear hB hb R7 R8 R11 O8 O11 Q7 P5
      cases f
      · go_wp2
        go_ret
        exact ⟨rfl, HB.out⟩
      · go_wp2
        go_ret
        exact ⟨rfl, HB.out⟩
  · have E8 : Hid (accF (ws, ls, f) (1, at_, 0, 0) = (120, (([], [], false), (0, false)))) := hid (if_pos hg)
    clear hg
    refine (mstep_any A2 n2 c2 B2 m2 d2 f 1 at_ 0 0 ws ls W3 R7).mono ?_
    rintro e w8 ⟨A8, n8, c8, B8, m8, d8, rfl, O8, hb8⟩
    rw [E8.out] at O8 ⊢
    dsimp only at O8 ⊢
    obtain rfl : 0 = n8 := O8.oa.len
    obtain rfl : 0 = m8 := O8.ob.len
    have bx8 := below_then (below_box w8 (.cells (mcs A8 0 c8 B8 0 d8 false) 25)) (below_box _ (.cells #[.int .u64 0, .bool false] 47))
    have bq8 := below_then hb8 bx8
    replace O8 := O8.step bx8
    have R8 := O8.mem
    have M8 := (Blk.new w8 25 (mcs A8 0 c8 B8 0 d8 false)).step (below_box _ (.cells #[.int .u64 0, .bool false] 47))
    have G8 := Blk.new2 w8 47 #[.int .u64 0, .bool false] (.cells (mcs A8 0 c8 B8 0 d8 false) 25)
    replace hB := below_then hB bq8
    clear bx8 bq8 hb8
    obtain ⟨p0, p1, p2, pf⟩ := M8.cells3
    go_wp2_with fail
    generalize ((w8.alloc (.cells #[.slice A8 0 c8, .slice B8 0 d8, .bool false] 25)).alloc (.cells #[.int .u64 0, .bool false] 47)) = W4 at *
    clear p0 p1 p2 pf
    refine (mnone_any A8 0 c8 B8 0 d8 false W4 (by omega) (by omega)).mono ?_
    rintro e w6 ⟨rfl, hb⟩
    have HB := hid (below_then hB hb)
    clear hB hb
    go_wp2
    go_ret
    exact ⟨rfl, HB.out⟩
end Go.Proofs.Ytenhojdhjfoomaa
