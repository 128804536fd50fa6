/- afterglowlaw02.MemoryHolds returns true at every memory and two accesses, and turns nothing old. No condition but the sizes of memory. -/
import Derived.Test.YtenhojdhjfoomaaMWk
import Derived.Test.YtenhojdhjfoomaaMOwn
import Derived.BigQuiet
namespace Go.Proofs.Ytenhojdhjfoomaa
open Go.RowKit

/-- what own of the statements hands back can be read, and lies apart from what was -/
theorem lown_r (A : Option Addr) (n c : Nat) (B : Option Addr) (m d : Nat) (f : Bool) (xs : List Int) (ys : List Bool) (w : World) (hx : Sl u64v 0 w 0 w.heap.size A n xs) (hy : Sl blv false w 0 w.heap.size B m ys) (hnc : n ≤ c) (hmd : m ≤ d) :
    Calls Try.prog 9 #[mv A n c B m d f] w fun e w' => ∃ A' n' c' B' m' d', e = .returned (mv A' n' c' B' m' d' f) ∧ Ow u64v w' w.heap.size 42 A' n' c' (xs.take 64) ∧ Ow blv w' w.heap.size 4 B' m' d' (ys.take 64) ∧ Below w.heap.size w w' ∧ n' ≤ 64 ∧ m' ≤ 64 := by
  refine (lown_any A n c B m d f 0 xs ys w hx hy hnc hmd).mono ?_
  rintro e w' ⟨A', c', B', d', he, h1, h2, hb⟩
  exact ⟨A', _, c', B', _, d', he, h1, h2, hb, by omega, by omega⟩
theorem Mem.ofOw {W : World} {lo : Nat} {A : Option Addr} {n c : Nat} {B : Option Addr} {m d : Nat} {ws : List Int} {ls : List Bool} (oa : Ow u64v W lo 42 A n c ws) (ob : Ow blv W lo 4 B m d ls) (hn : n ≤ 100000) (hm : m ≤ 100000) : Mem W A n c B m d ws ls :=
  ⟨oa.sl.mono (Nat.zero_le _) (Nat.le_refl _), ob.sl.mono (Nat.zero_le _) (Nat.le_refl _), oa.cap.1, ob.cap.1, hn, hm⟩
theorem set_get {α : Type} (l : List α) (k j : Nat) (v d : α) (hk : k < l.length) : (l.set k v)[j]?.getD d = if j = k then v else l[j]?.getD d := by
  by_cases h : j = k
  · subst h; rw [List.getElem?_set_self hk, if_pos rfl]; rfl
  · rw [List.getElem?_set_ne (Ne.symm h), if_neg h]
theorem mgood_set {ws : List Int} {ls : List Bool} {k : Nat} {v : Int} (hg : MGood ws ls) (hk : k < ws.length) (hl : ls[k]?.getD false = true) : MGood (ws.set k v) ls := by
  obtain ⟨⟨h1, h2, h3⟩, h4⟩ := hg
  refine ⟨⟨by simpa using h1, by simpa using h2, by simpa using h3⟩, fun j hj => ?_⟩
  unfold wordOk
  by_cases h : j = k
  · subst h; rw [hl]; rfl
  · rw [set_get ws k j v 0 hk, if_neg h]; exact h4 j (by simpa using hj)
theorem goodAt_iff {s : MSt} {i : Int} : goodAt s i = true ↔ ∃ k : Nat, i = k ∧ k < s.1.length ∧ s.2.1[k]?.getD false = true := by
  unfold goodAt
  rw [Bool.and_eq_true, decide_eq_true_eq]
  constructor
  · rintro ⟨⟨h1, h2⟩, h3⟩
    exact ⟨i.toNat, by omega, by omega, h3⟩
  · rintro ⟨k, rfl, h2, h3⟩
    exact ⟨⟨by omega, by omega⟩, by rw [Int.toNat_natCast]; exact h3⟩
/-- what an access leaves of the others -/
theorem stepM_props (s : MSt) (a : Acc) : (stepM s a).1.2.1 = s.2.1 ∧ (stepM s a).1.1.length = s.1.length ∧ (∀ k : Nat, a.2.1 ≠ (k : Int) → (stepM s a).1.1[k]?.getD 0 = s.1[k]?.getD 0) ∧ (s.2.2 = true → (stepM s a).1.2.2 = true) ∧ (MGood s.1 s.2.1 → MGood (stepM s a).1.1 (stepM s a).1.2.1) := by
  unfold stepM
  split
  · exact ⟨rfl, rfl, fun _ _ => rfl, fun _ => rfl, fun h => h⟩
  · rename_i h1
    have h2 : goodAt s a.2.1 = true := by simpa using h1
    obtain ⟨k, hk, hl, hv⟩ := goodAt_iff.1 h2
    split
    · exact ⟨rfl, rfl, fun _ _ => rfl, fun h => h, fun h => h⟩
    split
    · exact ⟨rfl, rfl, fun _ _ => rfl, fun h => h, fun h => h⟩
    · rw [hk, Int.toNat_natCast]
      refine ⟨rfl, by simp, fun j hj => ?_, fun h => h, fun h => mgood_set h hl hv⟩
      show (s.1.set k a.2.2.2)[j]?.getD 0 = _
      rw [set_get s.1 k j _ 0 hl, if_neg (by rintro rfl; exact hj rfl)]
theorem kindB (k : Int) : 1 ≤ wrap64 (1 + wrap64 ((IntKind.u64.wrap k).tmod 3)) ∧ wrap64 (1 + wrap64 ((IntKind.u64.wrap k).tmod 3)) ≤ 3 := by
  rw [IntKind.wrap_u64, Int.tmod_eq_emod_of_nonneg (by omega)]
  unfold wrap64
  omega

set_option maxRecDepth 100000 in
set_option maxHeartbeats 4000000 in
theorem holds_any (A : Option Addr) (n c : Nat) (B : Option Addr) (m d : Nat) (f : Bool) (xs : List Int) (ys : List Bool) (ka at_ old new kb atb oldb newb : Int) (w : World) (hx : Sl u64v 0 w 0 w.heap.size A n xs) (hy : Sl blv false w 0 w.heap.size B m ys) (hnc : n ≤ c) (hmd : m ≤ d) :
    Calls Try.prog 5 #[mv A n c B m d f, av ka at_ old new, av kb atb oldb newb] w fun e w' => e = .returned (.bool true) ∧ Below w.heap.size w w' := by
  have hB := below_then (below_then (below_box w (.cells (mcs A n c B m d f) 25)) (below_box _ (.cells (acs ka at_ old new) 44))) (below_box _ (.cells (acs kb atb oldb newb) 44))
  have P3 := ((Blk.new w 25 (mcs A n c B m d f)).step (below_box _ (.cells (acs ka at_ old new) 44))).step (below_box _ (.cells (acs kb atb oldb newb) 44))
  have P4 := (Blk.new2 w 44 (acs ka at_ old new) (.cells (mcs A n c B m d f) 25)).step (below_box _ (.cells (acs kb atb oldb newb) 44))
  have P5 := Blk.new3 w 44 (acs kb atb oldb newb) (.cells (mcs A n c B m d f) 25) (.cells (acs ka at_ old new) 44)
  replace hx := hx.step hB; replace hy := hy.step hB
  go_enter Try.func5, Try.ntmps5
  go_wp2_with fail
  generalize hW0 : (((w.alloc (.cells #[.slice A n c, .slice B m d, .bool f] 25)).alloc (.cells #[.int .i64 ka, .int .i64 at_, .int .u64 old, .int .u64 new] 44)).alloc (.cells #[.int .i64 kb, .int .i64 atb, .int .u64 oldb, .int .u64 newb] 44)) = W0 at *
  clear hW0
  have h02 : w.heap.size + 2 < W0.heap.size := P5.lt
  refine (mwakes_any W0).mono ?_
  rintro e w1 ⟨rfl, hb⟩
  replace P3 := P3.step hb; replace P4 := P4.step hb; replace P5 := P5.step hb; replace hx := hx.step hb; replace hy := hy.step hb; replace hB := below_then hB hb
  have h01 : w.heap.size + 2 < w1.heap.size := P5.lt
  clear hb
  obtain ⟨q00, q01, q02, q0f⟩ := P3.cells3
  go_wp2_with fail
  clear q00 q01 q02 q0f
  refine (lown_r A n c B m d f xs ys w1 hx hy hnc hmd).mono ?_
  rintro e w2 ⟨A2, n2, c2, B2, m2, d2, rfl, oa, ob, hb, hn2, hm2⟩
  have bx := below_box w2 (.cells (mcs A2 n2 c2 B2 m2 d2 f) 25)
  have hbx := below_then hb bx
  have P7 := Blk.new w2 25 (mcs A2 n2 c2 B2 m2 d2 f)
  replace P4 := P4.step hbx; replace P5 := P5.step hbx; replace oa := oa.step bx; replace ob := ob.step bx; replace hB := below_then hB hbx
  have h07 : w.heap.size + 2 < w2.heap.size := by have := hb.size; omega
  generalize xs.take 64 = ws at *
  generalize ys.take 64 = ls at *
  clear hbx bx hb hx hy P3
  go_upto_region 4 with fail
  generalize (w2.alloc (.cells #[.slice A2 n2 c2, .slice B2 m2 d2, .bool f] 25)) = W2 at *
  obtain ⟨p0, p1, p2, p3, pf⟩ := P4.cells4
  obtain ⟨q0, q1, q2, q3, qf⟩ := P5.cells4
  go_region
  have hkc := kindB kb
  generalize wrap64 (1 + wrap64 ((IntKind.u64.wrap kb).tmod 3)) = kc at *
  have d45 : w.heap.size + 2 ≠ w.heap.size + 1 := by omega
  have Q4 := ((P4.setCell 0 (.int .i64 2)).far (p := ⟨w.heap.size + 2, 0, none⟩) (by simp) (.int .i64 kc)).drew
  have Q5 := ((P5.far (p := ⟨w.heap.size + 1, 0, none⟩) (by simp) (.int .i64 2)).setCell 0 (.int .i64 kc)).drew
  have Q7 := ((P7.far (p := ⟨w.heap.size + 1, 0, none⟩) (by simp; omega) (.int .i64 2)).far (p := ⟨w.heap.size + 2, 0, none⟩) (by simp; omega) (.int .i64 kc)).drew
  have oa' := ((oa.setCell (p := ⟨w.heap.size + 1, 0, none⟩) (by simp; omega) (.int .i64 2)).setCell (p := ⟨w.heap.size + 2, 0, none⟩) h01 (.int .i64 kc)).drewN 1
  have ob' := ((ob.setCell (p := ⟨w.heap.size + 1, 0, none⟩) (by simp; omega) (.int .i64 2)).setCell (p := ⟨w.heap.size + 2, 0, none⟩) h01 (.int .i64 kc)).drewN 1
  have hB' := ((hB.setCell (p := ⟨w.heap.size + 1, 0, none⟩) (by simp) (.int .i64 2)).setCell (p := ⟨w.heap.size + 2, 0, none⟩) (by simp) (.int .i64 kc)).drew
  clear P4 P5 P7 oa ob hB p0 p1 p2 p3 pf q0 q1 q2 q3 qf
  have hB := hB'
  clear hB'
  rw [show ∀ w : World, w.drewN 1 = w.drew from fun _ => rfl] at oa' ob'
  have h3 : w.heap.size + 2 < ((W2.setCell ⟨w.heap.size + 1, 0, none⟩ (.int .i64 2)).setCell ⟨w.heap.size + 2, 0, none⟩ (.int .i64 kc)).drew.heap.size := Q5.lt
  generalize ((W2.setCell ⟨w.heap.size + 1, 0, none⟩ (.int .i64 2)).setCell ⟨w.heap.size + 2, 0, none⟩ (.int .i64 kc)).drew = W3 at *
  have R7 := Mem.ofOw oa' ob' (by omega) (by omega)
  by_cases hg : MGood ws ls
  · by_cases ha : goodAt (ws, ls, f) at_ = true
    · obtain ⟨k, rfl, hkl, hkv⟩ := goodAt_iff.1 ha
      have E8 : Hid (accF (ws, ls, f) (2, (k : Int), old, new) = (0, ((ws.set k new, ls, f), (ws[k]?.getD 0, true)))) := hid (by
        unfold accF stepM
        rw [if_neg (not_not_intro hg), if_neg (by simp), if_neg (by rw [ha]; simp), if_neg (by simp), if_neg (by simp)]
        simp only [Int.toNat_natCast])
      have hg1 := hid (mgood_set (v := new) hg hkl hkv)
      have HKL := hid hkl; have HKV := hid hkv
      have hwl := hid R7.lenx
      obtain ⟨p0, p1, p2, pf⟩ := Q7.cells3
      obtain ⟨q0, q1, q2, q3, qf⟩ := Q4.cells4
      generalize ws[k]?.getD 0 = x8 at E8
      clear hg ha hkl hkv
      go_wp2_with fail
      clear p0 p1 p2 pf q0 q1 q2 q3 qf
      refine (mstep_any A2 n2 c2 B2 m2 d2 f 2 k old new ws ls W3 R7).mono ?_
      rintro e w8 ⟨A8, n8, c8, B8, m8, d8, rfl, O8, hb8⟩
      rw [E8.out] at O8 ⊢
      dsimp only at O8 ⊢
      have hz8 := hb8.size
      have bx8 := below_then (below_box w8 (.cells (mcs A8 n8 c8 B8 m8 d8 f) 25)) (below_box _ (.cells #[.int .u64 x8, .bool true] 47))
      have bq8 := below_then hb8 bx8
      replace O8 := O8.step bx8
      have R8 := O8.mem
      have M8 := (Blk.new w8 25 (mcs A8 n8 c8 B8 m8 d8 f)).step (below_box _ (.cells #[.int .u64 x8, .bool true] 47))
      have G8 := Blk.new2 w8 47 #[.int .u64 x8, .bool true] (.cells (mcs A8 n8 c8 B8 m8 d8 f) 25)
      replace Q4 := Q4.step bq8
      replace Q5 := Q5.step bq8
      replace Q7 := Q7.step bq8
      replace oa' := oa'.step bq8
      replace ob' := ob'.step bq8
      replace hB := below_then hB bq8
      clear bx8 bq8 hb8
      obtain ⟨p0, p1, pf⟩ := G8.cells2
      obtain ⟨q0, q1, q2, q3, qf⟩ := Q4.cells4
      obtain ⟨r0, r1, r2, r3, rf⟩ := Q5.cells4
      go_upto_if 70 with fail
      clear p0 p1 pf q0 q1 q2 q3 qf
      have h8 : w.heap.size + 2 < W3.heap.size := h3
      have hQ7 : w.heap.size + 2 ≠ w2.heap.size := by omega
      have hM8 : w.heap.size + 2 ≠ w8.heap.size := by have := h8; have := hz8; omega
      generalize ((w8.alloc (.cells #[.slice A8 n8 c8, .slice B8 m8 d8, .bool f] 25)).alloc (.cells #[.int .u64 x8, .bool true] 47)) = W4 at *
      have HK1 := hid (⟨Q4, Q7, oa', ob', M8, O8, hB⟩ : Blk W4 (w.heap.size + 1) 44 (acs 2 k old new) ∧ Blk W4 w2.heap.size 25 (mcs A2 n2 c2 B2 m2 d2 f) ∧ Ow u64v W4 w1.heap.size 42 A2 n2 c2 ws ∧ Ow blv W4 w1.heap.size 4 B2 m2 d2 ls ∧ Blk W4 w8.heap.size 25 (mcs A8 n8 c8 B8 m8 d8 f) ∧ Mown W4 W3.heap.size A8 n8 c8 B8 m8 d8 (ws.set k new) ls ∧ Below w.heap.size w W4)
      have HQ5 := hid Q5
      clear Q4 Q7 oa' ob' M8 O8 hB R7 R8 G8 Q5
      go_cut [73] (fun s73 wx => ∃ atb' : Int, atb' ≠ (k : Int) ∧ Blk wx (w.heap.size + 2) 44 (acs kc atb' oldb newb) ∧ Blk wx (w.heap.size + 1) 44 (acs 2 k old new) ∧ Blk wx w2.heap.size 25 (mcs A2 n2 c2 B2 m2 d2 f) ∧ Ow u64v wx w1.heap.size 42 A2 n2 c2 ws ∧ Ow blv wx w1.heap.size 4 B2 m2 d2 ls ∧ Blk wx w8.heap.size 25 (mcs A8 n8 c8 B8 m8 d8 f) ∧ Mown wx W3.heap.size A8 n8 c8 B8 m8 d8 (ws.set k new) ls ∧ Below w.heap.size w wx)
      case first =>
        by_cases hab : atb = (k : Int)
        · have e1 : (atb == (k : Int)) = true := by simp [hab]
          have hk2 : wrap64 (atb + 1) ≠ (k : Int) := by
            have := HKL.out; have := hwl.out
            rw [hab]; unfold wrap64; omega
          clear hab
          go_wp2
          go_meet
          obtain ⟨b1, b2, b3, b4, b5, b6, b7⟩ := HK1.out
          exact ⟨wrap64 (atb + 1), hk2, HQ5.out.setCell 1 _, b1.far (by simp) _, b2.far (Ne.symm hQ7) _, b3.setCell h01 _, b4.setCell h01 _, b5.far (Ne.symm hM8) _, b6.setCell h8 _, b7.setCell (by simp; omega) _⟩
        · have e1 : (atb == (k : Int)) = false := by simp [hab]
          have hk2 := hid hab
          clear hab
          go_wp2
          go_meet
          obtain ⟨b1, b2, b3, b4, b5, b6, b7⟩ := HK1.out
          exact ⟨atb, hk2.out, HQ5.out, b1, b2, b3, b4, b5, b6, b7⟩
      case rest =>
        obtain ⟨atb', hne, Q5, Q4, Q7, oa, ob, M8, O8, hB⟩ := hcut
        clear HK1 HQ5 r0 r1 r2 r3 rf
        have hp := stepM_props (ws.set k new, ls, f) (kc, atb', oldb, newb)
        obtain ⟨r2, hr2⟩ : ∃ r, r = stepM (ws.set k new, ls, f) (kc, atb', oldb, newb) := ⟨_, rfl⟩
        rw [← hr2] at hp
        obtain ⟨⟨ws2, ls2, f2⟩, x2, y2⟩ := r2
        dsimp only at hp
        obtain ⟨rfl, hl2, hw2, hf2, hg2⟩ := hp
        replace hg2 := hg2 hg1.out
        have hwk : ws2[k]?.getD 0 = new := (hw2 k hne).trans (by rw [set_get ws k k new 0 HKL.out, if_pos rfl])
        have E11 : Hid (accF (ws.set k new, ls2, f) (kc, atb', oldb, newb) = (0, ((ws2, ls2, f2), (x2, y2)))) := hid (by
          unfold accF
          rw [if_neg (not_not_intro hg1.out), if_neg (by dsimp only; omega), ← hr2])
        have E14 : Hid (accF (ws2, ls2, f2) (1, (k : Int), 0, 0) = (0, ((ws2, ls2, f2), (new, true)))) := hid (by
          have ha : goodAt (ws2, ls2, f2) (k : Int) = true := goodAt_iff.2 ⟨k, rfl, by rw [hl2, List.length_set]; exact HKL.out, HKV.out⟩
          unfold accF stepM
          rw [if_neg (not_not_intro hg2), if_neg (by simp), if_neg (by rw [ha]; simp), if_pos rfl]
          simp only [Int.toNat_natCast, hwk])
        have hmc : Hid (mcheckC ws2 ls2 = 0) := hid (if_pos hg2)
        have HF2 := hid hf2
        have hkc1 := hkc.1; have hkc2 := hkc.2
        clear hr2 hw2 hf2 hg2 hwk hl2 hkc
        obtain ⟨p0, p1, p2, pf⟩ := M8.cells3
        obtain ⟨q0, q1, q2, q3, qf⟩ := Q5.cells4
        go_wp2_with fail
        clear p0 p1 p2 pf q0 q1 q2 q3 qf Q5
        refine (mstep_any A8 n8 c8 B8 m8 d8 f kc atb' oldb newb (ws.set k new) ls2 wc O8.mem).mono ?_
        rintro e w11 ⟨A11, n11, c11, B11, m11, d11, rfl, O11, hb11⟩
        rw [E11.out] at O11 ⊢
        dsimp only at O11 ⊢
        have bx11 := below_then (below_box w11 (.cells (mcs A11 n11 c11 B11 m11 d11 f2) 25)) (below_box _ (.cells #[.int .u64 x2, .bool y2] 47))
        have bq11 := below_then hb11 bx11
        replace O11 := O11.step bx11
        have R11 := O11.mem
        have M11 := (Blk.new w11 25 (mcs A11 n11 c11 B11 m11 d11 f2)).step (below_box _ (.cells #[.int .u64 x2, .bool y2] 47))
        have G11 := Blk.new2 w11 47 #[.int .u64 x2, .bool y2] (.cells (mcs A11 n11 c11 B11 m11 d11 f2) 25)
        replace Q4 := Q4.step bq11
        replace Q7 := Q7.step bq11
        replace oa := oa.step bq11
        replace ob := ob.step bq11
        replace M8 := M8.step bq11
        replace O8 := O8.step bq11
        replace hB := below_then hB bq11
        clear bx11 bq11 hb11
        obtain ⟨p0, p1, p2, pf⟩ := M11.cells3
        obtain ⟨q0, q1, q2, q3, qf⟩ := Q4.cells4
        go_wp2_with fail
        generalize ((w11.alloc (.cells #[.slice A11 n11 c11, .slice B11 m11 d11, .bool f2] 25)).alloc (.cells #[.int .u64 x2, .bool y2] 47)) = W5 at *
        clear p0 p1 p2 pf q0 q1 q2 q3 qf
        refine (mstep_any A11 n11 c11 B11 m11 d11 f2 1 k 0 0 ws2 ls2 W5 R11).mono ?_
        rintro e w14 ⟨A14, n14, c14, B14, m14, d14, rfl, O14, hb14⟩
        rw [E14.out] at O14 ⊢
        dsimp only at O14 ⊢
        have bx14 := below_then (below_box w14 (.cells (mcs A14 n14 c14 B14 m14 d14 f2) 25)) (below_box _ (.cells #[.int .u64 new, .bool true] 47))
        have bq14 := below_then hb14 bx14
        replace O14 := O14.step bx14
        have R14 := O14.mem
        have M14 := (Blk.new w14 25 (mcs A14 n14 c14 B14 m14 d14 f2)).step (below_box _ (.cells #[.int .u64 new, .bool true] 47))
        have G14 := Blk.new2 w14 47 #[.int .u64 new, .bool true] (.cells (mcs A14 n14 c14 B14 m14 d14 f2) 25)
        replace Q4 := Q4.step bq14
        replace Q7 := Q7.step bq14
        replace oa := oa.step bq14
        replace ob := ob.step bq14
        replace M8 := M8.step bq14
        replace O8 := O8.step bq14
        replace M11 := M11.step bq14
        replace O11 := O11.step bq14
        replace hB := below_then hB bq14
        clear bx14 bq14 hb14
        go_upto_region 14 with fail
        generalize ((w14.alloc (.cells #[.slice A14 n14 c14, .slice B14 m14 d14, .bool f2] 25)).alloc (.cells #[.int .u64 new, .bool true] 47)) = W6 at *
        have hnn : (new != new) = false := by simp
        have HKP := hid (⟨Q7, oa, ob, M8, O8, M11, O11, hB⟩ : Blk W6 w2.heap.size 25 (mcs A2 n2 c2 B2 m2 d2 f) ∧ Ow u64v W6 w1.heap.size 42 A2 n2 c2 ws ∧ Ow blv W6 w1.heap.size 4 B2 m2 d2 ls2 ∧ Blk W6 w8.heap.size 25 (mcs A8 n8 c8 B8 m8 d8 f) ∧ Mown W6 W3.heap.size A8 n8 c8 B8 m8 d8 (ws.set k new) ls2 ∧ Blk W6 w11.heap.size 25 (mcs A11 n11 c11 B11 m11 d11 f2) ∧ Mown W6 wc.heap.size A11 n11 c11 B11 m11 d11 ws2 ls2 ∧ Below w.heap.size w W6)
        obtain ⟨p0, p1, pf⟩ := G14.cells2
        obtain ⟨q0, q1, q2, q3, qf⟩ := Q4.cells4
        obtain ⟨r0, r1, r2, rf⟩ := M8.cells3
        obtain ⟨s0, s1, s2, sf⟩ := M11.cells3
        obtain ⟨t0, t1, t2, tf⟩ := M14.cells3
        clear Q7 oa ob M8 O8 M11 O11 hB M14 O14 R14 G14 G11 R11 Q4
        go_cut [126] (fun s wx => s = .bool false ∧ wx = W6)
        case first =>
          have hf := HF2.out
          cases f <;> cases f2 <;> (first | (exact Bool.noConfusion (hf rfl)) | (clear hf; go_wp2; go_meet; exact ⟨rfl, rfl⟩))
        case rest =>
          rename World => W7
          obtain ⟨rfl, hq⟩ := hcut
          obtain rfl : W6 = W7 := hq.symm
          obtain ⟨Q7, oa, ob, M8, O8, M11, O11, hB⟩ := HKP.out
          have HOA := hid oa; have HO8 := hid O8; have HM11 := hid M11; have HO11 := hid O11; have HB := hid hB; have HQ7 := hid Q7; have HM8 := hid M8
          have hn8 := hid (show n8 = n2 by have := O8.oa.len; have := oa.len; simp at *; omega)
          clear p0 p1 pf q0 q1 q2 q3 qf r0 r1 r2 rf s0 s1 s2 sf t0 t1 t2 tf oa ob O8 M11 O11 hB HKP
          obtain ⟨p0, p1, p2, pf⟩ := Q7.cells3
          obtain ⟨r0, r1, r2, rf⟩ := M8.cells3
          clear Q7 M8
          go_wp2_with fail
          go_loopw [130, 17] (fun i c wr => ∃ j q : Nat, ∃ z : Int, j ≤ n2 ∧ i = .int .i64 j ∧ c = .int .i64 z ∧ 0 ≤ z ∧ z ≤ (if k < j then 1 else 0) ∧ wr = W6.drewN q) (fun i _ _ => n2 - (intOf i).toNat)
          case atStart => exact ⟨0, 0, 0, Nat.zero_le _, rfl, rfl, Int.le_refl _, by simp, rfl⟩
          case round =>
            obtain ⟨j, q, z, hj, rfl, rfl, hz0, hz1, rfl⟩ := hrel
            by_cases hjl : j < n2
            · obtain ⟨b5, f5, rfl, _, _, c1⟩ := (HOA.out.sl (d := 0)).row (by omega)
              obtain ⟨b6, f6, rfl, _, _, c2⟩ := (HO8.out.oa.sl (d := 0)).row (by have := hn8.out; omega)
              have g1 := c1 j hjl
              have g2 := c2 j (by have := hn8.out; omega)
              rw [set_get ws k j new 0 HKL.out] at g2
              have hn8' : (j : Int) < (n8 : Int) := by have := hn8.out; omega
              clear c1 c2
              by_cases hjk : j = k
              · rw [if_pos hjk] at g2
                have hz2 : z ≤ 0 := by rw [if_neg (by omega)] at hz1; exact hz1
                subst hjk
                clear hz1
                generalize ws[j]?.getD 0 = x at *
                by_cases hxn : x = new
                · have e1 : (x != new) = false := by simp [hxn]
                  clear hxn
                  go_wp2
                  go_quiet (fail)
                  go_wp2
                  go_roundw
                  case rel => exact ⟨j + 1, _, z, by omega, by go_num, rfl, hz0, by rw [if_pos (by omega)]; omega, rfl⟩
                  case measure => simp [intOf]; omega
                · have e1 : (x != new) = true := by simp [hxn]
                  clear hxn
                  go_wp2
                  go_quiet (fail)
                  go_wp2
                  go_roundw
                  case rel => exact ⟨j + 1, _, z + 1, by omega, by go_num, by go_num, by omega, by rw [if_pos (by omega)]; omega, rfl⟩
                  case measure => simp [intOf]; omega
              · rw [if_neg hjk] at g2
                generalize ws[j]?.getD 0 = x at *
                have e1 : (x != x) = false := by simp
                have hz2 : z ≤ (if k < j + 1 then 1 else 0) := by split at hz1 <;> split <;> omega
                clear hz1
                go_wp2
                go_quiet (fail)
                go_wp2
                go_roundw
                case rel => exact ⟨j + 1, _, z, by omega, by go_num, rfl, hz0, hz2, rfl⟩
                case measure => simp [intOf]; omega
            · obtain rfl : j = n2 := by omega
              have hz2 : z ≤ 1 := by split at hz1 <;> omega
              have bq : Below W6.heap.size W6 (W6.drewN q) := below_drewN (Below.refl _ _) q
              have R11 := HO11.out.mem.step bq
              have M11 := HM11.out.step bq
              have hB := hid (below_then HB.out bq)
              obtain ⟨s0, s1, s2, sf⟩ := M11.cells3
              clear bq M11
              go_wp2_with fail
              refine (mcheck_any A11 n11 c11 B11 m11 d11 f2 ws2 ls2 _ R11).mono ?_
              rintro e w20 ⟨rfl, hb⟩
              rw [hmc.out]
              have HBF := hid (below_then hB.out hb)
              clear hb R11
              go_wp2
              go_ret
              exact ⟨rfl, HBF.out⟩
    · have E8 : Hid (accF (ws, ls, f) (2, at_, old, new) = (0, ((ws, ls, true), (0, false)))) := hid (by
        unfold accF stepM
        rw [if_neg (not_not_intro hg), if_neg (by simp), if_pos (by simpa using ha)])
      obtain ⟨p0, p1, p2, pf⟩ := Q7.cells3
      obtain ⟨q0, q1, q2, q3, qf⟩ := Q4.cells4
      clear hg ha
      go_wp2_with fail
      clear p0 p1 p2 pf q0 q1 q2 q3 qf
      refine (mstep_any A2 n2 c2 B2 m2 d2 f 2 at_ old new ws ls W3 R7).mono ?_
      rintro e w8 ⟨A8, n8, c8, B8, m8, d8, rfl, O8, hb8⟩
      rw [E8.out] at O8 ⊢
      dsimp only at O8 ⊢
      have bx8 := below_then (below_box w8 (.cells (mcs A8 n8 c8 B8 m8 d8 true) 25)) (below_box _ (.cells #[.int .u64 0, .bool false] 47))
      have bq8 := below_then hb8 bx8
      replace O8 := O8.step bx8
      have R8 := O8.mem
      have M8 := (Blk.new w8 25 (mcs A8 n8 c8 B8 m8 d8 true)).step (below_box _ (.cells #[.int .u64 0, .bool false] 47))
      have G8 := Blk.new2 w8 47 #[.int .u64 0, .bool false] (.cells (mcs A8 n8 c8 B8 m8 d8 true) 25)
      replace Q7 := Q7.step bq8
      replace R7 := R7.step bq8
      replace hB := below_then hB bq8
      clear bx8 bq8 hb8
      obtain ⟨p0, p1, p2, pf⟩ := Q7.cells3
      obtain ⟨k0, k1, kf⟩ := G8.cells2
      obtain ⟨r0, r1, r2, rf⟩ := M8.cells3
      go_wp2_with fail
      generalize ((w8.alloc (.cells #[.slice A8 n8 c8, .slice B8 m8 d8, .bool true] 25)).alloc (.cells #[.int .u64 0, .bool false] 47)) = W4 at *
      clear p0 p1 p2 pf k0 k1 kf r0 r1 r2 rf
      refine (msame_any A8 n8 c8 B8 m8 d8 false ws ls A2 n2 c2 B2 m2 d2 false ws ls W4 R8 R7).mono ?_
      rintro e w6 ⟨rfl, hb⟩
      rw [show sameM (ws, ls, false) (ws, ls, false) = true from decide_eq_true ⟨rfl, rfl, rfl⟩]
      have HB := hid (below_then hB hb)
      clear hB hb
      go_wp2
      go_ret
      exact ⟨rfl, HB.out⟩
  · have E8 : Hid (accF (ws, ls, f) (2, at_, old, new) = (120, (([], [], false), (0, false)))) := hid (if_pos hg)
    have hc : mcheckC ws ls = 120 := if_neg hg
    obtain ⟨p0, p1, p2, pf⟩ := Q7.cells3
    obtain ⟨q0, q1, q2, q3, qf⟩ := Q4.cells4
    clear hg
    go_wp2_with fail
    clear p0 p1 p2 pf q0 q1 q2 q3 qf
    refine (mstep_any A2 n2 c2 B2 m2 d2 f 2 at_ old new ws ls W3 R7).mono ?_
    rintro e w8 ⟨A8, n8, c8, B8, m8, d8, rfl, O8, hb8⟩
    rw [E8.out] at O8 ⊢
    dsimp only at O8 ⊢
    obtain rfl : 0 = n8 := O8.oa.len
    obtain rfl : 0 = m8 := O8.ob.len
    have bx8 := below_then (below_box w8 (.cells (mcs A8 0 c8 B8 0 d8 false) 25)) (below_box _ (.cells #[.int .u64 0, .bool false] 47))
    have bq8 := below_then hb8 bx8
    replace O8 := O8.step bx8
    have R8 := O8.mem
    have M8 := (Blk.new w8 25 (mcs A8 0 c8 B8 0 d8 false)).step (below_box _ (.cells #[.int .u64 0, .bool false] 47))
    have G8 := Blk.new2 w8 47 #[.int .u64 0, .bool false] (.cells (mcs A8 0 c8 B8 0 d8 false) 25)
    replace Q7 := Q7.step bq8
    replace R7 := R7.step bq8
    replace hB := below_then hB bq8
    clear bx8 bq8 hb8
    obtain ⟨p0, p1, p2, pf⟩ := Q7.cells3
    go_wp2_with fail
    generalize ((w8.alloc (.cells #[.slice A8 0 c8, .slice B8 0 d8, .bool false] 25)).alloc (.cells #[.int .u64 0, .bool false] 47)) = W4 at *
    clear p0 p1 p2 pf
    refine (mcheck_any A2 n2 c2 B2 m2 d2 f ws ls W4 R7).mono ?_
    rintro e w5 ⟨rfl, hb⟩
    rw [hc]
    replace M8 := M8.step hb; replace hB := below_then hB hb
    obtain ⟨p0, p1, p2, pf⟩ := M8.cells3
    clear hb
    go_wp2_with fail
    refine (mnone_any A8 0 c8 B8 0 d8 false w5 (by omega) (by omega)).mono ?_
    rintro e w6 ⟨rfl, hb⟩
    have HB := hid (below_then hB hb)
    clear hB hb
    go_wp2
    go_ret
    exact ⟨rfl, HB.out⟩
end Go.Proofs.Ytenhojdhjfoomaa
