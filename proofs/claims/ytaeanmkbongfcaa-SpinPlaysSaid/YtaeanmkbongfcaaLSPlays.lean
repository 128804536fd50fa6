/- afterglowlaw05.SpinPlays returns true at every memory, row of those who want locks, and of picks, and turns nothing old. No condition but the sizes of memory. -/
import Derived.Test.YtaeanmkbongfcaaSp17
namespace Go.Proofs.Ytaeanmkbongfcaa
open Go.RowKit
theorem allsp_take {l : List Spn} {j : Nat} (hj : j < l.length) : AllSp (l.take (j + 1)) ↔ AllSp (l.take j) ∧ SpGood (l[j]?.getD (0, 0, 0)) := by
  unfold AllSp
  rw [List.take_succ_eq_append_getElem hj, List.getElem?_eq_getElem hj]
  simp only [List.mem_append, List.mem_singleton, Option.getD_some]
  constructor
  · intro h; exact ⟨fun s hs => h s (.inl hs), h _ (.inr rfl)⟩
  · rintro ⟨h1, h2⟩ s (hs | rfl)
    · exact h1 s hs
    · exact h2
theorem if_congr' {P Q : Prop} [Decidable P] [Decidable Q] {α : Type} (x y : α) (h : P ↔ Q) : (if P then x else y) = if Q then x else y := by
  by_cases hp : P
  · rw [if_pos hp, if_pos (h.1 hp)]
  · rw [if_neg hp, if_neg (fun hq => hp (h.2 hq))]
theorem equal_int_b (A B : Option Addr) (n c m c' lo hi lo' hi' : Nat) (xs ys : List Int) (w : World) (hx : Sl i64 0 w lo hi A n xs) (hy : Sl i64 0 w lo' hi' B m ys) (hn : n ≤ 1000000) (hm : m ≤ 1000000) :
    Calls Try.prog 18 #[.slice A n c, .slice B m c'] w fun e w' => e = .returned (.bool (decide (xs = ys))) ∧ Below w.heap.size w w' := by
  refine (equal_int A B n c m c' lo hi lo' hi' xs ys w hx hy hn hm).mono ?_
  rintro e w' ⟨rfl, q, rfl⟩
  exact ⟨rfl, below_drewN (Below.refl _ _) _⟩
set_option maxRecDepth 100000 in
set_option maxHeartbeats 8000000 in
theorem spplays_any (A : Option Addr) (n c : Nat) (B : Option Addr) (k d : Nat) (f : Bool) (xs : List Int) (ys : List Bool) (L : Option Addr) (nl cl : Nat) (l0 : List Spn) (Q : Option Addr) (nq cq : Nat) (ps0 : List Int) (w : World) (hx : Sl u64v 0 w 0 w.heap.size A n xs) (hy : Sl blv false w 0 w.heap.size B k ys) (hnc : n ≤ c) (hkd : k ≤ d)
    (hl : Sm 3 encS (0, 0, 0) w 0 w.heap.size L nl l0) (hnl : nl ≤ cl) (hq : Sl i64 0 w 0 w.heap.size Q nq ps0) (hnq : nq ≤ cq) :
    Calls Try.prog 3 #[mv A n c B k d f, .slice L nl cl, .slice Q nq cq] w fun e w' => e = .returned (.bool true) ∧ Below w.heap.size w w' := by
  have HX := hid hx; have HY := hid hy; have HL := hid hl; have HQ := hid hq; have HB := hid (Below.refl w.heap.size w)
  clear hx hy hl hq
  have bx := below_box w (.cells (mcs A n c B k d f) 25)
  replace HX := hid (HX.out.step bx); replace HY := hid (HY.out.step bx); replace HL := hid (HL.out.step bx); replace HQ := hid (HQ.out.step bx); replace HB := hid (below_then HB.out bx)
  clear bx
  have PX := hid (Blk.new w 25 (mcs A n c B k d f))
  go_enter Try.func3, Try.ntmps3
  go_wp2_with fail
  generalize w.alloc (.cells (mcs A n c B k d f) 25) = W0 at *
  refine (spwakes_any W0).mono ?_
  rintro e w1 ⟨rfl, hb⟩
  replace HX := hid (HX.out.step hb); replace HY := hid (HY.out.step hb); replace HL := hid (HL.out.step hb); replace HQ := hid (HQ.out.step hb); replace PX := hid (PX.out.step hb); replace HB := hid (below_then HB.out hb)
  clear hb
  obtain ⟨y00, y01, y02, yf0⟩ := PX.out.cells3
  go_wp2_with fail
  clear y00 y01 y02 yf0
  refine (lown_r A n c B k d f xs ys w1 HX.out HY.out hnc hkd).mono ?_
  rintro e w2 ⟨A2, n2, c2, B2, k2, d2, rfl, oa, ob, hb, hn2, hk2⟩
  replace HX := hid (HX.out.step hb); replace HY := hid (HY.out.step hb); replace HL := hid (HL.out.step hb); replace HQ := hid (HQ.out.step hb); replace PX := hid (PX.out.step hb); replace HB := hid (below_then HB.out hb)
  obtain ⟨ws, hws⟩ : ∃ ws, ws = xs.take 16 := ⟨_, rfl⟩
  obtain ⟨ls, hls⟩ : ∃ ls, ls = ys.take 16 := ⟨_, rfl⟩
  rw [← hws] at oa
  rw [← hls] at ob
  have HWS := hid hws; have HLS := hid hls
  have M2 := hid (Mem.ofOw oa ob (by omega) (by omega))
  clear hb hws hls oa ob
  go_wp2_with fail
  refine (few_any L nl cl l0 w2 HL.out hnl).mono ?_
  rintro e w3 ⟨L3, c3, rfl, ho, hb⟩
  replace HX := hid (HX.out.step hb); replace HY := hid (HY.out.step hb); replace HL := hid (HL.out.step hb); replace HQ := hid (HQ.out.step hb); replace PX := hid (PX.out.step hb); replace M2 := hid (M2.out.step hb); replace HB := hid (below_then HB.out hb)
  obtain ⟨m3, hm3⟩ : ∃ m, m = min nl 6 := ⟨_, rfl⟩
  obtain ⟨l, hl⟩ : ∃ l, l = l0.take 6 := ⟨_, rfl⟩
  rw [← hm3, ← hl] at ho
  rw [← hm3]
  have hm36 : m3 ≤ 6 := by omega
  have HFL := hid hl; have HFM := hid hm3
  have R3 := hid ho
  have hl3 := hid ho.len
  clear hb hm3 hl ho
  have bx := below_box w3 (.cells (mcs A2 n2 c2 B2 k2 d2 f) 25)
  replace HX := hid (HX.out.step bx); replace HY := hid (HY.out.step bx); replace HL := hid (HL.out.step bx); replace HQ := hid (HQ.out.step bx); replace PX := hid (PX.out.step bx); replace M2 := hid (M2.out.step bx); replace R3 := hid (R3.out.step bx); replace HB := hid (below_then HB.out bx)
  clear bx
  have PM := hid (Blk.new w3 25 (mcs A2 n2 c2 B2 k2 d2 f))
  obtain ⟨m4, hm4⟩ : ∃ m, m = min nq 80 := ⟨_, rfl⟩
  obtain ⟨ps, hps⟩ : ∃ l, l = ps0.take 80 := ⟨_, rfl⟩
  have hm48 : m4 ≤ 80 := by omega
  have HMI := hid (show min (nq : Int) 80 = (m4 : Int) by omega)
  have hmc1 : (m4 : Int) ≤ (cq : Int) := by omega
  have hmc0 : (0 : Int) ≤ (m4 : Int) := by omega
  go_upto_region 4 with fail
  generalize w3.alloc (.cells (mcs A2 n2 c2 B2 k2 d2 f) 25) = W4 at *
  have HQ4 := hid (show Sl i64 0 W4 0 W4.heap.size Q m4 ps by
    rw [hm4, hps]
    by_cases h80 : nq ≤ 80
    · rw [show min nq 80 = nq by omega, List.take_of_length_le (by rw [HQ.out.len]; exact h80)]; exact HQ.out
    · rw [show min nq 80 = 80 by omega]; exact HQ.out.take (by omega))
  have hmm := HMI.out
  clear hm4 hps
  clear HQ
  skip
  have hmin2 : (if (80 : Int) < (nq : Int) then (80 : Int) else (nq : Int)) = (m4 : Int) := by split <;> omega
  go_wp2_with fail
  refine (clone_int Q m4 cq 0 ps _ HQ4.out (by omega)).mono ?_
  rintro e w5 ⟨Q5, c5, rfl, ho, hb⟩
  replace HX := hid (HX.out.step hb); replace HY := hid (HY.out.step hb); replace HL := hid (HL.out.step hb); replace PX := hid (PX.out.step hb); replace M2 := hid (M2.out.step hb); replace R3 := hid (R3.out.step hb); replace PM := hid (PM.out.step hb); replace HQ4 := hid (HQ4.out.step hb); replace HB := hid (below_then HB.out hb)
  clear hb
  have HQ5 := hid ho
  clear ho HQ4
  obtain ⟨y00, y01, y02, yf0⟩ := PM.out.cells3
  go_wp2_with fail
  clear y00 y01 y02 yf0
  obtain ⟨⟨no, ⟨wz, lz, fz⟩, az, hz⟩, hr⟩ : ∃ x, x = spPlayF (ws, ls, f) l ps := ⟨_, rfl⟩
  have HR := hid hr
  clear hr
  refine (spplay_any A2 n2 c2 B2 k2 d2 f ws ls L3 m3 c3 l Q5 m4 c5 ps _ M2.out (R3.out.sm.mono (Nat.zero_le _) (Nat.le_refl _)) (by omega) (HQ5.out.sl.mono (Nat.zero_le _) (Nat.le_refl _)) (by omega)).mono ?_
  rintro e w6 ⟨A6, n6, c6, B6, k6, d6, L6, nl6, cl6, G6, ng6, cg6, rfl, om, oa, oh, hb⟩
  rw [← HR.out] at om oa oh ⊢
  dsimp only at om oa oh ⊢
  replace HX := hid (HX.out.step hb); replace HY := hid (HY.out.step hb); replace HL := hid (HL.out.step hb); replace PX := hid (PX.out.step hb); replace M2 := hid (M2.out.step hb); replace R3 := hid (R3.out.step hb); replace PM := hid (PM.out.step hb); replace HQ5 := hid (HQ5.out.step hb); replace HB := hid (below_then HB.out hb)
  have M6 := hid om; have A6' := hid oa; have G6' := hid oh
  clear hb om oa oh
  have bx := below_box w6 (.cells (mcs A6 n6 c6 B6 k6 d6 fz) 25)
  replace HX := hid (HX.out.step bx); replace HY := hid (HY.out.step bx); replace HL := hid (HL.out.step bx); replace PX := hid (PX.out.step bx); replace M2 := hid (M2.out.step bx); replace R3 := hid (R3.out.step bx); replace PM := hid (PM.out.step bx); replace HQ5 := hid (HQ5.out.step bx); replace M6 := hid (M6.out.step bx); replace A6' := hid (A6'.out.step bx); replace G6' := hid (G6'.out.step bx); replace HB := hid (below_then HB.out bx)
  clear bx
  have PN := hid (Blk.new w6 25 (mcs A6 n6 c6 B6 k6 d6 fz))
  obtain ⟨y00, y01, y02, yf0⟩ := PM.out.cells3
  go_upto_region 7 with fail
  clear y00 y01 y02 yf0
  generalize w6.alloc (.cells (mcs A6 n6 c6 B6 k6 d6 fz) 25) = W7 at *
  obtain ⟨y00, y01, y02, yf0⟩ := PM.out.cells3
  go_wp2_with fail
  clear y00 y01 y02 yf0
  refine (rright_any A2 n2 c2 B2 k2 d2 f ws ls _ M2.out).mono ?_
  rintro e w8 ⟨rfl, hb⟩
  replace HX := hid (HX.out.step hb); replace HY := hid (HY.out.step hb); replace HL := hid (HL.out.step hb); replace PX := hid (PX.out.step hb); replace M2 := hid (M2.out.step hb); replace R3 := hid (R3.out.step hb); replace PM := hid (PM.out.step hb); replace HQ5 := hid (HQ5.out.step hb); replace M6 := hid (M6.out.step hb); replace A6' := hid (A6'.out.step hb); replace G6' := hid (G6'.out.step hb); replace PN := hid (PN.out.step hb); replace HB := hid (below_then HB.out hb)
  clear hb
  have HE := hid (show spPlayF (ws, ls, f) l ps = if ¬ MGood ws ls then (120, ([], [], false), [], []) else if ¬ AllSp l then (150, ([], [], false), [], []) else (0, (playS (ws, ls, f) l (vpk l.length ps)).1, (playS (ws, ls, f) l (vpk l.length ps)).2, heldF (ws, ls, f) l (vpk l.length ps)) from rfl)
  by_cases hg : MGood ws ls
  rotate_left
  · rw [show decide (MGood ws ls) = false from decide_eq_false hg]
    have he := HR.out.trans (HE.out.trans (if_pos hg))
    simp only [Prod.mk.injEq] at he
    obtain ⟨rfl, ⟨rfl, rfl, rfl⟩, rfl, rfl⟩ := he
    obtain rfl : 0 = n6 := M6.out.oa.len
    obtain rfl : 0 = nl6 := A6'.out.len
    obtain rfl : 0 = ng6 := G6'.out.len
    obtain ⟨y00, y01, y02, yf0⟩ := PN.out.cells3
    go_wp2_with fail
    refine bodyPost_ret (v := .bool true) (by simp [results, Try.results3, go_sem]) rfl ⟨rfl, HB.out⟩
  rw [show decide (MGood ws ls) = true from decide_eq_true hg]
  have HG := hid hg
  clear hg
  have XH := HB; have H0 := hid (Below.refl w8.heap.size w8)
  go_wp2_with fail
  go_loopw [45, 13] (fun i s13 wr => ∃ j : Nat, j ≤ m3 ∧ i = .int .i64 j ∧ s13 = .int .i64 (if AllSp (l.take j) then 0 else 150) ∧ Below w8.heap.size w8 wr) (fun i _ _ => m3 - (intOf i).toNat)
  case atStart => exact ⟨0, Nat.zero_le _, rfl, by rw [if_pos (show AllSp (l.take 0) from fun s hs => by simp at hs)], H0.out⟩
  case round =>
    obtain ⟨j, hj, rfl, rfl, hbr⟩ := hrel
    have HBR := hid hbr
    replace HX := hid (HX.out.step hbr); replace HY := hid (HY.out.step hbr); replace HL := hid (HL.out.step hbr); replace PX := hid (PX.out.step hbr); replace M2 := hid (M2.out.step hbr); replace R3 := hid (R3.out.step hbr); replace PM := hid (PM.out.step hbr); replace HQ5 := hid (HQ5.out.step hbr); replace M6 := hid (M6.out.step hbr); replace A6' := hid (A6'.out.step hbr); replace G6' := hid (G6'.out.step hbr); replace PN := hid (PN.out.step hbr)
    replace HB := hid (below_then HB.out hbr)
    clear hbr H0
    by_cases hjl : j < m3
    · skip
      obtain ⟨b, off, hL3, _, _, hc⟩ := (R3.out.sm (d := (0, 0, 0))).row (by omega)
      subst hL3
      obtain ⟨f0, f1, f2⟩ := Sm.spn hc hjl
      obtain ⟨⟨a, p, t⟩, hs⟩ : ∃ x, x = l[j]?.getD (0, 0, 0) := ⟨_, rfl⟩
      have HT := hid (allsp_take (l := l) (j := j) (by have := hl3.out; omega))
      rw [← hs] at f0 f1 f2 HT
      clear hc hs
      have hji : (j : Int) < (m3 : Int) := by omega
      obtain ⟨z, hz'⟩ : ∃ z : Int, z = if AllSp (l.take j) then 0 else 150 := ⟨_, rfl⟩
      rw [← hz']
      have HZ := hid hz'
      clear hz'
      have bx := below_box wr (.cells (scs a p t) 38)
      replace HX := hid (HX.out.step bx); replace HY := hid (HY.out.step bx); replace HL := hid (HL.out.step bx); replace PX := hid (PX.out.step bx); replace M2 := hid (M2.out.step bx); replace R3 := hid (R3.out.step bx); replace PM := hid (PM.out.step bx); replace HQ5 := hid (HQ5.out.step bx); replace M6 := hid (M6.out.step bx); replace A6' := hid (A6'.out.step bx); replace G6' := hid (G6'.out.step bx); replace PN := hid (PN.out.step bx); replace HB := hid (below_then HB.out bx); replace HBR := hid (below_then HBR.out bx)
      clear bx
      have PS := hid (Blk.new wr 38 (scs a p t))
      go_upto_region 12 with fail
      clear f0 f1 f2
      generalize wr.alloc (.cells (scs a p t) 38) = W9 at *
      obtain ⟨y00, y01, y02, yf0⟩ := PS.out.cells3
      go_wp2_with fail
      clear y00 y01 y02 yf0
      refine (rspright_any a p t W9).mono ?_
      rintro e w10 ⟨rfl, hb⟩
      replace HX := hid (HX.out.step hb); replace HY := hid (HY.out.step hb); replace HL := hid (HL.out.step hb); replace PX := hid (PX.out.step hb); replace M2 := hid (M2.out.step hb); replace R3 := hid (R3.out.step hb); replace PM := hid (PM.out.step hb); replace HQ5 := hid (HQ5.out.step hb); replace M6 := hid (M6.out.step hb); replace A6' := hid (A6'.out.step hb); replace G6' := hid (G6'.out.step hb); replace PN := hid (PN.out.step hb); replace PS := hid (PS.out.step hb); replace HB := hid (below_then HB.out hb); replace HBR := hid (below_then HBR.out hb)
      clear hb
      by_cases hsg : SpGood (a, p, t)
      · rw [show decide (SpGood (a, p, t)) = true from decide_eq_true hsg]
        have hz2 := hid (show z = if AllSp (l.take (j + 1)) then 0 else 150 by rw [HZ.out]; exact if_congr' _ _ (HT.out.trans (and_iff_left hsg)).symm)
        go_wp2_with fail
        exact ⟨⟨j + 1, by omega, by simp, congrArg (Value.int .i64) hz2.out, HBR.out⟩, by simp [intOf]; omega⟩
      · rw [show decide (SpGood (a, p, t)) = false from decide_eq_false hsg]
        have hz2 := hid (show (150 : Int) = if AllSp (l.take (j + 1)) then 0 else 150 by rw [if_neg (fun h => hsg (HT.out.1 h).2)])
        go_wp2_with fail
        exact ⟨⟨j + 1, by omega, by simp, congrArg (Value.int .i64) hz2.out, HBR.out⟩, by simp [intOf]; omega⟩
    obtain rfl : m3 = j := by omega
    have hjn : ¬ ((m3 : Int) < (m3 : Int)) := by omega
    rw [List.take_of_length_le (show l.length ≤ m3 by have := hl3.out; omega)]
    by_cases hall : AllSp l
    rotate_left
    · rw [if_neg hall]
      have he := HR.out.trans (HE.out.trans ((if_neg (not_not_intro HG.out)).trans (if_pos hall)))
      simp only [Prod.mk.injEq] at he
      obtain ⟨rfl, ⟨rfl, rfl, rfl⟩, rfl, rfl⟩ := he
      obtain rfl : 0 = n6 := M6.out.oa.len
      obtain rfl : 0 = nl6 := A6'.out.len
      obtain rfl : 0 = ng6 := G6'.out.len
      obtain ⟨y00, y01, y02, yf0⟩ := PN.out.cells3
      go_wp2_with fail
      refine bodyPost_ret (v := .bool true) (by simp [results, Try.results3, go_sem]) rfl ⟨rfl, HB.out⟩
    rw [if_pos hall]
    have HA := hid hall
    clear hall
    obtain ⟨y00, y01, y02, yf0⟩ := PX.out.cells3
    go_wp2_with fail
    clear y00 y01 y02 yf0
    refine (lown_r A n c B k d f xs ys _ HX.out HY.out hnc hkd).mono ?_
    rintro e w11 ⟨A7, n7, c7, B7, k7, d7, rfl, oa, ob, hb, hn7, hk7⟩
    replace HX := hid (HX.out.step hb); replace HY := hid (HY.out.step hb); replace HL := hid (HL.out.step hb); replace PX := hid (PX.out.step hb); replace M2 := hid (M2.out.step hb); replace R3 := hid (R3.out.step hb); replace PM := hid (PM.out.step hb); replace HQ5 := hid (HQ5.out.step hb); replace M6 := hid (M6.out.step hb); replace A6' := hid (A6'.out.step hb); replace G6' := hid (G6'.out.step hb); replace PN := hid (PN.out.step hb); replace HB := hid (below_then HB.out hb); replace HBR := hid (below_then HBR.out hb)
    rw [← HWS.out] at oa
    rw [← HLS.out] at ob
    obtain rfl : n7 = k7 := by rw [← oa.len, ← ob.len]; exact HG.out.1.2.2.symm
    have M7 := hid (Mem.ofOw oa ob (by omega) (by omega))
    clear hb oa ob
    go_wp2_with fail
    have he := HR.out.trans (HE.out.trans ((if_neg (not_not_intro HG.out)).trans (if_neg (not_not_intro HA.out))))
    rw [hl3.out] at he
    simp only [Prod.mk.injEq] at he
    obtain ⟨rfl, he1, he2, he3⟩ := he
    have HLZ := hid (show hz.length ≤ 80 by
      rw [he3]
      refine Nat.le_trans (heldF_len _ _ _) (Nat.le_trans (List.length_filter_le _ _) ?_)
      have := HQ5.out.len; omega)
    have HEE := hid (show ((playS (ws, ls, f) l (vpk m3 ps)).1, (playS (ws, ls, f) l (vpk m3 ps)).2, heldF (ws, ls, f) l (vpk m3 ps)) = ((wz, lz, fz), az, hz) by rw [he1, he2, he3])
    clear he1 he2 he3
    refine (rspplay_any A7 n7 c7 B7 n7 d7 f ws ls L3 m3 c3 l Q5 m4 c5 ps _ M7.out rfl (R3.out.sm.mono (Nat.zero_le _) (Nat.le_refl _)) (by omega) (HQ5.out.sl.mono (Nat.zero_le _) (Nat.le_refl _)) (by omega)).mono ?_
    rw [HEE.out]
    rintro e w12 ⟨A8, c8, B8, d8, L8, cl8, G8, ng8, cg8, rfl, om, oa, oh, hb⟩
    dsimp only at om oa oh ⊢
    replace HX := hid (HX.out.step hb); replace HY := hid (HY.out.step hb); replace HL := hid (HL.out.step hb); replace PX := hid (PX.out.step hb); replace M2 := hid (M2.out.step hb); replace R3 := hid (R3.out.step hb); replace PM := hid (PM.out.step hb); replace HQ5 := hid (HQ5.out.step hb); replace M6 := hid (M6.out.step hb); replace A6' := hid (A6'.out.step hb); replace G6' := hid (G6'.out.step hb); replace PN := hid (PN.out.step hb); replace M7 := hid (M7.out.step hb); replace HB := hid (below_then HB.out hb); replace HBR := hid (below_then HBR.out hb)
    have M8 := hid om; have A8' := hid oa; have G8' := hid oh
    clear hb om oa oh
    have bx := below_box w12 (.cells (mcs A8 n7 c8 B8 n7 d8 fz) 25)
    replace HX := hid (HX.out.step bx); replace HY := hid (HY.out.step bx); replace HL := hid (HL.out.step bx); replace PX := hid (PX.out.step bx); replace M2 := hid (M2.out.step bx); replace R3 := hid (R3.out.step bx); replace PM := hid (PM.out.step bx); replace HQ5 := hid (HQ5.out.step bx); replace M6 := hid (M6.out.step bx); replace A6' := hid (A6'.out.step bx); replace G6' := hid (G6'.out.step bx); replace PN := hid (PN.out.step bx); replace M7 := hid (M7.out.step bx); replace M8 := hid (M8.out.step bx); replace A8' := hid (A8'.out.step bx); replace G8' := hid (G8'.out.step bx); replace HB := hid (below_then HB.out bx); replace HBR := hid (below_then HBR.out bx)
    clear bx
    have PW := hid (Blk.new w12 25 (mcs A8 n7 c8 B8 n7 d8 fz))
    go_upto_region 18 with fail
    generalize w12.alloc (.cells (mcs A8 n7 c8 B8 n7 d8 fz) 25) = W13 at *
    have HS1 := hid (show sameM (wz, lz, fz) (wz, lz, fz) = true from decide_eq_true ⟨rfl, rfl, rfl⟩)
    have HS2 := hid (show sameM (ws, ls, f) (ws, ls, f) = true from decide_eq_true ⟨rfl, rfl, rfl⟩)
    have hnl6 : nl6 ≤ 6 := by have := A6'.out.len; have := A8'.out.len; omega
    have hng6 : ng6 ≤ 80 := by have := G6'.out.len; have := HLZ.out; omega
    have hng8 : ng8 ≤ 80 := by have := G8'.out.len; have := HLZ.out; omega
    have bx := (Below.refl W13.heap.size W13).drew
    replace HX := hid (HX.out.step bx); replace HY := hid (HY.out.step bx); replace HL := hid (HL.out.step bx); replace PX := hid (PX.out.step bx); replace M2 := hid (M2.out.step bx); replace R3 := hid (R3.out.step bx); replace PM := hid (PM.out.step bx); replace HQ5 := hid (HQ5.out.step bx); replace M6 := hid (M6.out.step bx); replace A6' := hid (A6'.out.step bx); replace G6' := hid (G6'.out.step bx); replace PN := hid (PN.out.step bx); replace M7 := hid (M7.out.step bx); replace M8 := hid (M8.out.step bx); replace A8' := hid (A8'.out.step bx); replace G8' := hid (G8'.out.step bx); replace PW := hid (PW.out.step bx); replace HB := hid (below_then HB.out bx)
    clear bx
    have hszd := hid (show W13.drew.heap.size = W13.heap.size from rfl)
    refine wp_region_noPanic ?_
    refine wp_region_held_drew (S := (fun W' : World => W'.cell? ⟨w6.heap.size, 0, none⟩ = some (.slice A6 n6 c6) ∧ W'.cell? ⟨w6.heap.size, 1, none⟩ = some (.slice B6 k6 d6) ∧ W'.cell? ⟨w6.heap.size, 2, none⟩ = some (.bool fz) ∧ W'.cell? ⟨w12.heap.size, 0, none⟩ = some (.slice A8 n7 c8) ∧ W'.cell? ⟨w12.heap.size, 1, none⟩ = some (.slice B8 n7 d8) ∧ W'.cell? ⟨w12.heap.size, 2, none⟩ = some (.bool fz) ∧ W'.cell? ⟨w3.heap.size, 0, none⟩ = some (.slice A2 n2 c2) ∧ W'.cell? ⟨w3.heap.size, 1, none⟩ = some (.slice B2 k2 d2) ∧ W'.cell? ⟨w3.heap.size, 2, none⟩ = some (.bool f) ∧ W'.cell? ⟨w.heap.size, 0, none⟩ = some (.slice A n c) ∧ W'.cell? ⟨w.heap.size, 1, none⟩ = some (.slice B k d) ∧ W'.cell? ⟨w.heap.size, 2, none⟩ = some (.bool f))) (by kernel_rfl) ⟨PN.out.cells3.1, PN.out.cells3.2.1, PN.out.cells3.2.2.1, PW.out.cells3.1, PW.out.cells3.2.1, PW.out.cells3.2.2.1, PM.out.cells3.1, PM.out.cells3.2.1, PM.out.cells3.2.2.1, PX.out.cells3.1, PX.out.cells3.2.1, PX.out.cells3.2.2.1⟩ (fun hS => ?_)
    generalize W13.drew = Wd at *
    refine wpAnyH_take (i := 0) (v := ?_) (by simp only [List.getElem?_toArray, List.getElem?_cons_succ, List.getElem?_cons_zero]; rfl) (by kernel_rfl) (by kernel_rfl) (by kernel_rfl) (fun _ _ _ h => h) (Or.inl ⟨by rfl, ?_⟩) hS ?_
    rotate_left
    · intro w' hSw; (try dsimp only at hSw); go_split_ands; go_simp; (try with_reducible rfl)
    (try simp only [Act.put, List.setIfInBounds_toArray, List.set_cons_zero, List.set_cons_succ])
    refine wpAnyH_take (i := 1) (v := ?_) (by simp only [List.getElem?_toArray, List.getElem?_cons_succ, List.getElem?_cons_zero]; rfl) (by kernel_rfl) (by kernel_rfl) (by kernel_rfl) (fun _ _ _ h => h) (Or.inl ⟨by rfl, ?_⟩) hS ?_
    rotate_left
    · intro w' hSw; (try dsimp only at hSw); go_split_ands; go_simp; (try with_reducible rfl)
    (try simp only [Act.put, List.setIfInBounds_toArray, List.set_cons_zero, List.set_cons_succ])
    refine wpAnyH_take (i := 2) (v := ?_) (by simp only [List.getElem?_toArray, List.getElem?_cons_succ, List.getElem?_cons_zero]; rfl) (by kernel_rfl) (by kernel_rfl) (by kernel_rfl) (fun _ _ _ h => h) (Or.inl ⟨by rfl, ?_⟩) hS ?_
    rotate_left
    · intro w' hSw; (try dsimp only at hSw); go_split_ands; go_simp; (try with_reducible rfl)
    (try simp only [Act.put, List.setIfInBounds_toArray, List.set_cons_zero, List.set_cons_succ])
    refine wpAnyH_take (i := 3) (v := ?_) (by simp only [List.getElem?_toArray, List.getElem?_cons_succ, List.getElem?_cons_zero]; rfl) (by kernel_rfl) (by kernel_rfl) (by kernel_rfl) (fun _ _ _ h => h) (Or.inl ⟨by rfl, ?_⟩) hS ?_
    rotate_left
    · intro w' hSw; (try dsimp only at hSw); go_split_ands; go_simp; (try with_reducible rfl)
    (try simp only [Act.put, List.setIfInBounds_toArray, List.set_cons_zero, List.set_cons_succ])
    refine wpAnyH_take (i := 4) (v := ?_) (by simp only [List.getElem?_toArray, List.getElem?_cons_succ, List.getElem?_cons_zero]; rfl) (by kernel_rfl) (by kernel_rfl) (by kernel_rfl) (fun _ _ _ h => h) (Or.inl ⟨by rfl, ?_⟩) hS ?_
    rotate_left
    · intro w' hSw; (try dsimp only at hSw); go_split_ands; go_simp; (try with_reducible rfl)
    (try simp only [Act.put, List.setIfInBounds_toArray, List.set_cons_zero, List.set_cons_succ])
    refine wpAnyH_ready (rs := [5]) (by kernel_rfl) (by simp) ?_
    refine AllReadyH.cons (by simp only [List.getElem?_toArray, List.getElem?_cons_succ, List.getElem?_cons_zero]; rfl) (fun K hK => ?_) ?_
    · skip
      go_simp
      refine (rmsame_any A6 n6 c6 B6 k6 d6 fz wz lz A8 n7 c8 B8 n7 d8 fz wz lz _ M6.out.mem M8.out).mono ?_
      rintro e w15 ⟨rfl, hb⟩
      have hsz0 := hid (show Wd.heap.size ≤ w15.heap.size from hb.size)
      replace HX := hid (HX.out.step hb); replace HY := hid (HY.out.step hb); replace HL := hid (HL.out.step hb); replace PX := hid (PX.out.step hb); replace M2 := hid (M2.out.step hb); replace R3 := hid (R3.out.step hb); replace PM := hid (PM.out.step hb); replace HQ5 := hid (HQ5.out.step hb); replace M6 := hid (M6.out.step hb); replace A6' := hid (A6'.out.step hb); replace G6' := hid (G6'.out.step hb); replace PN := hid (PN.out.step hb); replace M7 := hid (M7.out.step hb); replace M8 := hid (M8.out.step hb); replace A8' := hid (A8'.out.step hb); replace G8' := hid (G8'.out.step hb); replace PW := hid (PW.out.step hb); replace HB := hid (below_then HB.out hb)
      clear hb
      rw [HS1.out]
      go_wp2_with fail
      have hS' : (fun W' : World => W'.cell? ⟨w6.heap.size, 0, none⟩ = some (.slice A6 n6 c6) ∧ W'.cell? ⟨w6.heap.size, 1, none⟩ = some (.slice B6 k6 d6) ∧ W'.cell? ⟨w6.heap.size, 2, none⟩ = some (.bool fz) ∧ W'.cell? ⟨w12.heap.size, 0, none⟩ = some (.slice A8 n7 c8) ∧ W'.cell? ⟨w12.heap.size, 1, none⟩ = some (.slice B8 n7 d8) ∧ W'.cell? ⟨w12.heap.size, 2, none⟩ = some (.bool fz) ∧ W'.cell? ⟨w3.heap.size, 0, none⟩ = some (.slice A2 n2 c2) ∧ W'.cell? ⟨w3.heap.size, 1, none⟩ = some (.slice B2 k2 d2) ∧ W'.cell? ⟨w3.heap.size, 2, none⟩ = some (.bool f) ∧ W'.cell? ⟨w.heap.size, 0, none⟩ = some (.slice A n c) ∧ W'.cell? ⟨w.heap.size, 1, none⟩ = some (.slice B k d) ∧ W'.cell? ⟨w.heap.size, 2, none⟩ = some (.bool f)) _ := ⟨PN.out.cells3.1, PN.out.cells3.2.1, PN.out.cells3.2.2.1, PW.out.cells3.1, PW.out.cells3.2.1, PW.out.cells3.2.2.1, PM.out.cells3.1, PM.out.cells3.2.1, PM.out.cells3.2.2.1, PX.out.cells3.1, PX.out.cells3.2.1, PX.out.cells3.2.2.1⟩
      refine hK.out _ _ hS' (fun _ => ?_)
      clear hK K hS
      have hS := hS'
      clear hS'
      (try simp only [Act.put, List.setIfInBounds_toArray, List.set_cons_zero, List.set_cons_succ])
      refine wpAnyH_take (i := 6) (v := ?_) (by simp only [List.getElem?_toArray, List.getElem?_cons_succ, List.getElem?_cons_zero]; rfl) (by kernel_rfl) (by kernel_rfl) (by kernel_rfl) (fun _ _ _ h => h) (Or.inl ⟨by rfl, ?_⟩) hS ?_
      rotate_left
      · intro w' hSw; (try dsimp only at hSw); go_split_ands; go_simp; (try with_reducible rfl)
      (try simp only [Act.put, List.setIfInBounds_toArray, List.set_cons_zero, List.set_cons_succ])
      refine wpAnyH_take (i := 7) (v := ?_) (by simp only [List.getElem?_toArray, List.getElem?_cons_succ, List.getElem?_cons_zero]; rfl) (by kernel_rfl) (by kernel_rfl) (by kernel_rfl) (fun _ _ _ h => h) (Or.inl ⟨by rfl, ?_⟩) hS ?_
      rotate_left
      · intro w' hSw; (try dsimp only at hSw); go_split_ands; go_simp; (try with_reducible rfl)
      (try simp only [Act.put, List.setIfInBounds_toArray, List.set_cons_zero, List.set_cons_succ])
      refine wpAnyH_take (i := 8) (v := ?_) (by simp only [List.getElem?_toArray, List.getElem?_cons_succ, List.getElem?_cons_zero]; rfl) (by kernel_rfl) (by kernel_rfl) (by kernel_rfl) (fun _ _ _ h => h) (Or.inl ⟨by rfl, ?_⟩) hS ?_
      rotate_left
      · intro w' hSw; (try dsimp only at hSw); go_split_ands; go_simp; (try with_reducible rfl)
      (try simp only [Act.put, List.setIfInBounds_toArray, List.set_cons_zero, List.set_cons_succ])
      refine wpAnyH_take (i := 9) (v := ?_) (by simp only [List.getElem?_toArray, List.getElem?_cons_succ, List.getElem?_cons_zero]; rfl) (by kernel_rfl) (by kernel_rfl) (by kernel_rfl) (fun _ _ _ h => h) (Or.inl ⟨by rfl, ?_⟩) hS ?_
      rotate_left
      · intro w' hSw; (try dsimp only at hSw); go_split_ands; go_simp; (try with_reducible rfl)
      (try simp only [Act.put, List.setIfInBounds_toArray, List.set_cons_zero, List.set_cons_succ])
      refine wpAnyH_ready (rs := [10]) (by kernel_rfl) (by simp) ?_
      refine AllReadyH.cons (by simp only [List.getElem?_toArray, List.getElem?_cons_succ, List.getElem?_cons_zero]; rfl) (fun K hK => ?_) ?_
      · skip
        go_simp
        refine (rspsame_any L6 L8 nl6 cl6 m3 cl8 0 _ 0 _ az az _ (A6'.out.sm.mono (Nat.zero_le _) (Nat.le_refl _)) (A8'.out.sm.mono (Nat.zero_le _) (Nat.le_refl _)) (by omega) (by omega)).mono ?_
        rintro e w16 ⟨rfl, hb⟩
        have hsz1 := hid (show w15.heap.size ≤ w16.heap.size from hb.size)
        replace HX := hid (HX.out.step hb); replace HY := hid (HY.out.step hb); replace HL := hid (HL.out.step hb); replace PX := hid (PX.out.step hb); replace M2 := hid (M2.out.step hb); replace R3 := hid (R3.out.step hb); replace PM := hid (PM.out.step hb); replace HQ5 := hid (HQ5.out.step hb); replace M6 := hid (M6.out.step hb); replace A6' := hid (A6'.out.step hb); replace G6' := hid (G6'.out.step hb); replace PN := hid (PN.out.step hb); replace M7 := hid (M7.out.step hb); replace M8 := hid (M8.out.step hb); replace A8' := hid (A8'.out.step hb); replace G8' := hid (G8'.out.step hb); replace PW := hid (PW.out.step hb); replace HB := hid (below_then HB.out hb)
        clear hb
        rw [show decide (az = az) = true from decide_eq_true rfl]
        go_wp2_with fail
        have hS' : (fun W' : World => W'.cell? ⟨w6.heap.size, 0, none⟩ = some (.slice A6 n6 c6) ∧ W'.cell? ⟨w6.heap.size, 1, none⟩ = some (.slice B6 k6 d6) ∧ W'.cell? ⟨w6.heap.size, 2, none⟩ = some (.bool fz) ∧ W'.cell? ⟨w12.heap.size, 0, none⟩ = some (.slice A8 n7 c8) ∧ W'.cell? ⟨w12.heap.size, 1, none⟩ = some (.slice B8 n7 d8) ∧ W'.cell? ⟨w12.heap.size, 2, none⟩ = some (.bool fz) ∧ W'.cell? ⟨w3.heap.size, 0, none⟩ = some (.slice A2 n2 c2) ∧ W'.cell? ⟨w3.heap.size, 1, none⟩ = some (.slice B2 k2 d2) ∧ W'.cell? ⟨w3.heap.size, 2, none⟩ = some (.bool f) ∧ W'.cell? ⟨w.heap.size, 0, none⟩ = some (.slice A n c) ∧ W'.cell? ⟨w.heap.size, 1, none⟩ = some (.slice B k d) ∧ W'.cell? ⟨w.heap.size, 2, none⟩ = some (.bool f)) _ := ⟨PN.out.cells3.1, PN.out.cells3.2.1, PN.out.cells3.2.2.1, PW.out.cells3.1, PW.out.cells3.2.1, PW.out.cells3.2.2.1, PM.out.cells3.1, PM.out.cells3.2.1, PM.out.cells3.2.2.1, PX.out.cells3.1, PX.out.cells3.2.1, PX.out.cells3.2.2.1⟩
        refine hK.out _ _ hS' (fun _ => ?_)
        clear hK K hS
        have hS := hS'
        clear hS'
        (try simp only [Act.put, List.setIfInBounds_toArray, List.set_cons_zero, List.set_cons_succ])
        refine wpAnyH_take (i := 11) (v := ?_) (by simp only [List.getElem?_toArray, List.getElem?_cons_succ, List.getElem?_cons_zero]; rfl) (by kernel_rfl) (by kernel_rfl) (by kernel_rfl) (fun _ _ _ h => h) (Or.inl ⟨by rfl, ?_⟩) hS ?_
        rotate_left
        · intro w' hSw; (try dsimp only at hSw); go_split_ands; go_simp; (try with_reducible rfl)
        (try simp only [Act.put, List.setIfInBounds_toArray, List.set_cons_zero, List.set_cons_succ])
        refine wpAnyH_take (i := 12) (v := ?_) (by simp only [List.getElem?_toArray, List.getElem?_cons_succ, List.getElem?_cons_zero]; rfl) (by kernel_rfl) (by kernel_rfl) (by kernel_rfl) (fun _ _ _ h => h) (Or.inl ⟨by rfl, ?_⟩) hS ?_
        rotate_left
        · intro w' hSw; (try dsimp only at hSw); go_split_ands; go_simp; (try with_reducible rfl)
        (try simp only [Act.put, List.setIfInBounds_toArray, List.set_cons_zero, List.set_cons_succ])
        refine wpAnyH_take (i := 13) (v := ?_) (by simp only [List.getElem?_toArray, List.getElem?_cons_succ, List.getElem?_cons_zero]; rfl) (by kernel_rfl) (by kernel_rfl) (by kernel_rfl) (fun _ _ _ h => h) (Or.inl ⟨by rfl, ?_⟩) hS ?_
        rotate_left
        · intro w' hSw; (try dsimp only at hSw); go_split_ands; go_simp; (try with_reducible rfl)
        (try simp only [Act.put, List.setIfInBounds_toArray, List.set_cons_zero, List.set_cons_succ])
        refine wpAnyH_take (i := 14) (v := ?_) (by simp only [List.getElem?_toArray, List.getElem?_cons_succ, List.getElem?_cons_zero]; rfl) (by kernel_rfl) (by kernel_rfl) (by kernel_rfl) (fun _ _ _ h => h) (Or.inl ⟨by rfl, ?_⟩) hS ?_
        rotate_left
        · intro w' hSw; (try dsimp only at hSw); go_split_ands; go_simp; (try with_reducible rfl)
        (try simp only [Act.put, List.setIfInBounds_toArray, List.set_cons_zero, List.set_cons_succ])
        refine wpAnyH_ready (rs := [15]) (by kernel_rfl) (by simp) ?_
        refine AllReadyH.cons (by simp only [List.getElem?_toArray, List.getElem?_cons_succ, List.getElem?_cons_zero]; rfl) (fun K hK => ?_) ?_
        · skip
          go_simp
          refine (equal_int_b G6 G8 ng6 cg6 ng8 cg8 0 _ 0 _ hz hz _ (G6'.out.sl.mono (Nat.zero_le _) (Nat.le_refl _)) (G8'.out.sl.mono (Nat.zero_le _) (Nat.le_refl _)) (by omega) (by omega)).mono ?_
          rintro e w17 ⟨rfl, hb⟩
          have hsz2 := hid (show w16.heap.size ≤ w17.heap.size from hb.size)
          replace HX := hid (HX.out.step hb); replace HY := hid (HY.out.step hb); replace HL := hid (HL.out.step hb); replace PX := hid (PX.out.step hb); replace M2 := hid (M2.out.step hb); replace R3 := hid (R3.out.step hb); replace PM := hid (PM.out.step hb); replace HQ5 := hid (HQ5.out.step hb); replace M6 := hid (M6.out.step hb); replace A6' := hid (A6'.out.step hb); replace G6' := hid (G6'.out.step hb); replace PN := hid (PN.out.step hb); replace M7 := hid (M7.out.step hb); replace M8 := hid (M8.out.step hb); replace A8' := hid (A8'.out.step hb); replace G8' := hid (G8'.out.step hb); replace PW := hid (PW.out.step hb); replace HB := hid (below_then HB.out hb)
          clear hb
          rw [show decide (hz = hz) = true from decide_eq_true rfl]
          go_wp2_with fail
          have hS' : (fun W' : World => W'.cell? ⟨w6.heap.size, 0, none⟩ = some (.slice A6 n6 c6) ∧ W'.cell? ⟨w6.heap.size, 1, none⟩ = some (.slice B6 k6 d6) ∧ W'.cell? ⟨w6.heap.size, 2, none⟩ = some (.bool fz) ∧ W'.cell? ⟨w12.heap.size, 0, none⟩ = some (.slice A8 n7 c8) ∧ W'.cell? ⟨w12.heap.size, 1, none⟩ = some (.slice B8 n7 d8) ∧ W'.cell? ⟨w12.heap.size, 2, none⟩ = some (.bool fz) ∧ W'.cell? ⟨w3.heap.size, 0, none⟩ = some (.slice A2 n2 c2) ∧ W'.cell? ⟨w3.heap.size, 1, none⟩ = some (.slice B2 k2 d2) ∧ W'.cell? ⟨w3.heap.size, 2, none⟩ = some (.bool f) ∧ W'.cell? ⟨w.heap.size, 0, none⟩ = some (.slice A n c) ∧ W'.cell? ⟨w.heap.size, 1, none⟩ = some (.slice B k d) ∧ W'.cell? ⟨w.heap.size, 2, none⟩ = some (.bool f)) _ := ⟨PN.out.cells3.1, PN.out.cells3.2.1, PN.out.cells3.2.2.1, PW.out.cells3.1, PW.out.cells3.2.1, PW.out.cells3.2.2.1, PM.out.cells3.1, PM.out.cells3.2.1, PM.out.cells3.2.2.1, PX.out.cells3.1, PX.out.cells3.2.1, PX.out.cells3.2.2.1⟩
          refine hK.out _ _ hS' (fun _ => ?_)
          clear hK K hS
          have hS := hS'
          clear hS'
          (try simp only [Act.put, List.setIfInBounds_toArray, List.set_cons_zero, List.set_cons_succ])
          refine wpAnyH_take (i := 16) (v := ?_) (by simp only [List.getElem?_toArray, List.getElem?_cons_succ, List.getElem?_cons_zero]; rfl) (by kernel_rfl) (by kernel_rfl) (by kernel_rfl) (fun _ _ _ h => h) (Or.inl ⟨by rfl, ?_⟩) hS ?_
          rotate_left
          · intro w' hSw; (try dsimp only at hSw); go_split_ands; go_simp; (try with_reducible rfl)
          (try simp only [Act.put, List.setIfInBounds_toArray, List.set_cons_zero, List.set_cons_succ])
          refine wpAnyH_take (i := 17) (v := ?_) (by simp only [List.getElem?_toArray, List.getElem?_cons_succ, List.getElem?_cons_zero]; rfl) (by kernel_rfl) (by kernel_rfl) (by kernel_rfl) (fun _ _ _ h => h) (Or.inl ⟨by rfl, ?_⟩) hS ?_
          rotate_left
          · intro w' hSw; (try dsimp only at hSw); go_split_ands; go_simp; (try with_reducible rfl)
          (try simp only [Act.put, List.setIfInBounds_toArray, List.set_cons_zero, List.set_cons_succ])
          refine wpAnyH_take (i := 18) (v := ?_) (by simp only [List.getElem?_toArray, List.getElem?_cons_succ, List.getElem?_cons_zero]; rfl) (by kernel_rfl) (by kernel_rfl) (by kernel_rfl) (fun _ _ _ h => h) (Or.inl ⟨by rfl, ?_⟩) hS ?_
          rotate_left
          · intro w' hSw; (try dsimp only at hSw); go_split_ands; go_simp; (try with_reducible rfl)
          (try simp only [Act.put, List.setIfInBounds_toArray, List.set_cons_zero, List.set_cons_succ])
          refine wpAnyH_take (i := 19) (v := ?_) (by simp only [List.getElem?_toArray, List.getElem?_cons_succ, List.getElem?_cons_zero]; rfl) (by kernel_rfl) (by kernel_rfl) (by kernel_rfl) (fun _ _ _ h => h) (Or.inl ⟨by rfl, ?_⟩) hS ?_
          rotate_left
          · intro w' hSw; (try dsimp only at hSw); go_split_ands; go_simp; (try with_reducible rfl)
          (try simp only [Act.put, List.setIfInBounds_toArray, List.set_cons_zero, List.set_cons_succ])
          refine wpAnyH_ready (rs := [20]) (by kernel_rfl) (by simp) ?_
          refine AllReadyH.cons (by simp only [List.getElem?_toArray, List.getElem?_cons_succ, List.getElem?_cons_zero]; rfl) (fun K hK => ?_) ?_
          · skip
            go_simp
            refine (lown_r A n c B k d f xs ys _ HX.out HY.out hnc hkd).mono ?_
            rintro e w18 ⟨A9, n9, c9, B9, k9, d9, rfl, oa, ob, hb, hn9, hk9⟩
            have hsz3 := hid (show w17.heap.size ≤ w18.heap.size from hb.size)
            replace HX := hid (HX.out.step hb); replace HY := hid (HY.out.step hb); replace HL := hid (HL.out.step hb); replace PX := hid (PX.out.step hb); replace M2 := hid (M2.out.step hb); replace R3 := hid (R3.out.step hb); replace PM := hid (PM.out.step hb); replace HQ5 := hid (HQ5.out.step hb); replace M6 := hid (M6.out.step hb); replace A6' := hid (A6'.out.step hb); replace G6' := hid (G6'.out.step hb); replace PN := hid (PN.out.step hb); replace M7 := hid (M7.out.step hb); replace M8 := hid (M8.out.step hb); replace A8' := hid (A8'.out.step hb); replace G8' := hid (G8'.out.step hb); replace PW := hid (PW.out.step hb); replace HB := hid (below_then HB.out hb)
            clear hb
            rw [← HWS.out] at oa
            rw [← HLS.out] at ob
            have M9 := hid (Mem.ofOw oa ob (by omega) (by omega))
            clear oa ob
            go_wp2_with fail
            have hS' : (fun W' : World => W'.cell? ⟨w6.heap.size, 0, none⟩ = some (.slice A6 n6 c6) ∧ W'.cell? ⟨w6.heap.size, 1, none⟩ = some (.slice B6 k6 d6) ∧ W'.cell? ⟨w6.heap.size, 2, none⟩ = some (.bool fz) ∧ W'.cell? ⟨w12.heap.size, 0, none⟩ = some (.slice A8 n7 c8) ∧ W'.cell? ⟨w12.heap.size, 1, none⟩ = some (.slice B8 n7 d8) ∧ W'.cell? ⟨w12.heap.size, 2, none⟩ = some (.bool fz) ∧ W'.cell? ⟨w3.heap.size, 0, none⟩ = some (.slice A2 n2 c2) ∧ W'.cell? ⟨w3.heap.size, 1, none⟩ = some (.slice B2 k2 d2) ∧ W'.cell? ⟨w3.heap.size, 2, none⟩ = some (.bool f) ∧ W'.cell? ⟨w.heap.size, 0, none⟩ = some (.slice A n c) ∧ W'.cell? ⟨w.heap.size, 1, none⟩ = some (.slice B k d) ∧ W'.cell? ⟨w.heap.size, 2, none⟩ = some (.bool f)) _ := ⟨PN.out.cells3.1, PN.out.cells3.2.1, PN.out.cells3.2.2.1, PW.out.cells3.1, PW.out.cells3.2.1, PW.out.cells3.2.2.1, PM.out.cells3.1, PM.out.cells3.2.1, PM.out.cells3.2.2.1, PX.out.cells3.1, PX.out.cells3.2.1, PX.out.cells3.2.2.1⟩
            refine hK.out _ _ hS' (fun _ => ?_)
            clear hK K hS
            have hS := hS'
            clear hS'
            (try simp only [Act.put, List.setIfInBounds_toArray, List.set_cons_zero, List.set_cons_succ])
            refine wpAnyH_ready (rs := [21]) (by kernel_rfl) (by simp) ?_
            refine AllReadyH.cons (by simp only [List.getElem?_toArray, List.getElem?_cons_succ, List.getElem?_cons_zero]; rfl) (fun K hK => ?_) ?_
            · skip
              go_simp
              refine (rmsame_any A2 n2 c2 B2 k2 d2 f ws ls A9 n9 c9 B9 k9 d9 f ws ls _ M2.out M9.out).mono ?_
              rintro e w19 ⟨rfl, hb⟩
              have hsz4 := hid (show w18.heap.size ≤ w19.heap.size from hb.size)
              replace HX := hid (HX.out.step hb); replace HY := hid (HY.out.step hb); replace HL := hid (HL.out.step hb); replace PX := hid (PX.out.step hb); replace M2 := hid (M2.out.step hb); replace R3 := hid (R3.out.step hb); replace PM := hid (PM.out.step hb); replace HQ5 := hid (HQ5.out.step hb); replace M6 := hid (M6.out.step hb); replace A6' := hid (A6'.out.step hb); replace G6' := hid (G6'.out.step hb); replace PN := hid (PN.out.step hb); replace M7 := hid (M7.out.step hb); replace M8 := hid (M8.out.step hb); replace A8' := hid (A8'.out.step hb); replace G8' := hid (G8'.out.step hb); replace PW := hid (PW.out.step hb); replace M9 := hid (M9.out.step hb); replace HB := hid (below_then HB.out hb)
              clear hb
              rw [HS2.out]
              go_wp2_with fail
              have hS' : (fun W' : World => W'.cell? ⟨w6.heap.size, 0, none⟩ = some (.slice A6 n6 c6) ∧ W'.cell? ⟨w6.heap.size, 1, none⟩ = some (.slice B6 k6 d6) ∧ W'.cell? ⟨w6.heap.size, 2, none⟩ = some (.bool fz) ∧ W'.cell? ⟨w12.heap.size, 0, none⟩ = some (.slice A8 n7 c8) ∧ W'.cell? ⟨w12.heap.size, 1, none⟩ = some (.slice B8 n7 d8) ∧ W'.cell? ⟨w12.heap.size, 2, none⟩ = some (.bool fz) ∧ W'.cell? ⟨w3.heap.size, 0, none⟩ = some (.slice A2 n2 c2) ∧ W'.cell? ⟨w3.heap.size, 1, none⟩ = some (.slice B2 k2 d2) ∧ W'.cell? ⟨w3.heap.size, 2, none⟩ = some (.bool f) ∧ W'.cell? ⟨w.heap.size, 0, none⟩ = some (.slice A n c) ∧ W'.cell? ⟨w.heap.size, 1, none⟩ = some (.slice B k d) ∧ W'.cell? ⟨w.heap.size, 2, none⟩ = some (.bool f)) _ := ⟨PN.out.cells3.1, PN.out.cells3.2.1, PN.out.cells3.2.2.1, PW.out.cells3.1, PW.out.cells3.2.1, PW.out.cells3.2.2.1, PM.out.cells3.1, PM.out.cells3.2.1, PM.out.cells3.2.2.1, PX.out.cells3.1, PX.out.cells3.2.1, PX.out.cells3.2.2.1⟩
              refine hK.out _ _ hS' (fun _ => ?_)
              clear hK K hS
              have hS := hS'
              clear hS'
              (try simp only [Act.put, List.setIfInBounds_toArray, List.set_cons_zero, List.set_cons_succ])
              refine wpAnyH_take (i := 22) (v := ?_) (by simp only [List.getElem?_toArray, List.getElem?_cons_succ, List.getElem?_cons_zero]; rfl) (by kernel_rfl) (by kernel_rfl) (by kernel_rfl) (fun _ _ _ h => h) (Or.inl ⟨by rfl, ?_⟩) hS ?_
              rotate_left
              · intro w' hSw; (try dsimp only at hSw); go_split_ands; go_simp; (try with_reducible rfl)
              (try simp only [Act.put, List.setIfInBounds_toArray, List.set_cons_zero, List.set_cons_succ])
              refine wpAnyH_take (i := 23) (v := ?_) (by simp only [List.getElem?_toArray, List.getElem?_cons_succ, List.getElem?_cons_zero]; rfl) (by kernel_rfl) (by kernel_rfl) (by kernel_rfl) (fun _ _ _ h => h) (Or.inl ⟨by rfl, ?_⟩) hS ?_
              rotate_left
              · intro w' hSw; (try dsimp only at hSw); go_split_ands; go_simp; (try with_reducible rfl)
              (try simp only [Act.put, List.setIfInBounds_toArray, List.set_cons_zero, List.set_cons_succ])
              refine wpAnyH_take (i := 24) (v := ?_) (by simp only [List.getElem?_toArray, List.getElem?_cons_succ, List.getElem?_cons_zero]; rfl) (by kernel_rfl) (by kernel_rfl) (by kernel_rfl) (fun _ _ _ h => h) (Or.inl ⟨by rfl, ?_⟩) hS ?_
              rotate_left
              · intro w' hSw; (try dsimp only at hSw); go_split_ands; go_simp; (try with_reducible rfl)
              (try simp only [Act.put, List.setIfInBounds_toArray, List.set_cons_zero, List.set_cons_succ])
              refine wpAnyH_take (i := 25) (v := ?_) (by simp only [List.getElem?_toArray, List.getElem?_cons_succ, List.getElem?_cons_zero]; rfl) (by kernel_rfl) (by kernel_rfl) (by kernel_rfl) (fun _ _ _ h => h) (Or.inl ⟨by rfl, ?_⟩) hS ?_
              rotate_left
              · intro w' hSw; (try dsimp only at hSw); go_split_ands; go_simp; (try with_reducible rfl)
              (try simp only [Act.put, List.setIfInBounds_toArray, List.set_cons_zero, List.set_cons_succ])
              refine wpAnyH_ready (rs := [26]) (by kernel_rfl) (by simp) ?_
              refine AllReadyH.cons (by simp only [List.getElem?_toArray, List.getElem?_cons_succ, List.getElem?_cons_zero]; rfl) (fun K hK => ?_) ?_
              · skip
                go_simp
                refine (few_any L nl cl l0 _ HL.out hnl).mono ?_
                rintro e w20 ⟨L9, c10, rfl, ho, hb⟩
                have hsz5 := hid (show w19.heap.size ≤ w20.heap.size from hb.size)
                replace HX := hid (HX.out.step hb); replace HY := hid (HY.out.step hb); replace HL := hid (HL.out.step hb); replace PX := hid (PX.out.step hb); replace M2 := hid (M2.out.step hb); replace R3 := hid (R3.out.step hb); replace PM := hid (PM.out.step hb); replace HQ5 := hid (HQ5.out.step hb); replace M6 := hid (M6.out.step hb); replace A6' := hid (A6'.out.step hb); replace G6' := hid (G6'.out.step hb); replace PN := hid (PN.out.step hb); replace M7 := hid (M7.out.step hb); replace M8 := hid (M8.out.step hb); replace A8' := hid (A8'.out.step hb); replace G8' := hid (G8'.out.step hb); replace PW := hid (PW.out.step hb); replace M9 := hid (M9.out.step hb); replace HB := hid (below_then HB.out hb)
                clear hb
                rw [← HFL.out, ← HFM.out] at ho
                rw [← HFM.out]
                have R9 := hid ho
                clear ho
                go_wp2_with fail
                have hS' : (fun W' : World => W'.cell? ⟨w6.heap.size, 0, none⟩ = some (.slice A6 n6 c6) ∧ W'.cell? ⟨w6.heap.size, 1, none⟩ = some (.slice B6 k6 d6) ∧ W'.cell? ⟨w6.heap.size, 2, none⟩ = some (.bool fz) ∧ W'.cell? ⟨w12.heap.size, 0, none⟩ = some (.slice A8 n7 c8) ∧ W'.cell? ⟨w12.heap.size, 1, none⟩ = some (.slice B8 n7 d8) ∧ W'.cell? ⟨w12.heap.size, 2, none⟩ = some (.bool fz) ∧ W'.cell? ⟨w3.heap.size, 0, none⟩ = some (.slice A2 n2 c2) ∧ W'.cell? ⟨w3.heap.size, 1, none⟩ = some (.slice B2 k2 d2) ∧ W'.cell? ⟨w3.heap.size, 2, none⟩ = some (.bool f) ∧ W'.cell? ⟨w.heap.size, 0, none⟩ = some (.slice A n c) ∧ W'.cell? ⟨w.heap.size, 1, none⟩ = some (.slice B k d) ∧ W'.cell? ⟨w.heap.size, 2, none⟩ = some (.bool f)) _ := ⟨PN.out.cells3.1, PN.out.cells3.2.1, PN.out.cells3.2.2.1, PW.out.cells3.1, PW.out.cells3.2.1, PW.out.cells3.2.2.1, PM.out.cells3.1, PM.out.cells3.2.1, PM.out.cells3.2.2.1, PX.out.cells3.1, PX.out.cells3.2.1, PX.out.cells3.2.2.1⟩
                refine hK.out _ _ hS' (fun _ => ?_)
                clear hK K hS
                have hS := hS'
                clear hS'
                (try simp only [Act.put, List.setIfInBounds_toArray, List.set_cons_zero, List.set_cons_succ])
                refine wpAnyH_ready (rs := [27]) (by kernel_rfl) (by simp) ?_
                refine AllReadyH.cons (by simp only [List.getElem?_toArray, List.getElem?_cons_succ, List.getElem?_cons_zero]; rfl) (fun K hK => ?_) ?_
                · skip
                  go_simp
                  refine (equal_spn L3 L9 m3 c3 m3 c10 0 _ 0 _ l l _ (R3.out.sm.mono (Nat.zero_le _) (Nat.le_refl _)) (R9.out.sm.mono (Nat.zero_le _) (Nat.le_refl _)) (by omega) (by omega)).mono ?_
                  rintro e w21 ⟨rfl, hb⟩
                  have hsz6 := hid (show w20.heap.size ≤ w21.heap.size from hb.size)
                  replace HX := hid (HX.out.step hb); replace HY := hid (HY.out.step hb); replace HL := hid (HL.out.step hb); replace PX := hid (PX.out.step hb); replace M2 := hid (M2.out.step hb); replace R3 := hid (R3.out.step hb); replace PM := hid (PM.out.step hb); replace HQ5 := hid (HQ5.out.step hb); replace M6 := hid (M6.out.step hb); replace A6' := hid (A6'.out.step hb); replace G6' := hid (G6'.out.step hb); replace PN := hid (PN.out.step hb); replace M7 := hid (M7.out.step hb); replace M8 := hid (M8.out.step hb); replace A8' := hid (A8'.out.step hb); replace G8' := hid (G8'.out.step hb); replace PW := hid (PW.out.step hb); replace M9 := hid (M9.out.step hb); replace R9 := hid (R9.out.step hb); replace HB := hid (below_then HB.out hb)
                  clear hb
                  rw [show decide (l = l) = true from decide_eq_true rfl]
                  go_wp2_with fail
                  have hS' : (fun W' : World => W'.cell? ⟨w6.heap.size, 0, none⟩ = some (.slice A6 n6 c6) ∧ W'.cell? ⟨w6.heap.size, 1, none⟩ = some (.slice B6 k6 d6) ∧ W'.cell? ⟨w6.heap.size, 2, none⟩ = some (.bool fz) ∧ W'.cell? ⟨w12.heap.size, 0, none⟩ = some (.slice A8 n7 c8) ∧ W'.cell? ⟨w12.heap.size, 1, none⟩ = some (.slice B8 n7 d8) ∧ W'.cell? ⟨w12.heap.size, 2, none⟩ = some (.bool fz) ∧ W'.cell? ⟨w3.heap.size, 0, none⟩ = some (.slice A2 n2 c2) ∧ W'.cell? ⟨w3.heap.size, 1, none⟩ = some (.slice B2 k2 d2) ∧ W'.cell? ⟨w3.heap.size, 2, none⟩ = some (.bool f) ∧ W'.cell? ⟨w.heap.size, 0, none⟩ = some (.slice A n c) ∧ W'.cell? ⟨w.heap.size, 1, none⟩ = some (.slice B k d) ∧ W'.cell? ⟨w.heap.size, 2, none⟩ = some (.bool f)) _ := ⟨PN.out.cells3.1, PN.out.cells3.2.1, PN.out.cells3.2.2.1, PW.out.cells3.1, PW.out.cells3.2.1, PW.out.cells3.2.2.1, PM.out.cells3.1, PM.out.cells3.2.1, PM.out.cells3.2.2.1, PX.out.cells3.1, PX.out.cells3.2.1, PX.out.cells3.2.2.1⟩
                  refine hK.out _ _ hS' (fun _ => ?_)
                  clear hK K hS
                  have hS := hS'
                  clear hS'
                  (try simp only [Act.put, List.setIfInBounds_toArray, List.set_cons_zero, List.set_cons_succ])
                  refine wpAnyH_take (i := 28) (v := ?_) (by simp only [List.getElem?_toArray, List.getElem?_cons_succ, List.getElem?_cons_zero]; rfl) (by kernel_rfl) (by kernel_rfl) (by kernel_rfl) (fun _ _ _ h => h) (Or.inl ⟨by rfl, ?_⟩) hS ?_
                  rotate_left
                  · intro w' hSw; (try dsimp only at hSw); go_split_ands; go_simp; (try with_reducible rfl)
                  (try simp only [Act.put, List.setIfInBounds_toArray, List.set_cons_zero, List.set_cons_succ])
                  refine wpAnyH_take (i := 29) (v := ?_) (by simp only [List.getElem?_toArray, List.getElem?_cons_succ, List.getElem?_cons_zero]; rfl) (by kernel_rfl) (by kernel_rfl) (by kernel_rfl) (fun _ _ _ h => h) (Or.inl ⟨by rfl, ?_⟩) hS ?_
                  rotate_left
                  · intro w' hSw; (try dsimp only at hSw); go_split_ands; go_simp; (try with_reducible rfl)
                  (try simp only [Act.put, List.setIfInBounds_toArray, List.set_cons_zero, List.set_cons_succ])
                  refine wpAnyH_done (by kernel_rfl) ?_ _
                  refine NoPanic.normal ?_
                  clear hS
                  go_wp2
                  refine bodyPost_ret (v := .bool true) (by simp [results, Try.results3, go_sem]) rfl ⟨rfl, HB.out⟩
                exact AllReadyH.nil
              exact AllReadyH.nil
            exact AllReadyH.nil
          exact AllReadyH.nil
        exact AllReadyH.nil
      exact AllReadyH.nil
    exact AllReadyH.nil
end Go.Proofs.Ytaeanmkbongfcaa
