/- afterglowlaw02.MemoryTags. -/
import Derived.Test.YtenhojdhjfoomaaMSpo
import Derived.Test.YtenhojdhjfoomaaLTurns
namespace Go.Proofs.Ytenhojdhjfoomaa
open Go.RowKit
def FarG (n : Nat) (A : Option Addr) (m : Nat) (B : Option Addr) (g : Nat) : Prop := (0 < n → ∀ a, A = some a → a.block ≠ g) ∧ (0 < m → ∀ b, B = some b → b.block ≠ g)
section
variable {W W' : World} {lo : Nat} {A : Option Addr} {n c : Nat} {B : Option Addr} {m d : Nat} {ws : List Int} {ls : List Bool} {g : Nat}
theorem Mown.farG (h : Mown W lo A n c B m d ws ls) (hg : g < lo ∨ W.heap.size ≤ g) : FarG n A m B g :=
  ⟨fun _ a ha => by subst ha; have := h.oa.own.lt a.block rfl; have := h.oa.ge; omega, fun _ b hb => by subst hb; have := h.ob.own.lt b.block rfl; have := h.ob.ge; omega⟩
theorem Mem.setFarG (h : Mem W A n c B m d ws ls) (hf : FarG n A m B g) (o : Nat) (u : Value) : Mem (W.setCell ⟨g, o, none⟩ u) A n c B m d ws ls := by
  refine ⟨⟨h.hx.len, fun hn => ?_⟩, ⟨h.hy.len, fun hn => ?_⟩, h.hnc, h.hmd, h.hn, h.hm⟩
  · obtain ⟨b, off, rfl, h0, h1, h2⟩ := h.hx.row hn
    exact ⟨b, off, rfl, h0, by simpa using h1, fun k hk => (World.cell?_setCell_other W _ _ u (fun e => hf.1 hn _ rfl (congrArg Addr.block e).symm)).trans (h2 k hk)⟩
  · obtain ⟨b, off, rfl, h0, h1, h2⟩ := h.hy.row hn
    exact ⟨b, off, rfl, h0, by simpa using h1, fun k hk => (World.cell?_setCell_other W _ _ u (fun e => hf.2 hn _ rfl (congrArg Addr.block e).symm)).trans (h2 k hk)⟩
end
/-- the memory of a round -/
structure TagRel (W0 : World) (g5 : Nat) (wr : World) (A : Option Addr) (n c : Nat) (B : Option Addr) (m d : Nat) (f : Bool) (ws : List Int) (ls : List Bool) : Prop where
  box : Blk wr g5 25 (mcs A n c B m d f)
  mem : Mem wr A n c B m d ws ls
  hn : n ≤ 64
  hm : m ≤ 64
  far : FarG n A m B g5
  g5 : W0.heap.size ≤ g5
  be : Below W0.heap.size W0 wr
theorem turnF_ng {ws : List Int} {ls : List Bool} {f : Bool} {fr mn : Int} {live : Bool} {holds no : Int} (h : ¬ MGood ws ls) : turnF (ws, ls, f) fr mn live holds no = (120, [], [], false) := by
  have hc : turnC ws ls fr mn live no = 120 := by unfold turnC; rw [if_pos h]
  unfold turnF; dsimp only; rw [hc, if_neg (by omega)]
theorem turnF_out {ws : List Int} {ls : List Bool} {f : Bool} {fr mn : Int} {live : Bool} {holds no : Int} (hg : MGood ws ls) (h : ¬ InP ws.length fr mn) : turnF (ws, ls, f) fr mn live holds no = (2, [], [], false) := by
  have hc : turnC ws ls fr mn live no = 2 := by unfold turnC; rw [if_neg (not_not_intro hg), if_pos (by unfold InP at h; omega)]
  unfold turnF; dsimp only; rw [hc, if_neg (by omega)]
theorem turnF_in {ws : List Int} {ls : List Bool} {f : Bool} {fr mn : Nat} {live : Bool} {holds no : Int} (hg : MGood ws ls) (h1 : 1 ≤ mn) (hr : fr + mn ≤ ws.length) (hno : no ≠ 0) {b : Bool} (hb : b = decide (∀ k, k < mn → ls[fr + k]?.getD false = !live)) :
    turnF (ws, ls, f) fr mn live holds no = if b = true then (0, setR ws fr holds mn, setR ls fr live mn, f) else (no, [], [], false) := by
  by_cases hall : ∀ k, k < mn → ls[fr + k]?.getD false = !live
  · rw [hb, decide_eq_true hall, if_pos rfl]
    exact turnF_ok hg h1 hr (fun j e1 e2 => by have := hall (j - fr) (by omega); rwa [show fr + (j - fr) = j by omega] at this)
  · rw [hb, decide_eq_false hall, if_neg (by simp)]
    have hc : turnC ws ls fr mn live no = no := by
      unfold turnC
      rw [if_neg (not_not_intro hg), if_neg (by omega), if_pos]
      rw [Int.toNat_natCast, Int.toNat_natCast]
      intro h
      refine hall fun k hk => ?_
      have := h k hk
      rw [drop_take_get _ _ _ _ _ hk] at this
      revert this
      cases ls[fr + k]?.getD false <;> cases live <;> simp
    unfold turnF; dsimp only; rw [hc, if_neg hno]
def TagMid1 (Wb : World) (g13 g14 : Nat) (rL : Int × MSt) (s15 : Value) (wx : World) : Prop :=
  ∃ A n c B d, s15 = .int .i64 rL.1 ∧ Blk wx g13 25 (mcs A n c B n d rL.2.2.2) ∧ Mem wx A n c B n d rL.2.1 rL.2.2.1 ∧ FarM n A B g14 ∧ Blk wx g14 25 (mcs none 0 0 none 0 0 false) ∧ Below Wb.heap.size Wb wx
/-- the choice of what is next -/
def TagNext (w20 : World) (A : Option Addr) (n c : Nat) (B : Option Addr) (m d : Nat) (f : Bool) (ws : List Int) (ls : List Bool) (wx : World) : Prop :=
  ∃ A' n' c' B' m' d' f' ws' ls', Blk wx w20.heap.size 25 (mcs A' n' c' B' m' d' f') ∧ ((A' = A ∧ n' = n ∧ c' = c ∧ B' = B ∧ m' = m ∧ d' = d ∧ f' = f ∧ ws' = ws ∧ ls' = ls) ∨ (Ow u64v wx w20.heap.size 42 A' n' c' ws' ∧ Ow blv wx w20.heap.size 4 B' m' d' ls' ∧ n' ≤ 64 ∧ m' ≤ 64)) ∧ Below w20.heap.size w20 wx
/-- behind the reference -/
def TagMid (Wb : World) (g13 g14 : Nat) (rL rF : Int × MSt) (s15 s16 : Value) (wx : World) : Prop :=
  ∃ A n c B m d A' n' c' B' m' d', s15 = .int .i64 rL.1 ∧ s16 = .int .i64 rF.1 ∧ Blk wx g13 25 (mcs A n c B m d rL.2.2.2) ∧ Mem wx A n c B m d rL.2.1 rL.2.2.1 ∧ Blk wx g14 25 (mcs A' n' c' B' m' d' rF.2.2.2) ∧ Mem wx A' n' c' B' m' d' rF.2.1 rF.2.2.1 ∧ Below Wb.heap.size Wb wx
set_option maxRecDepth 100000 in
set_option maxHeartbeats 8000000 in
theorem tags_any (A : Option Addr) (n c : Nat) (B : Option Addr) (m d : Nat) (f : Bool) (L : Option Addr) (nl cl : Nat) (xs : List Int) (ys : List Bool) (al : List (Int × Int)) (w : World) (hx : Sl u64v 0 w 0 w.heap.size A n xs) (hy : Sl blv false w 0 w.heap.size B m ys) (hnc : n ≤ c) (hmd : m ≤ d)
    (hl : Sm 2 encP (0, 0) w 0 w.heap.size L nl al) (hnl : nl ≤ 9223372036854775807) (hal : ∀ x ∈ al, -9223372036854775808 ≤ x.1 ∧ x.1 ≤ 9223372036854775807) :
    Calls Try.prog 3 #[mv A n c B m d f, .slice L nl cl] w fun e w' => e = .returned (.bool true) ∧ Below w.heap.size w w' := by
  have hB := below_box w (.cells (mcs A n c B m d f) 25)
  have P3 := Blk.new w 25 (mcs A n c B m d f)
  replace hx := hx.step hB; replace hy := hy.step hB
  have HLw := hid hl
  have HAL := hid hal
  clear hl hal
  go_enter Try.func3, Try.ntmps3
  go_wp2_with fail
  generalize hW0 : (w.alloc (.cells #[.slice A n c, .slice B m d, .bool f] 25)) = W0 at *
  clear hW0
  refine (mwakes_any W0).mono ?_
  rintro e w1 ⟨rfl, hb⟩
  replace P3 := P3.step hb; replace hx := hx.step hb; replace hy := hy.step hb; replace hB := below_then hB hb
  clear hb
  obtain ⟨q00, q01, q02, q0f⟩ := P3.cells3
  go_wp2_with fail
  clear q00 q01 q02 q0f
  refine (lown_r A n c B m d f xs ys w1 hx hy hnc hmd).mono ?_
  rintro e w2 ⟨A2, n2, c2, B2, m2, d2, rfl, oa, ob, hb, hn2, hm2⟩
  have bx := below_box w2 (.cells (mcs A2 n2 c2 B2 m2 d2 f) 25)
  have hbx := below_then hb bx
  have Q7 := Blk.new w2 25 (mcs A2 n2 c2 B2 m2 d2 f)
  have hapart : Mem w2 A2 n2 c2 B2 m2 d2 (xs.take 64) (ys.take 64) := Mem.ofOw oa ob (by omega) (by omega)
  have hf2 : FarG n2 A2 m2 B2 w2.heap.size := ⟨fun _ a ha => by subst ha; have := oa.own.lt a.block rfl; omega, fun _ b hb => by subst hb; have := ob.own.lt b.block rfl; omega⟩
  have R7 := hapart.step bx
  have hB2 := below_then hB hb
  replace hB := below_then hB hbx
  have hg5 : w.heap.size ≤ w2.heap.size := hB2.size
  generalize xs.take 64 = ws at *
  generalize ys.take 64 = ls at *
  have HT := hid (⟨Q7, R7, hn2, hm2, hf2, hg5, hB⟩ : TagRel w w2.heap.size _ A2 n2 c2 B2 m2 d2 f ws ls)
  clear hbx bx hb hx hy P3 oa ob Q7 R7 hf2 hB hB2 hapart
  go_wp2_with fail
  generalize (w2.alloc (.cells #[.slice A2 n2 c2, .slice B2 m2 d2, .bool f] 25)) = W3 at *
  obtain ⟨g5, hg5e⟩ : ∃ g, g = w2.heap.size := ⟨_, rfl⟩
  rw [← hg5e] at HT ⊢
  clear hg5e hg5 hn2 hm2
  go_loopw [24] (fun i wr => ∃ j : Nat, ∃ A n c B m d f ws ls, j ≤ nl ∧ i = .int .i64 j ∧ TagRel w g5 wr A n c B m d f ws ls) (fun i _ => nl - (intOf i).toNat)
  case atStart => exact ⟨0, _, _, _, _, _, _, _, _, _, Nat.zero_le _, rfl, HT.out⟩
  case round =>
    obtain ⟨j, A, n, c, B, m, d, f, ws, ls, hj, rfl, T⟩ := hrel
    clear HT
    by_cases hjl : j < nl
    · obtain ⟨bl, offl, rfl, _, hbB, hc⟩ := HLw.out.row (by omega)
      have g0 := (T.be.cell (p := ⟨bl, offl + j * 2 + 0, none⟩) hbB).trans (hc j hjl 0 (by omega))
      have g1 := (T.be.cell (p := ⟨bl, offl + j * 2 + 1, none⟩) hbB).trans (hc j hjl 1 (by omega))
      obtain ⟨⟨fr, mn⟩, hX⟩ : ∃ x, x = al[j]?.getD (0, 0) := ⟨_, rfl⟩
      have hfr : Hid (-9223372036854775808 ≤ fr ∧ fr ≤ 9223372036854775807) := by
        have hh : (fr, mn) ∈ al := by rw [hX, List.getElem?_eq_getElem (by have := HLw.out.len; omega)]; exact List.getElem_mem _
        exact hid (HAL.out _ hh)
      rw [← hX] at g0 g1
      simp only [encP, Nat.add_zero] at g0 g1
      have HBE := hid T.be; have HT := hid T
      clear T hX hc
      have hA := below_box wr (.cells #[.int .i64 fr, .int .i64 mn] 29)
      by_cases hj8 : j = 8
      · subst hj8
        go_wp2
        exact bodyPost_ret (v := .bool true) (by simp [results]) rfl ⟨rfl, below_then HBE.out hA⟩
      · have e8 : ((j : Int) == 8) = false := by simp; omega
        have P5 := hid (HT.out.box.step hA); have RM := hid (HT.out.mem.step hA); have PP := hid (Blk.new wr 29 #[.int .i64 fr, .int .i64 mn]); have HB := hid (below_then HBE.out hA)
        clear hA
        obtain ⟨p0, p1, p2, pf⟩ := P5.out.cells3
        go_wp2_with fail
        clear p0 p1 p2 pf g0 g1
        generalize (wr.alloc (.cells #[.int .i64 fr, .int .i64 mn] 29)) = W1 at *
        refine (lown_r A n c B m d f ws ls W1 RM.out.hx RM.out.hy RM.out.hnc RM.out.hmd).mono ?_
        rintro e w8 ⟨A8, n8, c8, B8, m8, d8, rfl, oa8, ob8, hb, hn8, hm8⟩
        rw [List.take_of_length_le (by have := RM.out.lenx; have := HT.out.hn; omega)] at oa8
        rw [List.take_of_length_le (by have := RM.out.leny; have := HT.out.hm; omega)] at ob8
        have bx := below_box w8 (.cells (mcs A8 n8 c8 B8 m8 d8 f) 25)
        have hbx := below_then hb bx
        have R8 := hid ((Mem.ofOw oa8 ob8 (by omega) (by omega)).step bx)
        have P8 := hid (Blk.new w8 25 (mcs A8 n8 c8 B8 m8 d8 f))
        replace P5 := hid (P5.out.step hbx); replace RM := hid (RM.out.step hbx); replace PP := hid (PP.out.step hbx); replace HB := hid (below_then HB.out hbx)
        clear hbx bx hb oa8 ob8
        obtain ⟨p0, p1, p2, pf⟩ := P5.out.cells3
        obtain ⟨q0, q1, qf⟩ := PP.out.cells2
        go_wp2_with fail
        clear p0 p1 p2 pf q0 q1 qf
        generalize (w8.alloc (.cells #[.slice A8 n8 c8, .slice B8 m8 d8, .bool f] 25)) = W2 at *
        have hw2 := hid HB.out.size
        obtain ⟨rL, hrL⟩ : ∃ r, r = turnF (ws, ls, f) fr mn true 0 5 := ⟨_, rfl⟩
        obtain ⟨rF, hrF⟩ : ∃ r, r = turnF (ws, ls, f) fr mn false poison 4 := ⟨_, rfl⟩
        obtain ⟨cL, wsL, lsL, fL⟩ := rL
        obtain ⟨cF, wsF, lsF, fF⟩ := rF
        have HRL := hid hrL; have HRF := hid hrF
        have hlv := mlive_any A n c B m d f fr mn ws ls W2 RM.out hfr.out.1 hfr.out.2
        rw [← hrL] at hlv
        clear hrL hrF
        refine hlv.mono ?_
        clear hlv
        rintro e w9 ⟨A9, n9, c9, B9, m9, d9, rfl, o9, hb⟩
        dsimp only at o9 ⊢
        have bx := below_box w9 (.cells (mcs A9 n9 c9 B9 m9 d9 fL) 25)
        have HL := hid (below_then hb bx)
        replace HB := hid (below_then HB.out HL.out)
        have O9 := hid (o9.step bx)
        have P9 := hid (Blk.new w9 25 (mcs A9 n9 c9 B9 m9 d9 fL))
        clear bx hb o9
        obtain ⟨p0, p1, p2, pf⟩ := (P5.out.step HL.out).cells3
        obtain ⟨q0, q1, qf⟩ := (PP.out.step HL.out).cells2
        go_wp2_with fail
        clear p0 p1 p2 pf q0 q1 qf
        generalize (w9.alloc (.cells #[.slice A9 n9 c9, .slice B9 m9 d9, .bool fL] 25)) = W3 at *
        have h9a3 : Hid (∀ a, A9 = some a → a.block < W3.heap.size) := hid fun a ha => by subst ha; exact (O9.out.oa.own.lt a.block rfl).2
        have h9b3 : Hid (∀ a, B9 = some a → a.block < W3.heap.size) := hid fun a ha => by subst ha; exact (O9.out.ob.own.lt a.block rfl).2
        have hw3 := hid HL.out.size
        have hlv := mfree_any A n c B m d f fr mn ws ls W3 (RM.out.step HL.out) hfr.out.1 hfr.out.2
        rw [← HRF.out] at hlv
        refine hlv.mono ?_
        clear hlv
        rintro e w11 ⟨A11, n11, c11, B11, m11, d11, rfl, o11, hb⟩
        have h311 := hid hb.size
        dsimp only at o11 ⊢
        have bx := below_box w11 (.cells (mcs A11 n11 c11 B11 m11 d11 fF) 25)
        have hbx := below_then hb bx
        replace HL := hid (below_then HL.out hbx)
        replace HB := hid (below_then HB.out hbx)
        replace O9 := hid (O9.out.step hbx); replace P9 := hid (P9.out.step hbx)
        have O11 := hid (o11.step bx)
        have P11 := hid (Blk.new w11 25 (mcs A11 n11 c11 B11 m11 d11 fF))
        have P13 := hid ((Blk.new2 w11 25 (mcs none 0 0 none 0 0 false) (.cells (mcs A11 n11 c11 B11 m11 d11 fF) 25)).step (below_box _ (.cells (mcs none 0 0 none 0 0 false) 25)))
        have P14 := hid (Blk.new3 w11 25 (mcs none 0 0 none 0 0 false) (.cells (mcs A11 n11 c11 B11 m11 d11 fF) 25) (.cells (mcs none 0 0 none 0 0 false) 25))
        have HWb := hid (below_then (below_box (w11.alloc (.cells (mcs A11 n11 c11 B11 m11 d11 fF) 25)) (.cells (mcs none 0 0 none 0 0 false) 25)) (below_box _ (.cells (mcs none 0 0 none 0 0 false) 25)))
        have hsz := hid (show (w11.alloc (.cells (mcs A11 n11 c11 B11 m11 d11 fF) 25)).heap.size = w11.heap.size + 1 by simp)
        clear bx hbx hb o11
        obtain ⟨p0, p1, p2, pf⟩ := (P5.out.step (below_then HL.out HWb.out)).cells3
        go_wp2_with fail
        clear p0 p1 p2 pf
        generalize (w11.alloc (.cells #[.slice A11 n11 c11, .slice B11 m11 d11, .bool fF] 25)) = Wb at *
        generalize ((Wb.alloc (.cells #[.slice none 0 0, .slice none 0 0, .bool false] 25)).alloc (.cells #[.slice none 0 0, .slice none 0 0, .bool false] 25)) = W4 at *
        refine (rright_any A n c B m d f ws ls W4 (RM.out.step (below_then HL.out HWb.out))).mono ?_
        rintro e w12 ⟨rfl, hb⟩
        replace HWb := hid (below_then HWb.out hb); replace P13 := hid (P13.out.step hb); replace P14 := hid (P14.out.step hb)
        clear hb
        obtain ⟨bR, hbR⟩ : ∃ b, b = decide (MGood ws ls) := ⟨_, rfl⟩
        rw [← hbR]
        have HBR := hid hbR
        clear hbR
        go_upto_if 52 with fail
        go_cut [15, 16] (fun s15 s16 wx => TagMid Wb (w11.heap.size + 1) (w11.heap.size + 1 + 1) (cL, wsL, lsL, fL) (cF, wsF, lsF, fF) s15 s16 wx)
        case first =>
          have hz2 : W2.heap.size ≤ w11.heap.size + 1 := by have := HL.out.size; have := hsz.out; omega
          clear O9 P9 O11 P11 P8 R8 HB
          rcases bR with _ | _
          · have hg : ¬ MGood ws ls := of_decide_eq_false HBR.out.symm
            have E1 := HRL.out.trans (turnF_ng hg)
            have E2 := HRF.out.trans (turnF_ng hg)
            simp only [Prod.mk.injEq] at E1 E2
            obtain ⟨rfl, rfl, rfl, rfl⟩ := E1
            obtain ⟨rfl, rfl, rfl, rfl⟩ := E2
            clear hg
            go_wp2
            go_meet
            exact ⟨none, 0, 0, none, 0, 0, none, 0, 0, none, 0, 0, rfl, rfl, P13.out, (Mown.none _ 0).mem, P14.out, (Mown.none _ 0).mem, HWb.out⟩
          · have hg : MGood ws ls := of_decide_eq_true HBR.out.symm
            obtain rfl : m = n := by have := hg.1.2.2; have := RM.out.lenx; have := RM.out.leny; omega
            have HG := hid hg
            clear hg
            obtain ⟨p0, p1, p2, pf⟩ := (P5.out.step (below_then HL.out HWb.out)).cells3
            obtain ⟨q0, q1, qf⟩ := (PP.out.step (below_then HL.out HWb.out)).cells2
            go_wp2_with fail
            clear p0 p1 p2 pf q0 q1 qf
            refine (rin_any A m c B m d f fr mn _ (by have := HT.out.hn; omega)).mono ?_
            rintro e w14 ⟨rfl, hb⟩
            replace HWb := hid (below_then HWb.out hb); replace P13 := hid (P13.out.step hb); replace P14 := hid (P14.out.step hb)
            clear hb
            obtain ⟨bI, hbI⟩ : ∃ b, b = decide (InP m fr mn) := ⟨_, rfl⟩
            rw [← hbI]
            have HBI := hid hbI
            clear hbI
            rcases bI with _ | _
            · have hi : ¬ InP ws.length fr mn := by rw [RM.out.lenx]; exact of_decide_eq_false HBI.out.symm
              have E1 := HRL.out.trans (turnF_out HG.out hi)
              have E2 := HRF.out.trans (turnF_out HG.out hi)
              simp only [Prod.mk.injEq] at E1 E2
              obtain ⟨rfl, rfl, rfl, rfl⟩ := E1
              obtain ⟨rfl, rfl, rfl, rfl⟩ := E2
              clear hi
              go_wp2
              go_meet
              exact ⟨none, 0, 0, none, 0, 0, none, 0, 0, none, 0, 0, rfl, rfl, P13.out, (Mown.none _ 0).mem, P14.out, (Mown.none _ 0).mem, HWb.out⟩
            · have hi : InP m fr mn := of_decide_eq_true HBI.out.symm
              obtain ⟨hi1, hi2, hi3, hi4⟩ := hi
              obtain ⟨fr, rfl⟩ := Int.eq_ofNat_of_zero_le hi2
              obtain ⟨mn, rfl⟩ := Int.eq_ofNat_of_zero_le (by omega : 0 ≤ mn)
              have hle : fr + mn ≤ m := by omega
              have h1mn : 1 ≤ mn := by omega
              have hlew : Hid (fr + mn ≤ ws.length) := hid (by rw [RM.out.lenx]; exact hle)
              clear hi1 hi2 hi3 hi4
              obtain ⟨p0, p1, p2, pf⟩ := (P5.out.step (below_then HL.out HWb.out)).cells3
              obtain ⟨q0, q1, qf⟩ := (PP.out.step (below_then HL.out HWb.out)).cells2
              go_wp2_with fail
              clear p0 p1 p2 pf q0 q1 qf
              refine (rall_any A m c B m d f ws ls fr mn false _ (RM.out.step (below_then HL.out HWb.out)) hle h1mn).mono ?_
              rintro e w15 ⟨rfl, hb⟩
              replace HWb := hid (below_then HWb.out hb); replace P13 := hid (P13.out.step hb); replace P14 := hid (P14.out.step hb)
              clear hb
              obtain ⟨b1, hb1⟩ : ∃ b, b = decide (∀ k, k < mn → ls[fr + k]?.getD false = false) := ⟨_, rfl⟩
              rw [← hb1]
              have E1 := HRL.out.trans (turnF_in HG.out h1mn hlew.out (by omega) hb1)
              clear hb1
              have HE1 := hid E1
              clear E1
              go_upto_if 64 with fail
              go_cut [15] (fun s15 wx => TagMid1 Wb (w11.heap.size + 1) (w11.heap.size + 1 + 1) (cL, wsL, lsL, fL) s15 wx)
              case first =>
                rcases b1 with _ | _
                · have E1 := HE1.out
                  rw [if_neg (by simp)] at E1
                  simp only [Prod.mk.injEq] at E1
                  obtain ⟨rfl, rfl, rfl, rfl⟩ := E1
                  go_wp2
                  go_meet
                  exact ⟨none, 0, 0, none, 0, rfl, P13.out, (Mown.none _ 0).mem, fun h => absurd h (by omega), P14.out, HWb.out⟩
                · have E1 := HE1.out
                  rw [if_pos rfl] at E1
                  simp only [Prod.mk.injEq] at E1
                  obtain ⟨rfl, rfl, rfl, hff⟩ := E1
                  obtain rfl := hff.symm
                  obtain ⟨p0, p1, p2, pf⟩ := (P5.out.step (below_then HL.out HWb.out)).cells3
                  obtain ⟨q0, q1, qf⟩ := (PP.out.step (below_then HL.out HWb.out)).cells2
                  go_wp2_with fail
                  clear p0 p1 p2 pf q0 q1 qf
                  refine (rlive_any A m c B m d f ws ls fr mn _ (RM.out.step (below_then HL.out HWb.out)) rfl hle).mono ?_
                  rintro e w16 ⟨A', c', B', d', rfl, hm16, hb, hfar⟩
                  have hf13 := hid (hfar (w11.heap.size + 1) P13.out.lt (RM.out.far (by omega)))
                  have hf14 := hid (hfar (w11.heap.size + 1 + 1) P14.out.lt (RM.out.far (by omega)))
                  replace HWb := hid (below_then HWb.out hb); replace P13 := hid (P13.out.step hb); replace P14 := hid (P14.out.step hb)
                  have HM16 := hid hm16
                  clear hb hfar hm16
                  obtain ⟨p0, p1, p2, pf⟩ := P13.out.cells3
                  go_wp2
                  go_meet
                  have hszb := hsz.out
                  exact ⟨A', m, c', B', d', rfl, ((P13.out.setCell 0 _).setCell 1 _).setCell 2 _, ((HM16.out.setFar hf13.out 0 _).setFar hf13.out 1 _).setFar hf13.out 2 _, hf14.out, ((P14.out.far (by simp) _).far (by simp) _).far (by simp) _, ((HWb.out.setCell (by simp; omega) _).setCell (by simp; omega) _).setCell (by simp; omega) _⟩
              case rest =>
                obtain ⟨A13, n13, c13, B13, d13, rfl, P13x, M13x, hf14x, P14x, HWbx⟩ := hcut
                clear HE1 P13 P14 HWb
                have P13 := hid P13x; have P14 := hid P14x; have M13 := hid M13x; have hf14 := hid hf14x; have HWb := hid HWbx
                clear P13x M13x hf14x P14x HWbx
                obtain ⟨p0, p1, p2, pf⟩ := (P5.out.step (below_then HL.out HWb.out)).cells3
                obtain ⟨q0, q1, qf⟩ := (PP.out.step (below_then HL.out HWb.out)).cells2
                go_wp2_with fail
                clear p0 p1 p2 pf q0 q1 qf
                refine (rall_any A m c B m d f ws ls fr mn true _ (RM.out.step (below_then HL.out HWb.out)) hle h1mn).mono ?_
                rintro e w17 ⟨rfl, hb⟩
                replace HWb := hid (below_then HWb.out hb); replace P13 := hid (P13.out.step hb); replace P14 := hid (P14.out.step hb); replace M13 := hid (M13.out.step hb)
                clear hb
                obtain ⟨b2, hb2⟩ : ∃ b, b = decide (∀ k, k < mn → ls[fr + k]?.getD false = true) := ⟨_, rfl⟩
                rw [← hb2]
                have E2 := HRF.out.trans (turnF_in HG.out h1mn hlew.out (by omega) hb2)
                clear hb2
                have HE2 := hid E2
                clear E2
                rcases b2 with _ | _
                · have E2 := HE2.out
                  rw [if_neg (by simp)] at E2
                  simp only [Prod.mk.injEq] at E2
                  obtain ⟨rfl, rfl, rfl, rfl⟩ := E2
                  go_wp2
                  go_meet
                  exact ⟨A13, n13, c13, B13, n13, d13, none, 0, 0, none, 0, 0, rfl, rfl, P13.out, M13.out, P14.out, (Mown.none _ 0).mem, HWb.out⟩
                · have E2 := HE2.out
                  rw [if_pos rfl] at E2
                  simp only [Prod.mk.injEq] at E2
                  obtain ⟨rfl, rfl, rfl, hff⟩ := E2
                  obtain rfl := hff.symm
                  obtain ⟨p0, p1, p2, pf⟩ := (P5.out.step (below_then HL.out HWb.out)).cells3
                  obtain ⟨q0, q1, qf⟩ := (PP.out.step (below_then HL.out HWb.out)).cells2
                  go_wp2_with fail
                  clear p0 p1 p2 pf q0 q1 qf
                  refine (rfree_any A m c B m d f ws ls fr mn _ (RM.out.step (below_then HL.out HWb.out)) rfl hle).mono ?_
                  rintro e w18 ⟨A', c', B', d', rfl, hm16, hb, hfar⟩
                  have hf14' := hid (hfar (w11.heap.size + 1 + 1) P14.out.lt (RM.out.far (by omega)))
                  replace HWb := hid (below_then HWb.out hb); replace P13 := hid (P13.out.step hb); replace P14 := hid (P14.out.step hb); replace M13 := hid (M13.out.step hb)
                  have HM16 := hid hm16
                  clear hb hfar hm16
                  obtain ⟨p0, p1, p2, pf⟩ := P14.out.cells3
                  go_wp2
                  go_meet
                  have hszb := hsz.out
                  exact ⟨A13, n13, c13, B13, n13, d13, A', m, c', B', m, d', rfl, rfl, ((P13.out.far (by simp) _).far (by simp) _).far (by simp) _, ((M13.out.setFar hf14.out 0 _).setFar hf14.out 1 _).setFar hf14.out 2 _, ((P14.out.setCell 0 _).setCell 1 _).setCell 2 _, ((HM16.out.setFar hf14'.out 0 _).setFar hf14'.out 1 _).setFar hf14'.out 2 _, ((HWb.out.setCell (by simp; omega) _).setCell (by simp; omega) _).setCell (by simp; omega) _⟩
        case rest =>
          obtain ⟨A13, n13, c13, B13, m13, d13, A14, n14, c14, B14, m14, d14, rfl, rfl, P13x, M13x, P14x, M14x, HWbx⟩ := hcut
          clear P13 P14 HWb
          dsimp only at P13x M13x P14x M14x
          rename World => W5
          replace HL := hid (below_then HL.out HWbx); replace HB := hid (below_then HB.out HWbx)
          replace O9 := hid (O9.out.step HWbx); replace P9 := hid (P9.out.step HWbx); replace O11 := hid (O11.out.step HWbx); replace P11 := hid (P11.out.step HWbx)
          have P13 := hid P13x; have P14 := hid P14x; have M13 := hid M13x; have M14 := hid M14x
          clear P13x M13x P14x M14x HWbx
          have hcc : (cL != cL) = false := by simp
          have hcf : (cF != cF) = false := by simp
          obtain ⟨p0, p1, p2, pf⟩ := P9.out.cells3
          obtain ⟨q0, q1, q2, qf⟩ := P13.out.cells3
          go_wp2_with fail
          clear p0 p1 p2 pf q0 q1 q2 qf
          refine (rmsame_any A9 n9 c9 B9 m9 d9 fL wsL lsL A13 n13 c13 B13 m13 d13 fL wsL lsL _ O9.out.mem M13.out).mono ?_
          rintro e w19 ⟨rfl, hb⟩
          rw [show sameM (wsL, lsL, fL) (wsL, lsL, fL) = true by simp [sameM]]
          replace HL := hid (below_then HL.out hb); replace HB := hid (below_then HB.out hb)
          replace O9 := hid (O9.out.step hb); replace P9 := hid (P9.out.step hb); replace O11 := hid (O11.out.step hb); replace P11 := hid (P11.out.step hb); replace P14 := hid (P14.out.step hb); replace M14 := hid (M14.out.step hb)
          clear hb P13 M13
          obtain ⟨p0, p1, p2, pf⟩ := P11.out.cells3
          obtain ⟨q0, q1, q2, qf⟩ := P14.out.cells3
          go_wp2_with fail
          clear p0 p1 p2 pf q0 q1 q2 qf
          refine (rmsame_any A11 n11 c11 B11 m11 d11 fF wsF lsF A14 n14 c14 B14 m14 d14 fF wsF lsF _ O11.out.mem M14.out).mono ?_
          rintro e w20 ⟨rfl, hb⟩
          rw [show sameM (wsF, lsF, fF) (wsF, lsF, fF) = true by simp [sameM]]
          replace HL := hid (below_then HL.out hb); replace HB := hid (below_then HB.out hb)
          replace O9 := hid (O9.out.step hb); replace P9 := hid (P9.out.step hb); replace O11 := hid (O11.out.step hb); replace P11 := hid (P11.out.step hb)
          clear hb P14 M14 hcc hcf
          obtain ⟨p0, p1, p2, pf⟩ := (P5.out.step HL.out).cells3
          go_upto_if 105 with fail
          clear p0 p1 p2 pf
          have h9a : Hid (∀ a, A9 = some a → a.block < w20.heap.size) := hid fun a ha => by subst ha; exact (O9.out.oa.own.lt a.block rfl).2
          have h9b : Hid (∀ a, B9 = some a → a.block < w20.heap.size) := hid fun a ha => by subst ha; exact (O9.out.ob.own.lt a.block rfl).2
          have h11a : Hid (∀ a, A11 = some a → a.block < w20.heap.size) := hid fun a ha => by subst ha; exact (O11.out.oa.own.lt a.block rfl).2
          have h11b : Hid (∀ a, B11 = some a → a.block < w20.heap.size) := hid fun a ha => by subst ha; exact (O11.out.ob.own.lt a.block rfl).2
          have BX := hid (below_box w20 (.cells (mcs A n c B m d f) 25))
          have P17 := hid (Blk.new w20 25 (mcs A n c B m d f))
          have hsz6 := hid (show w20.heap.size < (w20.alloc (.cells (mcs A n c B m d f) 25)).heap.size by simp)
          generalize (w20.alloc (.cells #[.slice A n c, .slice B m d, .bool f] 25)) = W6 at *
          generalize hz1 : (cL == (0 : Int)) = z1
          have HZ1 := hid hz1
          clear hz1
          go_cut [] (fun wx => TagNext w20 A n c B m d f ws ls wx)
          case first =>
            rcases z1 with _ | _
            · go_wp2
              go_meet
              exact ⟨A, n, c, B, m, d, f, ws, ls, P17.out, .inl ⟨rfl, rfl, rfl, rfl, rfl, rfl, rfl, rfl, rfl⟩, BX.out⟩
            · obtain ⟨p0, p1, p2, pf⟩ := (P9.out.step BX.out).cells3
              go_wp2_with fail
              clear p0 p1 p2 pf
              have R9 := (O9.out.step BX.out).mem
              refine (lown_r A9 n9 c9 B9 m9 d9 fL wsL lsL _ R9.hx R9.hy R9.hnc R9.hmd).mono ?_
              rintro e w21 ⟨A', n', c', B', m', d', rfl, oa, ob, hb, hn', hm'⟩
              have HOA := hid oa; have HOB := hid ob; have HB21 := hid hb
              replace P17 := hid (P17.out.step hb)
              clear oa ob hb R9
              obtain ⟨p0, p1, p2, pf⟩ := P17.out.cells3
              go_wp2
              go_meet
              have hl := Nat.le_of_lt hsz6.out
              exact ⟨A', n', c', B', m', d', fL, _, _, ((P17.out.setCell 0 _).setCell 1 _).setCell 2 _, .inr ⟨(((HOA.out.setFar (.inl hsz6.out) _).setFar (.inl hsz6.out) _).setFar (.inl hsz6.out) _).mono hl, (((HOB.out.setFar (.inl hsz6.out) _).setFar (.inl hsz6.out) _).setFar (.inl hsz6.out) _).mono hl, hn', hm'⟩, (((below_then BX.out HB21.out).setCell (Nat.le_refl _) _).setCell (Nat.le_refl _) _).setCell (Nat.le_refl _) _⟩
          case rest =>
            have HN1 := hid hcut
            clear P17 hcut
            rename World => W7
            go_upto_if 109 with fail
            generalize hz2 : (cF == (0 : Int)) = z2
            have HZ2 := hid hz2
            clear hz2
            go_cut [] (fun wx => TagNext w20 A n c B m d f ws ls wx)
            case first =>
              rcases z2 with _ | _
              · go_wp2
                go_meet
                exact HN1.out
              · obtain ⟨Ax, nx, cx, Bx, mx, dx, fx, wsx, lsx, Pn, hch, bN⟩ := HN1.out
                have HPN := hid Pn; have HBN := hid bN
                have R11 := (O11.out.step bN).mem
                obtain ⟨p0, p1, p2, pf⟩ := (P11.out.step bN).cells3
                clear Pn hch bN
                go_wp2_with fail
                clear p0 p1 p2 pf
                refine (lown_r A11 n11 c11 B11 m11 d11 fF wsF lsF _ R11.hx R11.hy R11.hnc R11.hmd).mono ?_
                rintro e w22 ⟨A', n', c', B', m', d', rfl, oa, ob, hb, hn', hm'⟩
                have HOA := hid oa; have HOB := hid ob; have HB22 := hid hb
                have hlt := hid HPN.out.lt
                have P17 := hid (HPN.out.step hb)
                clear oa ob hb R11
                obtain ⟨p0, p1, p2, pf⟩ := P17.out.cells3
                go_wp2
                go_meet
                have hl := Nat.le_of_lt hlt.out
                exact ⟨A', n', c', B', m', d', fF, _, _, ((P17.out.setCell 0 _).setCell 1 _).setCell 2 _, .inr ⟨(((HOA.out.setFar (.inl hlt.out) _).setFar (.inl hlt.out) _).setFar (.inl hlt.out) _).mono hl, (((HOB.out.setFar (.inl hlt.out) _).setFar (.inl hlt.out) _).setFar (.inl hlt.out) _).mono hl, hn', hm'⟩, (((below_then HBN.out HB22.out).setCell (Nat.le_refl _) _).setCell (Nat.le_refl _) _).setCell (Nat.le_refl _) _⟩
            case rest =>
              obtain ⟨Ax, nx, cx, Bx, mx, dx, fx, wsx, lsx, Pnx, hchx, bNx⟩ := hcut
              clear HN1
              rename World => W8
              have HPN := hid Pnx; have HBN := hid bNx; have HCH := hid hchx
              clear Pnx bNx hchx
              obtain ⟨p0, p1, p2, pf⟩ := (P9.out.step HBN.out).cells3
              go_wp2_with fail
              clear p0 p1 p2 pf
              refine (spoil_any W2.heap.size A9 n9 c9 B9 m9 d9 fL wsL lsL _ (O9.out.step HBN.out) (Nat.le_trans HL.out.size HBN.out.size)).mono ?_
              rintro e w23 ⟨⟨v, rfl⟩, hb, hs⟩
              have HL3 := hid ((below_then HL.out HBN.out).trans hb)
              have HB3 := hid ((below_then HB.out HBN.out).trans (hb.mono hw2.out))
              replace HPN := hid (HPN.out.spared hs (fun a ha => by have := h9a.out a ha; omega) (fun a ha => by have := h9b.out a ha; omega))
              have HCH3 : Hid ((Ax = A ∧ nx = n ∧ cx = c ∧ Bx = B ∧ mx = m ∧ dx = d ∧ fx = f ∧ wsx = ws ∧ lsx = ls) ∨ (Ow u64v w23 w20.heap.size 42 Ax nx cx wsx ∧ Ow blv w23 w20.heap.size 4 Bx mx dx lsx ∧ nx ≤ 64 ∧ mx ≤ 64)) := hid (by
                rcases HCH.out with hh | ⟨u1, u2, u3, u4⟩
                · exact .inl hh
                · exact .inr ⟨u1.spared hs (fun a x ha hx => by subst hx; have := u1.ge; have := h9a.out a ha; omega) (fun a x ha hx => by subst hx; have := u1.ge; have := h9b.out a ha; omega),
                    u2.spared hs (fun a x ha hx => by subst hx; have := u2.ge; have := h9a.out a ha; omega) (fun a x ha hx => by subst hx; have := u2.ge; have := h9b.out a ha; omega), u3, u4⟩)
              replace O11 := hid ((O11.out.step HBN.out).spared hs h9a3.out h9b3.out)
              replace P11 := hid ((P11.out.step HBN.out).spared hs (fun a ha => by have := h9a3.out a ha; have := h311.out; omega) (fun a ha => by have := h9b3.out a ha; have := h311.out; omega))
              have hsz23 := hid hs.1
              clear hb hs HCH
              obtain ⟨p0, p1, p2, pf⟩ := P11.out.cells3
              go_wp2_with fail
              clear p0 p1 p2 pf
              refine (spoil_any W3.heap.size A11 n11 c11 B11 m11 d11 fF wsF lsF _ O11.out (by have := HL3.out.size; have := HL.out.size; have := HBN.out.size; have := hsz23.out; have := h311.out; have := hw3.out; have := P11.out.lt; omega)).mono ?_
              rintro e w24 ⟨⟨v, rfl⟩, hb, hs⟩
              replace HL3 := hid (HL3.out.trans (hb.mono hw3.out))
              replace HB3 := hid (HB3.out.trans (hb.mono (Nat.le_trans hw2.out hw3.out)))
              replace HPN := hid (HPN.out.spared hs (fun a ha => by have := h11a.out a ha; omega) (fun a ha => by have := h11b.out a ha; omega))
              have HCH4 : Hid ((Ax = A ∧ nx = n ∧ cx = c ∧ Bx = B ∧ mx = m ∧ dx = d ∧ fx = f ∧ wsx = ws ∧ lsx = ls) ∨ (Ow u64v w24 w20.heap.size 42 Ax nx cx wsx ∧ Ow blv w24 w20.heap.size 4 Bx mx dx lsx ∧ nx ≤ 64 ∧ mx ≤ 64)) := hid (by
                rcases HCH3.out with hh | ⟨u1, u2, u3, u4⟩
                · exact .inl hh
                · exact .inr ⟨u1.spared hs (fun a x ha hx => by subst hx; have := u1.ge; have := h11a.out a ha; omega) (fun a x ha hx => by subst hx; have := u1.ge; have := h11b.out a ha; omega),
                    u2.spared hs (fun a x ha hx => by subst hx; have := u2.ge; have := h11a.out a ha; omega) (fun a x ha hx => by subst hx; have := u2.ge; have := h11b.out a ha; omega), u3, u4⟩)
              clear hb hs HCH3
              obtain ⟨p0, p1, p2, pf⟩ := (P5.out.step HL3.out).cells3
              obtain ⟨q0, q1, q2, qf⟩ := (P8.out.step HL3.out).cells3
              go_wp2_with fail
              clear p0 p1 p2 pf q0 q1 q2 qf
              refine (rmsame_any A n c B m d f ws ls A8 n8 c8 B8 m8 d8 f ws ls _ (RM.out.step HL3.out) (R8.out.step HL3.out)).mono ?_
              rintro e w25 ⟨rfl, hb⟩
              rw [show sameM (ws, ls, f) (ws, ls, f) = true by simp [sameM]]
              replace HL3 := hid (below_then HL3.out hb); replace HB3 := hid (below_then HB3.out hb); replace HPN := hid (HPN.out.step hb)
              have HCH5 : Hid (Mem w25 Ax nx cx Bx mx dx wsx lsx ∧ nx ≤ 64 ∧ mx ≤ 64 ∧ FarG nx Ax mx Bx g5) := hid (by
                have h5 := P5.out.lt
                have h25 := HL.out.size
                rcases HCH4.out with ⟨rfl, rfl, rfl, rfl, rfl, rfl, rfl, rfl, rfl⟩ | ⟨u1, u2, u3, u4⟩
                · exact ⟨RM.out.step HL3.out, HT.out.hn, HT.out.hm, HT.out.far⟩
                · exact ⟨Mem.ofOw (u1.below hb) (u2.below hb) (by omega) (by omega), u3, u4, ⟨fun _ a ha => by subst ha; have := u1.ge; omega, fun _ a ha => by subst ha; have := u2.ge; omega⟩⟩)
              clear hb HCH4
              have P5e := hid (P5.out.step HL3.out)
              obtain ⟨p0, p1, p2, pf⟩ := HPN.out.cells3
              obtain ⟨q0, q1, q2, qf⟩ := P5e.out.cells3
              go_wp2
              go_roundw
              case rel => exact ⟨j + 1, Ax, nx, cx, Bx, mx, dx, fx, wsx, lsx, by omega, by go_num, ⟨((P5e.out.setCell 0 _).setCell 1 _).setCell 2 _, ((HCH5.out.1.setFarG HCH5.out.2.2.2 0 _).setFarG HCH5.out.2.2.2 1 _).setFarG HCH5.out.2.2.2 2 _, HCH5.out.2.1, HCH5.out.2.2.1, HCH5.out.2.2.2, HT.out.g5, ((HB3.out.setCell HT.out.g5 _).setCell HT.out.g5 _).setCell HT.out.g5 _⟩⟩
              case measure => simp [intOf]; omega
    · obtain rfl : j = nl := by omega
      have HBE := hid T.be
      clear T
      go_wp2
      exact bodyPost_ret (v := .bool true) (by simp [results]) rfl ⟨rfl, HBE.out⟩
end Go.Proofs.Ytenhojdhjfoomaa
