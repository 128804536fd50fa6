/- afterglowlaw05.SpinAlone returns true at every number, and row of picks, and turns nothing old. No condition but the sizes of memory. -/
import Derived.Test.YtaeanmkbongfcaaSpPl
import Derived.Test.YtaeanmkbongfcaaSpR
import Derived.Test.YtaeanmkbongfcaaSlC
namespace Go.Proofs.Ytaeanmkbongfcaa
open Go.RowKit
/-- behind some plays -/
structure QSa (w W : World) (gm N : Nat) (L : Option Addr) (cl : Nat) (O : Option Addr) (no co : Nat) : Prop where
  out : ∃ A n c B k d NN S ls od, Blk W gm 25 (mcs A n c B k d false) ∧ Mown W w.heap.size A n c B k d (tkM NN S).1 (tkM NN S).2.1 ∧ Om 3 encS W w.heap.size 38 L N cl ls ∧ Ow i64 W w.heap.size 3 O no co od ∧ TkI NN S ls od
  be : Below w.heap.size w W
theorem QSa.step {w W W' : World} {gm N : Nat} {L : Option Addr} {cl : Nat} {O : Option Addr} {no co : Nat} (h : QSa w W gm N L cl O no co) (hb : Below W.heap.size W W') : QSa w W' gm N L cl O no co := by
  obtain ⟨⟨A, n, c, B, k, d, NN, S, ls, od, h1, h2, h3, h4, h5⟩, h6⟩ := h
  exact ⟨⟨A, n, c, B, k, d, NN, S, ls, od, h1.step hb, h2.step hb, h3.step hb, h4.step hb, h5⟩, below_then h6 hb⟩
theorem held_one (m : MSt) (l : List Spn) (i : Int) : (heldF m l [i]).length ≤ 1 := by
  show ((if 0 ≤ whoS m l i then [whoS m l i] else []) ++ heldF (pstepF m l i.toNat).1 (pstepF m l i.toNat).2 []).length ≤ 1
  rw [show ∀ m l, heldF m l [] = [] from fun _ _ => rfl, List.append_nil]
  split <;> simp
def inP (s : Spn) : Bool := decide (s.2.1 = 3) || decide (s.2.1 = 4)
def inC (l : List Spn) (k : Nat) : Nat := (l.take k).countP inP
theorem inC_succ (l : List Spn) (k : Nat) (hk : k < l.length) : inC l (k + 1) = inC l k + if inP (gS l k) = true then 1 else 0 := by
  unfold inC gS
  rw [List.take_succ_eq_append_getElem hk, List.countP_append, List.getElem?_eq_getElem hk, Option.getD_some]
  simp [List.countP_cons]
theorem TkI.inC_le {N S : Nat} {l : List Spn} {od : List Int} (h : TkI N S l od) : ∀ k, k ≤ l.length → inC l k ≤ 1 ∧ (inC l k = 1 → ∃ i, i < k ∧ inP (gS l i) = true)
  | 0, _ => by simp [inC]
  | k + 1, hk => by
    obtain ⟨h1, h2⟩ := h.inC_le k (by omega)
    rw [inC_succ l k (by omega)]
    by_cases hp : inP (gS l k) = true
    · rw [if_pos hp]
      have h0 : inC l k = 0 := by
        rcases Nat.lt_or_ge (inC l k) 1 with h | h
        · omega
        · obtain ⟨i, hi, hip⟩ := h2 (by omega)
          have f : ∀ s : Spn, inP s = true → s.2.1 = 3 ∨ s.2.1 = 4 := fun s hs => by simpa [inP] using hs
          have := TkI.inside (by assumption : TkI N S l od) (f _ hip) (f _ hp)
          omega
      exact ⟨by omega, fun _ => ⟨k, by omega, hp⟩⟩
    · rw [if_neg hp]
      exact ⟨by omega, fun e => by obtain ⟨i, hi, hip⟩ := h2 (by omega); exact ⟨i, by omega, hip⟩⟩
theorem TkI.lenl {N S : Nat} {l : List Spn} {od : List Int} (h : TkI N S l od) : od.length ≤ l.length := h.le.2
set_option maxRecDepth 100000 in
set_option maxHeartbeats 8000000 in
theorem spalone_any (many : Int) (Q : Option Addr) (nq cq : Nat) (ps : List Int) (w : World) (hq : Sl i64 0 w 0 w.heap.size Q nq ps) :
    Calls Try.prog 6 #[.int .i64 many, .slice Q nq cq] w fun e w' => e = .returned (.bool true) ∧ Below w.heap.size w w' := by
  have HQ := hid hq; have HB := hid (Below.refl w.heap.size w)
  obtain ⟨N, hN, hN1, hN5⟩ : ∃ N : Nat, wrap64 (1 + wrap64 ((IntKind.u64.wrap many).tmod 5)) = (N : Int) ∧ 1 ≤ N ∧ N ≤ 5 := by
    have h0 : 0 ≤ IntKind.u64.wrap many := by rw [IntKind.wrap_u64]; omega
    refine ⟨1 + ((IntKind.u64.wrap many).tmod 5).toNat, ?_, by omega, ?_⟩
    · rw [Int.tmod_eq_emod_of_nonneg h0]; unfold wrap64; omega
    · rw [Int.tmod_eq_emod_of_nonneg h0]; omega
  clear hq
  go_enter Try.func6, Try.ntmps6
  go_wp2_with fail
  refine (spwakes_any w).mono ?_
  rintro e w1 ⟨rfl, hb⟩
  replace HB := hid (below_then HB.out hb)
  clear hb
  have hs1 := hid HB.out.size
  go_wp2_with fail
  refine (laid_any w1).mono ?_
  rintro e w2 ⟨A, c, B, d, rfl, om, hb⟩
  have OM := hid (om.mono (show w.heap.size ≤ w1.heap.size from hs1.out))
  have hs2 := hid (Nat.le_trans hs1.out hb.size)
  clear om hs1
  replace HB := hid (below_then HB.out hb)
  clear hb
  have bx := below_box w2 (.cells (mcs A 2 c B 2 d false) 25)
  replace OM := hid (OM.out.step bx); replace HB := hid (below_then HB.out bx)
  clear bx
  have PM := hid (Blk.new w2 25 (mcs A 2 c B 2 d false))
  go_upto_region 4 with fail
  have hz2 := hid (show (w2.alloc (.cells (mcs A 2 c B 2 d false) 25)).heap.size = w2.heap.size + 1 by simp)
  generalize w2.alloc (.cells (mcs A 2 c B 2 d false) 25) = W2 at *
  go_wp2_with fail
  simp only [hN]
  clear hN
  refine (asking_any N W2 hN1 hN5).mono ?_
  rintro e w3 ⟨g3, rfl, ol, hb⟩
  have OL := hid (ol.mono (show w.heap.size ≤ W2.heap.size from HB.out.size))
  clear ol
  replace OM := hid (OM.out.step hb); replace PM := hid (PM.out.step hb); replace HB := hid (below_then HB.out hb)
  clear hb
  have hst : QSa w w3 w2.heap.size N (some ⟨g3, 0, none⟩) N none 0 0 := ⟨⟨A, 2, c, B, 2, d, 0, 0, List.replicate N (0, 0, 0), [], PM.out, OM.out, OL.out, Ow.nil _ _ _, TkI.start N⟩, HB.out⟩
  have HST := hid hst
  clear hst PM OM OL HB
  go_upto_block 0 with fail
  go_cut [7, 8] (fun sl so wx => ∃ (L : Option Addr) (cl : Nat) (O : Option Addr) (no co : Nat), sl = .slice L N cl ∧ so = .slice O no co ∧ QSa w wx w2.heap.size N L cl O no co)
  case first =>
    go_wp2_with fail
    go_loopw [7, 8, 34] (fun sl so i wr => ∃ (j : Nat) (L : Option Addr) (cl : Nat) (O : Option Addr) (no co : Nat), j ≤ nq ∧ j ≤ 120 ∧ i = .int .i64 j ∧ sl = .slice L N cl ∧ so = .slice O no co ∧ QSa w wr w2.heap.size N L cl O no co) (fun _ _ i _ => nq - (intOf i).toNat)
    case atStart => exact ⟨0, _, _, _, _, _, Nat.zero_le _, by omega, rfl, rfl, rfl, HST.out⟩
    case round =>
      obtain ⟨j, L, cl, O, no, co, hj, hj2, rfl, rfl, rfl, hI⟩ := hrel
      clear HST
      have HI := hid hI
      clear hI
      by_cases hjn : j < nq
      rotate_left
      · obtain rfl : j = nq := by omega
        have hnn : ¬ ((j : Int) < (j : Int)) := by omega
        go_wp2
        go_meet
        exact ⟨L, cl, O, no, co, rfl, rfl, HI.out⟩
      have hji : (j : Int) < (nq : Int) := by omega
      obtain ⟨b, off, rfl, _, hbh, hc⟩ := HQ.out.row (by omega)
      obtain ⟨p, hp⟩ : ∃ p, p = ps[j]?.getD 0 := ⟨_, rfl⟩
      have f0 := (HI.out.be.cell (p := ⟨b, off + j, none⟩) hbh).trans (hc j hjn)
      rw [← hp] at f0
      have HP := hid hp
      clear hc hp
      by_cases hje : j = 120
      · have hjb : ((j : Int) == 120) = true := by simp; omega
        subst hje
        simp only [show ((120 : Nat) : Int) = 120 from rfl] at *
        go_wp2
        go_meet
        exact ⟨L, cl, O, no, co, rfl, rfl, HI.out⟩
      have hjb : ((j : Int) == 120) = false := by simp; omega
      obtain ⟨i0, hi0, hiN⟩ : ∃ i0 : Nat, wrap64 ((IntKind.u64.wrap p).tmod (N : Int)) = (i0 : Int) ∧ i0 < N := by
        have h0 : 0 ≤ IntKind.u64.wrap p := by rw [IntKind.wrap_u64]; omega
        have h1 := Int.emod_nonneg (IntKind.u64.wrap p) (show (N : Int) ≠ 0 by omega)
        have h2 := Int.emod_lt_of_pos (IntKind.u64.wrap p) (show (0 : Int) < (N : Int) by omega)
        refine ⟨((IntKind.u64.wrap p).tmod N).toNat, ?_, ?_⟩
        · rw [Int.tmod_eq_emod_of_nonneg h0]; unfold wrap64; omega
        · rw [Int.tmod_eq_emod_of_nonneg h0]; omega
      have hnz : ¬ (N : Int) = 0 := by omega
      have hnu : IntKind.u64.wrap (N : Int) = (N : Int) := by rw [IntKind.wrap_u64]; omega
      obtain ⟨⟨A1, n1, c1, B1, k1, d1, NN, S, ls, od, h1, h2, h3, h4, h5⟩, h6⟩ := HI.out
      have PM := hid h1; have OM := hid h2; have OL := hid h3; have OO := hid h4; have HT := hid h5; have HB := hid h6
      have HRL := hid h1.lt
      clear h1 h2 h3 h4 h5 h6 HI
      go_upto_region 11 with fail
      simp only [hi0]
      clear f0 hi0 hnu hnz
      obtain ⟨y00, y01, y02, yf0⟩ := PM.out.cells3
      have HL := hid (Sl.lit (enc := i64) (d := 0) (w := wr) (e := 3) (g := wr.heap.size) [(i0 : Int)] (#[.int .i64 i0]) (by simp) (by simp))
      have bx := below_box wr (.cells #[.int .i64 i0] 3)
      replace PM := hid (PM.out.step bx); replace OM := hid (OM.out.step bx); replace OL := hid (OL.out.step bx); replace OO := hid (OO.out.step bx); replace HB := hid (below_then HB.out bx)
      clear bx
      go_wp2_with fail
      clear y00 y01 y02 yf0
      have hz4 := hid (show (wr.alloc (.cells #[.int .i64 i0] 3)).heap.size = wr.heap.size + 1 by simp)
      generalize wr.alloc (.cells #[.int .i64 i0] 3) = W4 at *
      have hlen := hid OL.out.len
      have hpk : PkIn ls.length [(i0 : Int)] := fun i hi => by rw [List.mem_singleton] at hi; subst hi; rw [hlen.out]; omega
      obtain ⟨NN2, S2, ls2, hF, hl2, hT2⟩ := HT.out.playF (by rw [hlen.out]; omega) hpk
      have hone := held_one (tkM NN S) ls i0
      obtain ⟨hd, hhd⟩ : ∃ h, h = heldF (tkM NN S) ls [(i0 : Int)] := ⟨_, rfl⟩
      rw [← hhd] at hF hT2 hone
      have HF := hid hF; have HT2 := hid hT2; have HL2 := hid hl2
      clear hpk hF hT2 hl2 hhd
      refine (spplay_any A1 n1 c1 B1 k1 d1 false (tkM NN S).1 (tkM NN S).2.1 L N cl ls _ 1 1 [(i0 : Int)] W4 OM.out.mem (OL.out.sm.mono (Nat.zero_le _) (Nat.le_refl _)) (by omega) (HL.out.mono (Nat.zero_le _) (Nat.le_refl _)) (by omega)).mono ?_
      rw [show (((tkM NN S).1, (tkM NN S).2.1, false) : MSt) = tkM NN S from rfl, HF.out]
      rintro e w5 ⟨A5, n5, c5, B5, k5, d5, L5, nl5, cl5, G5, ng5, cg5, rfl, om, ol, og, hb⟩
      dsimp only at om ol og
      obtain rfl : N = nl5 := by rw [← ol.len, HL2.out, hlen.out]
      have hs5 := hid (show wr.heap.size + 1 ≤ w5.heap.size by have := hb.size; have := hz4.out; omega)
      have hsr := hid (show w.heap.size ≤ W4.heap.size from HB.out.size)
      have hrr := hid (show w2.heap.size < wr.heap.size from HRL.out)
      clear HL HT OM OL
      replace PM := hid (PM.out.step hb); replace OO := hid (OO.out.step hb); replace HB := hid (below_then HB.out hb)
      have OM := hid (om.mono hsr.out); have OL := hid (ol.mono hsr.out); have OG := hid (og.mono hsr.out)
      clear om ol og hb
      have bx := below_box w5 (.cells (mcs A5 n5 c5 B5 k5 d5 (tkM NN2 S2).2.2) 25)
      replace PM := hid (PM.out.step bx); replace OO := hid (OO.out.step bx); replace OM := hid (OM.out.step bx); replace OL := hid (OL.out.step bx); replace OG := hid (OG.out.step bx); replace HB := hid (below_then HB.out bx)
      clear bx
      have PN := hid (Blk.new w5 25 (mcs A5 n5 c5 B5 k5 d5 (tkM NN2 S2).2.2))
      go_upto_region 12 with fail
      have hz6 := hid (show (w5.alloc (.cells (mcs A5 n5 c5 B5 k5 d5 (tkM NN2 S2).2.2) 25)).heap.size = w5.heap.size + 1 by simp)
      generalize w5.alloc (.cells (mcs A5 n5 c5 B5 k5 d5 (tkM NN2 S2).2.2) 25) = W6 at *
      have hh1 : ¬ (1 : Int) < (ng5 : Int) := by have := OG.out.len; omega
      have hh2 : ¬ 1 < ng5 := by have := OG.out.len; omega
      replace PN := hid (show Blk W6 w5.heap.size 25 (mcs A5 n5 c5 B5 k5 d5 false) from PN.out)
      obtain ⟨y00, y01, y02, yf0⟩ := PN.out.cells3
      obtain ⟨y10, y11, y12, yf1⟩ := PM.out.cells3
      go_upto_region 15 with fail
      clear y00 y01 y02 yf0 y10 y11 y12 yf1 hh1 hh2
      have PX := PM
      have hbk0 : Blk (W6.setCell ⟨w2.heap.size, 0, none⟩ (.slice A5 n5 c5)) (w2.heap.size) 25 #[.slice A5 n5 c5, .slice B1 k1 d1, .bool false] := PM.out.setCell 0 (.slice A5 n5 c5)
      have hbk1 : Blk ((W6.setCell ⟨w2.heap.size, 0, none⟩ (.slice A5 n5 c5)).setCell ⟨w2.heap.size, 1, none⟩ (.slice B5 k5 d5)) (w2.heap.size) 25 #[.slice A5 n5 c5, .slice B5 k5 d5, .bool false] := hbk0.setCell 1 (.slice B5 k5 d5)
      have hbk2 : Blk (((W6.setCell ⟨w2.heap.size, 0, none⟩ (.slice A5 n5 c5)).setCell ⟨w2.heap.size, 1, none⟩ (.slice B5 k5 d5)).setCell ⟨w2.heap.size, 2, none⟩ (.bool false)) (w2.heap.size) 25 #[.slice A5 n5 c5, .slice B5 k5 d5, .bool false] := hbk1.setCell 2 (.bool false)
      have hgr : W6.grownBy (((W6.setCell ⟨w2.heap.size, 0, none⟩ (.slice A5 n5 c5)).setCell ⟨w2.heap.size, 1, none⟩ (.slice B5 k5 d5)).setCell ⟨w2.heap.size, 2, none⟩ (.bool false)) (some (w2.heap.size)) := (grown_set (grown_set (grown_set (World.grownBy.refl W6 (some (w2.heap.size))) 0 (.slice A5 n5 c5)) 1 (.slice B5 k5 d5)) 2 (.bool false))
      replace PM := hid hbk2
      clear hbk0 hbk1 hbk2
      generalize ((W6.setCell ⟨w2.heap.size, 0, none⟩ (.slice A5 n5 c5)).setCell ⟨w2.heap.size, 1, none⟩ (.slice B5 k5 d5)).setCell ⟨w2.heap.size, 2, none⟩ (.bool false) = W7 at *
      replace OM := hid (mown_kept OM.out PX.out (by decide) (by decide) hgr)
      replace OL := hid (OL.out.keptG hgr (fun v hv e => OL.out.ne_blk PX.out (by decide) v hv (by simpa using e)))
      replace OO := hid (OO.out.keptG hgr (fun v hv e => OO.out.ne_blk PX.out (by decide) v hv (by simpa using e)))
      replace OG := hid (OG.out.keptG hgr (fun v hv e => OG.out.ne_blk PX.out (by decide) v hv (by simpa using e)))
      replace HB := hid (HB.out.grown hgr HB.out.size (fun r e => by cases e; have := hs2.out; omega))
      clear hgr PX PN
      obtain ⟨i1, hi1, hz10, hz11, hz12⟩ := info_parts info_int
      have hlo := hid (show od.length = no from OO.out.len)
      have hlh := hid (show hd.length = ng5 from OG.out.len)
      have hno := hid (show no + ng5 ≤ 5 by
        have h := HT2.out.lenl
        rw [List.length_append, hlo.out, hlh.out, HL2.out, hlen.out] at h; omega)
      go_wp2_with (at_builtin; refine wpList_app i64 0 _ rfl _ _ 27 rfl w.heap.size 3 i1 _ 8 Try.underlying27 hi1 hz10 hz11 hz12 rfl O no co od rfl OO.out w.heap.size _ G5 ng5 cg5 hd rfl OG.out.sl (fun _ => rfl) (by have := hno.out; simp only [maxLen]; omega) (by have := hno.out; omega) HB.out.size ?_; intro O8 co8 w8 hown hgr hat)
      replace PM := hid (PM.out.keptO OO.out (by decide) hgr)
      replace OM := hid (show Mown w8 w.heap.size A5 n5 c5 B5 k5 d5 _ _ from ⟨OM.out.oa.keptO OO.out (by decide) hgr, OM.out.ob.keptO OO.out (by decide) hgr, OM.out.apart, OM.out.hn, OM.out.hm⟩)
      replace OL := hid (OL.out.keptO OO.out (by decide) hgr)
      replace HB := hid (HB.out.grown hgr HB.out.size (fun k hk => OO.out.row_ge k hk))
      replace OO := hid hown
      have H8 := hid (Below.refl w8.heap.size w8)
      clear hown hgr hat OG
      go_loopw [15, 83] (fun c i wr => ∃ k : Nat, k ≤ N ∧ i = .int .i64 k ∧ c = .int .i64 (inC ls2 k) ∧ Below w8.heap.size w8 wr) (fun _ i _ => N - (intOf i).toNat)
      case atStart => exact ⟨0, Nat.zero_le _, rfl, rfl, H8.out⟩
      case round =>
        obtain ⟨k, hk, rfl, rfl, hbr⟩ := hrel
        clear H8
        have HBR := hid hbr
        clear hbr
        by_cases hkn : k < N
        rotate_left
        · obtain rfl : k = N := by omega
          have hnn : ¬ ((k : Int) < (k : Int)) := by omega
          have hin := hid (show inC ls2 k ≤ 1 from (HT2.out.inC_le k (by rw [HL2.out, hlen.out]; exact Nat.le_refl _)).1)
          have hin2 : ¬ (1 : Int) < (inC ls2 k : Int) := by have := hin.out; omega
          have hin3 : ¬ 1 < inC ls2 k := by have := hin.out; omega
          have hw1 : IntKind.i64.wrap ((j : Int) + 1) = (j : Int) + 1 := by rw [IntKind.wrap_i64]; omega
          go_wp2_with fail
          go_roundw
          case rel => exact ⟨j + 1, L5, cl5, O8, no + ng5, co8, by omega, by omega, by go_num, rfl, rfl, QSa.step ⟨⟨_, _, _, _, _, _, NN2, S2, ls2, _, PM.out, OM.out, OL.out, OO.out, HT2.out⟩, HB.out⟩ HBR.out⟩
          case measure => simp [intOf]; omega
        have hki : (k : Int) < (N : Int) := by omega
        have hsm : Sm 3 encS (0, 0, 0) wr 0 wr.heap.size L5 N ls2 := (OL.out.step HBR.out).sm.mono (Nat.zero_le _) (Nat.le_refl _)
        obtain ⟨b5, off5, rfl, _, _, hc5⟩ := hsm.row (by omega)
        obtain ⟨f0, f1, f2⟩ := Sm.spn hc5 hkn
        obtain ⟨⟨sa, sp, stt⟩, hx⟩ : ∃ x, x = ls2[k]?.getD (0, 0, 0) := ⟨_, rfl⟩
        rw [← hx] at f0 f1 f2
        have HX := hid (show gS ls2 k = (sa, sp, stt) from hx.symm)
        have hws : IntKind.i64.wrap ((inC ls2 k : Int) + 1) = (inC ls2 k : Int) + 1 := by
          have := (HT2.out.inC_le k (by rw [HL2.out, hlen.out]; exact hk)).1
          rw [IntKind.wrap_i64]; omega
        have hwk : IntKind.i64.wrap ((k : Int) + 1) = (k : Int) + 1 := by rw [IntKind.wrap_i64]; omega
        have HS := hid (inC_succ ls2 k (by rw [HL2.out, hlen.out]; exact hkn))
        clear hx hc5 hsm
        by_cases h3 : sp = 3
        · skip
          have b3 : (sp == 3) = true := by simp; omega
          have b4 : (sp == 4) = false := by simp; omega
          have hin : inC ls2 (k + 1) = inC ls2 k + 1 := by rw [HS.out, HX.out]; unfold inP; simp; omega
          have HIN := hid hin
          clear hin
          go_wp2_with fail
          go_roundw
          case rel => exact ⟨k + 1, by omega, by go_num, by rw [HIN.out]; (try rfl), below_then HBR.out (below_box _ _)⟩
          case measure => simp [intOf]; omega
        by_cases h4 : sp = 4
        · skip
          have b3 : (sp == 3) = false := by simp; omega
          have b4 : (sp == 4) = true := by simp; omega
          have hin : inC ls2 (k + 1) = inC ls2 k + 1 := by rw [HS.out, HX.out]; unfold inP; simp; omega
          have HIN := hid hin
          clear hin
          go_wp2_with fail
          go_roundw
          case rel => exact ⟨k + 1, by omega, by go_num, by rw [HIN.out]; (try rfl), below_then HBR.out (below_box _ _)⟩
          case measure => simp [intOf]; omega
        · skip
          have b3 : (sp == 3) = false := by simp; omega
          have b4 : (sp == 4) = false := by simp; omega
          have hin : inC ls2 (k + 1) = inC ls2 k + 0 := by rw [HS.out, HX.out]; unfold inP; simp; omega
          have HIN := hid hin
          clear hin
          go_wp2_with fail
          go_roundw
          case rel => exact ⟨k + 1, by omega, by go_num, by rw [HIN.out]; (try rfl), below_then HBR.out (below_box _ _)⟩
          case measure => simp [intOf]; omega
  case rest =>
    clear HST
    obtain ⟨L, cl, O, no, co, rfl, rfl, hI⟩ := hcut
    rename World => W10
    obtain ⟨⟨A1, n1, c1, B1, k1, d1, NN, S, ls, od, _, _, h3, h4, h5⟩, h6⟩ := hI
    have OL := hid h3; have OO := hid h4; have HT := hid h5; have HB := hid h6
    have hlen := hid h3.len; have hlo := hid h4.len
    have hno := hid (show no ≤ 5 by have h := h5.lenl; rw [h4.len, h3.len] at h; omega)
    have H0 := hid (Below.refl W10.heap.size W10)
    clear h3 h4 h5 h6
    go_wp2_with fail
    go_loopw [103] (fun i wr => ∃ k : Nat, k ≤ no ∧ i = .int .i64 k ∧ Below W10.heap.size W10 wr) (fun i _ => no - (intOf i).toNat)
    case atStart => exact ⟨0, Nat.zero_le _, rfl, H0.out⟩
    case round =>
      obtain ⟨k, hk, rfl, hbr⟩ := hrel
      clear H0
      have HBR := hid hbr
      clear hbr
      by_cases hkn : k < no
      rotate_left
      · obtain rfl : k = no := by omega
        have hnn : ¬ ((k : Int) < (k : Int)) := by omega
        go_wp2
        go_ret
        exact ⟨rfl, below_then HB.out HBR.out⟩
      have hki : (k : Int) < (no : Int) := by omega
      obtain ⟨t1, t2, t3, t4⟩ := HT.out.once (k := k) (by rw [hlo.out]; exact hkn)
      obtain ⟨v, hv⟩ : ∃ v, v = od[k]?.getD 0 := ⟨_, rfl⟩
      rw [← hv] at t1 t2 t3 t4
      obtain ⟨i1, rfl⟩ := Int.eq_ofNat_of_zero_le t2
      have hi1 : i1 < N := by rw [hlen.out] at t3; omega
      have OO' := hid (OO.out.step HBR.out); have OL' := hid (OL.out.step HBR.out)
      have hso := OO'.out.sl (d := (0 : Int))
      obtain ⟨bo, oo, rfl, _, _, hco⟩ := hso.row (by omega)
      have f0 := hco k hkn
      rw [← hv] at f0
      have hsm : Sm 3 encS (0, 0, 0) wr 0 wr.heap.size L N ls := OL'.out.sm.mono (Nat.zero_le _) (Nat.le_refl _)
      obtain ⟨b5, off5, rfl, _, _, hc5⟩ := hsm.row (by omega)
      obtain ⟨g0, g1, g2⟩ := Sm.spn hc5 hi1
      have e2 : (ls[i1]?.getD (0, 0, 0)).2.2 = (k : Int) := by rw [Int.toNat_natCast] at t1; exact t1
      rw [e2] at g2
      have hwu : IntKind.u64.wrap (k : Int) = (k : Int) := by have := hno.out; rw [IntKind.wrap_u64]; omega
      have hii : (i1 : Int) < (N : Int) := by omega
      have HT4 := hid t4
      have HSO := hid hso
      have hkc := hid OO'.out.cap.1
      have hkc2 : (k : Int) ≤ (co : Int) := by have := hkc.out; omega
      have hkc3 : k ≤ co := by have := hkc.out; omega
      have hw1 : IntKind.i64.wrap ((k : Int) + 1) = (k : Int) + 1 := by have := hno.out; rw [IntKind.wrap_i64]; omega
      clear hv t1 t2 t3 t4 hco hc5 hsm hso e2
      go_wp2_with fail
      clear f0 g0 g1 g2
      refine (contains_int (some ⟨bo, oo, none⟩) k co w.heap.size wr.heap.size (od.take k) (i1 : Int) wr (HSO.out.take (Nat.le_of_lt hkn)) (by have := hno.out; omega)).mono ?_
      rintro e w' ⟨rfl, rfl⟩
      rw [decide_eq_false HT4.out]
      go_wp2_with fail
      go_roundw
      case rel => exact ⟨k + 1, by omega, by go_num, HBR.out⟩
      case measure => simp [intOf]; omega
end Go.Proofs.Ytaeanmkbongfcaa
