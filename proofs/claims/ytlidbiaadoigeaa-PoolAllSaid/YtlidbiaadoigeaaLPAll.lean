/- afterglowlaw07.PoolAll returns true at every pool and row of steps, and turns nothing old. No condition but that steps are ints. -/
import Derived.Test.YtlidbiaadoigeaaPoolP
import Derived.Test.YtlidbiaadoigeaaSoN
import Derived.Test.YtlidbiaadoigeaaSlC
import Derived.Test.YtlidbiaadoigeaaCi
import Derived.Test.YtlidbiaadoigeaaKitA
import Derived.Deep.DeepCutAuto
import Derived.Deep.CutBlock
namespace Go.Proofs.Ytlidbiaadoigeaa
open Go.RowKit
/-- the pool behind some steps -/
def PAl (w0 : World) (B g : Nat) (base pages : Int) (W : World) : Prop :=
  ∃ A n c ys, Blk W g 24 #[.int .i64 base, .int .i64 pages, .slice A n c] ∧ Ow i64 W B 3 A n c ys ∧ freeB base pages ys = true ∧ Below w0.heap.size w0 W
set_option maxRecDepth 100000 in
set_option maxHeartbeats 16000000 in
theorem poolall_any (base pages : Int) (A : Option Addr) (n c : Nat) (xs : List Int) (L : Option Addr) (nl cl : Nat) (ns : List Int) (w : World) (h : Sl i64 0 w 0 w.heap.size A n xs) (hnc : n ≤ c) (hL : Sl i64 0 w 0 w.heap.size L nl ns) (hnl : nl ≤ 9223372036854775807) (hbd : ∀ y ∈ ns, -9223372036854775808 ≤ y ∧ y ≤ 9223372036854775807) :
    Calls Try.prog 6 #[pv base pages A n c, .slice L nl cl] w fun e w' => e = .returned (.bool true) ∧ Below w.heap.size w w' := by
  have HX := hid h; have HL := hid hL; have HB := hid (Below.refl w.heap.size w); have HBD := hid hbd
  clear h hL hbd
  have bx := below_box w (.cells #[.int .i64 base, .int .i64 pages, .slice A n c] 24)
  replace HX := hid (HX.out.step bx); replace HB := hid (below_then HB.out bx)
  clear bx
  have P0 := hid (Blk.new w 24 #[.int .i64 base, .int .i64 pages, .slice A n c])
  go_enter Try.func6, Try.ntmps6
  go_wp2_with fail
  have hz0 := hid (show (w.alloc (.cells #[.int .i64 base, .int .i64 pages, .slice A n c] 24)).heap.size = w.heap.size + 1 by simp)
  generalize w.alloc (.cells #[.int .i64 base, .int .i64 pages, .slice A n c] 24) = W0 at *
  refine (wakes_any W0).mono ?_
  rintro e w1 ⟨rfl, hb⟩
  replace HX := hid (HX.out.step hb); replace P0 := hid (P0.out.step hb); replace HB := hid (below_then HB.out hb)
  clear hb
  obtain ⟨y00, y01, y02, yf0⟩ := P0.out.cells3
  go_wp2_with fail
  clear y00 y01 y02 yf0
  refine (own_any base pages A n c 0 xs w1 HX.out hnc).mono ?_
  rintro e w2 ⟨A2, c2, rfl, ho, hb⟩
  obtain ⟨m, hm⟩ : ∃ m, m = min n 70 := ⟨_, rfl⟩
  obtain ⟨ys, hys⟩ : ∃ ys, ys = xs.take 70 := ⟨_, rfl⟩
  rw [← hm, ← hys] at ho
  rw [← hm]
  have hm70 : m ≤ 70 := by omega
  have HO := hid (ho.mono (show w.heap.size ≤ _ from HB.out.size))
  clear ho hm hys
  clear HX
  replace P0 := hid (P0.out.step hb); replace HB := hid (below_then HB.out hb)
  clear hb
  have hg5 := hid HB.out.size
  have bx := below_box w2 (.cells #[.int .i64 base, .int .i64 pages, .slice A2 m c2] 24)
  replace P0 := hid (P0.out.step bx); replace HO := hid (HO.out.step bx); replace HB := hid (below_then HB.out bx)
  clear bx
  have P5 := hid (Blk.new w2 24 #[.int .i64 base, .int .i64 pages, .slice A2 m c2])
  have hP5 := hid (show w2.heap.size < (w2.alloc (.cells #[.int .i64 base, .int .i64 pages, .slice A2 m c2] 24)).heap.size by simp)
  go_wp2_with fail
  generalize w2.alloc (.cells #[.int .i64 base, .int .i64 pages, .slice A2 m c2] 24) = W3 at *
  by_cases hf : freeB base pages ys = true
  rotate_left
  · have HF := hid (Bool.eq_false_iff.2 hf)
    have HT := hid (show takenL base pages ys = [] from if_neg hf)
    obtain ⟨y00, y01, y02, yf0⟩ := P5.out.cells3
    skip
    refine (check_no base pages A2 m c2 0 ys W3 ((HO.out.sl (d := 0)).mono (Nat.zero_le _) (Nat.le_refl _)) (by omega) HF.out).mono ?_
    rintro e w4 ⟨rfl, hb⟩
    clear y00 y01 y02 yf0
    replace P0 := hid (P0.out.step hb); replace HO := hid (HO.out.step hb); replace P5 := hid (P5.out.step hb); replace HB := hid (below_then HB.out hb)
    clear hb
    obtain ⟨y00, y01, y02, yf0⟩ := P5.out.cells3
    go_wp2_with fail
    clear y00 y01 y02 yf0
    refine (taken_any base pages A2 m c2 0 ys w4 ((HO.out.sl (d := 0)).mono (Nat.zero_le _) (Nat.le_refl _)) (by omega)).mono ?_
    rintro e w5 ⟨A5, m5, c5, rfl, ho, hb⟩
    rw [HT.out] at ho
    obtain rfl : m5 = 0 := ho.len.symm
    replace P0 := hid (P0.out.step hb); replace HO := hid (HO.out.step hb); replace P5 := hid (P5.out.step hb); replace HB := hid (below_then HB.out hb)
    clear hb ho
    go_wp2
    refine bodyPost_ret (v := .bool true) (by simp [results, Try.results6, go_sem]) rfl ⟨rfl, HB.out⟩
  have HF := hid hf
  clear hf
  refine (check_yes base pages A2 m c2 0 ys W3 ((HO.out.sl (d := 0)).mono (Nat.zero_le _) (Nat.le_refl _)) (by omega) HF.out).mono ?_
  rintro e w4 ⟨rfl, hb⟩
  replace P0 := hid (P0.out.step hb); replace HO := hid (HO.out.step hb); replace P5 := hid (P5.out.step hb); replace HB := hid (below_then HB.out hb)
  clear hb
  have hsz := sizedB_iff.1 (freeB_sized HF.out)
  obtain ⟨p, rfl⟩ := Int.eq_ofNat_of_zero_le (show 0 ≤ pages by omega)
  have hp64 : p ≤ 64 := by omega
  have hp0 : (0 : Int) ≤ (p : Int) := by omega
  have HI := hid (show PAl w w.heap.size w2.heap.size base (p : Int) w4 from ⟨A2, m, c2, ys, P5.out, HO.out, HF.out, HB.out⟩)
  clear HF P5 HO hsz P0 hP5
  go_wp2_with fail
  clear HB
  go_loopw [34] (fun v wr => ∃ i : Nat, i ≤ nl ∧ v = .int .i64 i ∧ PAl w w.heap.size w2.heap.size base (p : Int) wr) (fun v _ => nl - (intOf v).toNat)
  case atStart => exact ⟨0, Nat.zero_le _, rfl, HI.out⟩
  case round =>
    clear HI
    obtain ⟨i, hi, rfl, A3, n3, c3, us, h1, h2, h3, h4⟩ := hrel
    have P5 := hid h1; have HO := hid h2; have HF := hid h3; have HB := hid h4
    clear h1 h2 h3 h4
    by_cases hin : i < nl
    rotate_left
    · obtain rfl : i = nl := by omega
      have hnn : ¬ ((i : Int) < (i : Int)) := by omega
      go_wp2
      refine bodyPost_ret (v := .bool true) (by simp [results, Try.results6, go_sem]) rfl ⟨rfl, HB.out⟩
    have hii : (i : Int) < (nl : Int) := by omega
    have hwi : IntKind.i64.wrap ((i : Int) + 1) = (i : Int) + 1 := by rw [IntKind.wrap_i64]; omega
    obtain ⟨b, off, rfl, _, hbh, hc⟩ := HL.out.row (by omega)
    obtain ⟨x, hx⟩ : ∃ x, x = ns[i]?.getD 0 := ⟨_, rfl⟩
    have f0 := (HB.out.cell (p := ⟨b, off + i, none⟩) hbh).trans (hc i hin)
    rw [← hx] at f0
    clear hc
    by_cases h30 : i = 30
    · subst h30
      go_wp2
      refine bodyPost_ret (v := .bool true) (by simp [results, Try.results6, go_sem]) rfl ⟨rfl, HB.out⟩
    have d30 : ((i : Int) == 30) = false := by simp; omega
    have hgd := (free_parts.1 HF.out).2
    have hgl := good_len hp0 hgd
    rw [Int.toNat_natCast] at hgl
    have hn3 := hid HO.out.len
    have HGD := hid hgd
    have HTK := hid (show takenL base (p : Int) us = filtL us p from if_pos HF.out)
    have hn64 : n3 ≤ 64 := by have := hn3.out; omega
    have hcp := HO.out.cap.1
    have HXB := hid (show x < 0 → True from fun _ => trivial)
    clear hx hgd
    obtain ⟨y00, y01, y02, yf0⟩ := P5.out.cells3
    go_wp2_with fail
    clear f0 y00 y01 y02 yf0
    refine (taken_any base (p : Int) A3 n3 c3 0 us wr ((HO.out.sl (d := 0)).mono (Nat.zero_le _) (Nat.le_refl _)) (by omega)).mono ?_
    rintro e w5 ⟨At, mt, ct, rfl, ho, hb⟩
    rw [HTK.out] at ho
    have OT := hid ho
    have hmt := hid (show n3 + mt = p by rw [← hn3.out, ← OT.out.len]; exact hgl)
    clear ho hgl
    replace P5 := hid (P5.out.step hb); replace HO := hid (HO.out.step hb); replace HB := hid (below_then HB.out hb)
    clear hb
    skip
    go_upto_if 44 with fail
    go_cut [] (fun wx => PAl w w.heap.size w2.heap.size base (p : Int) wx)
    case first =>
      by_cases hx0 : x < 0
      · have dx : decide (x < 0) = true := decide_eq_true hx0
        obtain ⟨y00, y01, y02, yf0⟩ := P5.out.cells3
        go_wp2_with fail
        clear y00 y01 y02 yf0
        rcases List.eq_nil_or_concat us with hu | ⟨us', pg, hu⟩
        · subst hu
          obtain rfl : n3 = 0 := hn3.out.symm
          refine (take_no base (p : Int) A3 0 c3 0 [] w5 ((HO.out.sl (d := 0)).mono (Nat.zero_le _) (Nat.le_refl _)) (by omega) (by omega) 6 (by rw [takeE, if_pos HF.out, if_pos rfl]) (by omega)).mono ?_
          rintro e w6 ⟨A6, c6, rfl, ho, hb⟩
          clear ho
          replace P5 := hid (P5.out.step hb); replace HO := hid (HO.out.step hb); replace OT := hid (OT.out.step hb); replace HB := hid (below_then HB.out hb)
          clear hb
          have bx := below_box w6 (.cells #[.int .i64 0, .int .i64 0, .slice A6 0 c6] 24)
          replace P5 := hid (P5.out.step bx); replace HO := hid (HO.out.step bx); replace OT := hid (OT.out.step bx); replace HB := hid (below_then HB.out bx)
          clear bx
          have P9 := hid (Blk.new w6 24 #[.int .i64 0, .int .i64 0, .slice A6 0 c6])
          have hP9 := hid (show w6.heap.size < (w6.alloc (.cells #[.int .i64 0, .int .i64 0, .slice A6 0 c6] 24)).heap.size by simp)
          obtain ⟨y00, y01, y02, yf0⟩ := P5.out.cells3
          obtain rfl : mt = p := by have := hmt.out; omega
          go_wp2_with fail
          go_roundw
          case rel => exact ⟨i + 1, by omega, by go_num, A3, 0, c3, [], P5.out, HO.out, HF.out, HB.out⟩
          case measure => simp [intOf]; omega
        rw [List.concat_eq_append] at hu
        subst hu
        obtain ⟨hg1, hg2, hg3⟩ := good_cut HGD.out
        obtain ⟨n4, rfl⟩ : ∃ k, n3 = k + 1 := ⟨n3 - 1, by have := hn3.out; rw [List.length_append] at this; simp at this; omega⟩
        have hu4 := hid (show us'.length = n4 by have := hn3.out; rw [List.length_append] at this; simpa using this)
        have HF4 := hid (show freeB base (p : Int) us' = true from free_parts.2 ⟨freeB_sized HF.out, hg1⟩)
        have HG3 := hid hg3; have HG2 := hid hg2
        clear hg1 hg2 hg3
        refine (take_ok base (p : Int) A3 (n4 + 1) c3 0 n4 (us' ++ [pg]) us' pg w5 ((HO.out.sl (d := 0)).mono (Nat.zero_le _) (Nat.le_refl _)) (by omega) (by omega) HF.out rfl hu4.out).mono ?_
        rintro e w6 ⟨A6, c6, rfl, ho, hb⟩
        have O6 := hid (ho.mono (show w.heap.size ≤ _ from HB.out.size))
        clear ho
        replace P5 := hid (P5.out.step hb); replace HO := hid (HO.out.step hb); replace OT := hid (OT.out.step hb); replace HB := hid (below_then HB.out hb)
        clear hb
        have bx := below_box w6 (.cells #[.int .i64 base, .int .i64 (p : Int), .slice A6 n4 c6] 24)
        replace P5 := hid (P5.out.step bx); replace HO := hid (HO.out.step bx); replace OT := hid (OT.out.step bx); replace O6 := hid (O6.out.step bx); replace HB := hid (below_then HB.out bx)
        clear bx
        have P9 := hid (Blk.new w6 24 #[.int .i64 base, .int .i64 (p : Int), .slice A6 n4 c6])
        have hP9 := hid (show w6.heap.size < (w6.alloc (.cells #[.int .i64 base, .int .i64 (p : Int), .slice A6 n4 c6] 24)).heap.size by simp)
        go_wp2_with fail
        generalize w6.alloc (.cells #[.int .i64 base, .int .i64 (p : Int), .slice A6 n4 c6] 24) = W7 at *
        refine (contains_int At mt ct 0 _ (filtL (us' ++ [pg]) p) pg W7 ((OT.out.sl (d := 0)).mono (Nat.zero_le _) (Nat.le_refl _)) (by have := hmt.out; omega)).mono ?_
        rintro e W7' ⟨rfl, rfl⟩
        rw [decide_eq_false (fun h => (mem_filtL.1 h).2 (List.mem_append_right _ (List.mem_singleton.2 rfl)))]
        obtain ⟨y00, y01, y02, yf0⟩ := P9.out.cells3
        go_wp2_with fail
        clear y00 y01 y02 yf0
        refine (taken_any base (p : Int) A6 n4 c6 0 us' W7' ((O6.out.sl (d := 0)).mono (Nat.zero_le _) (Nat.le_refl _)) (by omega)).mono ?_
        rintro e w8 ⟨A8, m8, c8, rfl, ho, hb⟩
        rw [show takenL base (p : Int) us' = filtL us' p from if_pos HF4.out] at ho
        have O8 := hid ho
        have hm8 := hid (show m8 ≤ 64 by have h := good_len hp0 (free_parts.1 HF4.out).2; rw [Int.toNat_natCast] at h; have := ho.len; omega)
        clear ho
        replace P5 := hid (P5.out.step hb); replace HO := hid (HO.out.step hb); replace OT := hid (OT.out.step hb); replace O6 := hid (O6.out.step hb); replace P9 := hid (P9.out.step hb); replace HB := hid (below_then HB.out hb)
        clear hb
        go_wp2_with fail
        refine (contains_int A8 m8 c8 0 _ (filtL us' p) pg w8 ((O8.out.sl (d := 0)).mono (Nat.zero_le _) (Nat.le_refl _)) (by have := hm8.out; omega)).mono ?_
        rintro e w9 ⟨rfl, rfl⟩
        rw [decide_eq_true (mem_filtL.2 ⟨HG2.out, HG3.out⟩)]
        obtain ⟨y00, y01, y02, yf0⟩ := P9.out.cells3
        obtain ⟨y10, y11, y12, yf1⟩ := P5.out.cells3
        go_wp2
        clear y00 y01 y02 yf0 y10 y11 y12 yf1
        have PX := P5
        have hbk0 : Blk (w9.setCell ⟨w2.heap.size, 0, none⟩ (.int .i64 base)) (w2.heap.size) 24 #[.int .i64 base, .int .i64 (p : Int), .slice A3 (n4 + 1) c3] := P5.out.setCell 0 (.int .i64 base)
        have hbk1 : Blk ((w9.setCell ⟨w2.heap.size, 0, none⟩ (.int .i64 base)).setCell ⟨w2.heap.size, 1, none⟩ (.int .i64 (p : Int))) (w2.heap.size) 24 #[.int .i64 base, .int .i64 (p : Int), .slice A3 (n4 + 1) c3] := hbk0.setCell 1 (.int .i64 (p : Int))
        have hbk2 : Blk (((w9.setCell ⟨w2.heap.size, 0, none⟩ (.int .i64 base)).setCell ⟨w2.heap.size, 1, none⟩ (.int .i64 (p : Int))).setCell ⟨w2.heap.size, 2, none⟩ (.slice A6 n4 c6)) (w2.heap.size) 24 #[.int .i64 base, .int .i64 (p : Int), .slice A6 n4 c6] := hbk1.setCell 2 (.slice A6 n4 c6)
        have hgr : w9.grownBy (((w9.setCell ⟨w2.heap.size, 0, none⟩ (.int .i64 base)).setCell ⟨w2.heap.size, 1, none⟩ (.int .i64 (p : Int))).setCell ⟨w2.heap.size, 2, none⟩ (.slice A6 n4 c6)) (some (w2.heap.size)) := (grown_set (grown_set (grown_set (World.grownBy.refl w9 (some (w2.heap.size))) 0 (.int .i64 base)) 1 (.int .i64 (p : Int))) 2 (.slice A6 n4 c6))
        replace P5 := hid hbk2
        clear hbk0 hbk1 hbk2
        generalize ((w9.setCell ⟨w2.heap.size, 0, none⟩ (.int .i64 base)).setCell ⟨w2.heap.size, 1, none⟩ (.int .i64 (p : Int))).setCell ⟨w2.heap.size, 2, none⟩ (.slice A6 n4 c6) = Wf at *
        replace O6 := hid (O6.out.keptG hgr (fun v hv e => O6.out.ne_blk PX.out (by decide) v hv (by simpa using e)))
        replace HB := hid (HB.out.grown hgr HB.out.size (fun r e => by cases e; exact hg5.out))
        clear hgr
        go_meet
        exact ⟨A6, n4, c6, us', P5.out, O6.out, HF4.out, HB.out⟩
      have dx : decide (x < 0) = false := decide_eq_false hx0
      have hmt2 := hmt.out
      by_cases hm0 : mt = 0
      · have hmi : ¬ (0 : Int) < (mt : Int) := by omega
        clear hm0
        go_wp2
        go_meet
        exact ⟨A3, n3, c3, us, P5.out, HO.out, HF.out, HB.out⟩
      have hmi : (0 : Int) < (mt : Int) := by omega
      obtain ⟨k, hk⟩ : ∃ k : Nat, k = (x.tmod (mt : Int)).toNat := ⟨_, rfl⟩
      have hk1 := Int.tmod_nonneg (mt : Int) (show 0 ≤ x by omega)
      have hk2 := Int.tmod_lt_of_pos x hmi
      have hkt : x.tmod (mt : Int) = (k : Int) := by omega
      have hkm : k < mt := by omega
      have hki : (k : Int) < (mt : Int) := by omega
      have hwk : IntKind.i64.wrap (k : Int) = (k : Int) := by rw [IntKind.wrap_i64]; omega
      have hmz : ((mt : Int) == 0) = false := by simp; omega
      have hmz' : ¬ (mt : Int) = 0 := by omega
      obtain ⟨gT, rfl, _, _, f1, _⟩ := OT.out.at_ 0 hkm
      obtain ⟨pg, hpg⟩ : ∃ pg, pg = (filtL us p)[k]?.getD 0 := ⟨_, rfl⟩
      rw [← hpg] at f1
      have hin2 : pg ∈ filtL us p := by
        have h := OT.out.len
        rw [hpg, List.getElem?_eq_getElem (by omega)]; exact List.getElem_mem _
      have HM := hid (mem_filtL.1 hin2)
      have HGE := hid (give_one (p := (p : Int)) HM.out.1.1 HM.out.1.2 HM.out.2)
      have HF4 := hid (show freeB base (p : Int) (us ++ [pg]) = true from free_parts.2 ⟨freeB_sized HF.out, good_put HGD.out HM.out.1.1 HM.out.1.2 HM.out.2⟩)
      clear hk hk1 hk2 hpg hin2
      obtain ⟨y00, y01, y02, yf0⟩ := P5.out.cells3
      have LG := hid (Sl.lit (enc := i64) (d := 0) (w := w5) (e := 3) (g := w5.heap.size) [pg] (#[.int .i64 pg]) (by simp) (by simp))
      have bx := below_box w5 (.cells #[.int .i64 pg] 3)
      replace P5 := hid (P5.out.step bx); replace HO := hid (HO.out.step bx); replace OT := hid (OT.out.step bx); replace HB := hid (below_then HB.out bx)
      clear bx
      go_wp2_with fail
      clear f1 y00 y01 y02 yf0
      generalize w5.alloc (.cells #[.int .i64 pg] 3) = W6 at *
      refine (give_ok base (p : Int) A3 _ n3 c3 0 1 1 0 us [pg] W6 ((HO.out.sl (d := 0)).mono (Nat.zero_le _) (Nat.le_refl _)) LG.out (by omega) (by omega) HF.out HGE.out).mono ?_
      rintro e w7 ⟨A7, c7, rfl, ho, hb⟩
      have O7 := hid (ho.mono (show w.heap.size ≤ _ from HB.out.size))
      clear ho LG
      replace P5 := hid (P5.out.step hb); replace HO := hid (HO.out.step hb); replace OT := hid (OT.out.step hb); replace HB := hid (below_then HB.out hb)
      clear hb
      have bx := below_box w7 (.cells #[.int .i64 base, .int .i64 (p : Int), .slice A7 (n3 + 1) c7] 24)
      replace P5 := hid (P5.out.step bx); replace HO := hid (HO.out.step bx); replace OT := hid (OT.out.step bx); replace O7 := hid (O7.out.step bx); replace HB := hid (below_then HB.out bx)
      clear bx
      have PG := hid (Blk.new w7 24 #[.int .i64 base, .int .i64 (p : Int), .slice A7 (n3 + 1) c7])
      have hPG := hid (show w7.heap.size < (w7.alloc (.cells #[.int .i64 base, .int .i64 (p : Int), .slice A7 (n3 + 1) c7] 24)).heap.size by simp)
      go_wp2_with fail
      generalize w7.alloc (.cells #[.int .i64 base, .int .i64 (p : Int), .slice A7 (n3 + 1) c7] 24) = W8 at *
      have hcap7 := O7.out.cap.1
      refine (take_ok base (p : Int) A7 (n3 + 1) c7 0 n3 (us ++ [pg]) us pg W8 ((O7.out.sl (d := 0)).mono (Nat.zero_le _) (Nat.le_refl _)) (by omega) (by omega) HF4.out rfl hn3.out).mono ?_
      rintro e w9 ⟨A9, c9, rfl, ho, hb⟩
      have O9 := hid (ho.mono (show w.heap.size ≤ _ from HB.out.size))
      clear ho
      replace P5 := hid (P5.out.step hb); replace HO := hid (HO.out.step hb); replace OT := hid (OT.out.step hb); replace O7 := hid (O7.out.step hb); replace PG := hid (PG.out.step hb); replace HB := hid (below_then HB.out hb)
      clear hb
      have bx := below_box w9 (.cells #[.int .i64 base, .int .i64 (p : Int), .slice A9 n3 c9] 24)
      replace P5 := hid (P5.out.step bx); replace HO := hid (HO.out.step bx); replace OT := hid (OT.out.step bx); replace O7 := hid (O7.out.step bx); replace PG := hid (PG.out.step bx); replace O9 := hid (O9.out.step bx); replace HB := hid (below_then HB.out bx)
      clear bx
      have PB := hid (Blk.new w9 24 #[.int .i64 base, .int .i64 (p : Int), .slice A9 n3 c9])
      have hPB := hid (show w9.heap.size < (w9.alloc (.cells #[.int .i64 base, .int .i64 (p : Int), .slice A9 n3 c9] 24)).heap.size by simp)
      obtain ⟨y00, y01, y02, yf0⟩ := P5.out.cells3
      obtain ⟨y10, y11, y12, yf1⟩ := PB.out.cells3
      go_wp2_with fail
      clear y00 y01 y02 yf0 y10 y11 y12 yf1
      generalize w9.alloc (.cells #[.int .i64 base, .int .i64 (p : Int), .slice A9 n3 c9] 24) = W10 at *
      refine (same_any base (p : Int) base (p : Int) A9 A3 n3 c9 n3 c3 0 0 us us W10 ((O9.out.sl (d := 0)).mono (Nat.zero_le _) (Nat.le_refl _)) ((HO.out.sl (d := 0)).mono (Nat.zero_le _) (Nat.le_refl _)) (by omega) (by omega)).mono ?_
      rintro e w11 ⟨rfl, hb⟩
      rw [show sameB base (p : Int) us base (p : Int) us = true from decide_eq_true ⟨rfl, rfl, rfl⟩]
      replace P5 := hid (P5.out.step hb); replace HO := hid (HO.out.step hb); replace OT := hid (OT.out.step hb); replace O7 := hid (O7.out.step hb); replace PG := hid (PG.out.step hb); replace O9 := hid (O9.out.step hb); replace PB := hid (PB.out.step hb); replace HB := hid (below_then HB.out hb)
      clear hb
      obtain ⟨y00, y01, y02, yf0⟩ := PG.out.cells3
      obtain ⟨y10, y11, y12, yf1⟩ := P5.out.cells3
      go_wp2
      clear y00 y01 y02 yf0 y10 y11 y12 yf1
      have PX := P5
      have hbk0 : Blk (w11.setCell ⟨w2.heap.size, 0, none⟩ (.int .i64 base)) (w2.heap.size) 24 #[.int .i64 base, .int .i64 (p : Int), .slice A3 n3 c3] := P5.out.setCell 0 (.int .i64 base)
      have hbk1 : Blk ((w11.setCell ⟨w2.heap.size, 0, none⟩ (.int .i64 base)).setCell ⟨w2.heap.size, 1, none⟩ (.int .i64 (p : Int))) (w2.heap.size) 24 #[.int .i64 base, .int .i64 (p : Int), .slice A3 n3 c3] := hbk0.setCell 1 (.int .i64 (p : Int))
      have hbk2 : Blk (((w11.setCell ⟨w2.heap.size, 0, none⟩ (.int .i64 base)).setCell ⟨w2.heap.size, 1, none⟩ (.int .i64 (p : Int))).setCell ⟨w2.heap.size, 2, none⟩ (.slice A7 (n3 + 1) c7)) (w2.heap.size) 24 #[.int .i64 base, .int .i64 (p : Int), .slice A7 (n3 + 1) c7] := hbk1.setCell 2 (.slice A7 (n3 + 1) c7)
      have hgr : w11.grownBy (((w11.setCell ⟨w2.heap.size, 0, none⟩ (.int .i64 base)).setCell ⟨w2.heap.size, 1, none⟩ (.int .i64 (p : Int))).setCell ⟨w2.heap.size, 2, none⟩ (.slice A7 (n3 + 1) c7)) (some (w2.heap.size)) := (grown_set (grown_set (grown_set (World.grownBy.refl w11 (some (w2.heap.size))) 0 (.int .i64 base)) 1 (.int .i64 (p : Int))) 2 (.slice A7 (n3 + 1) c7))
      replace P5 := hid hbk2
      clear hbk0 hbk1 hbk2
      generalize ((w11.setCell ⟨w2.heap.size, 0, none⟩ (.int .i64 base)).setCell ⟨w2.heap.size, 1, none⟩ (.int .i64 (p : Int))).setCell ⟨w2.heap.size, 2, none⟩ (.slice A7 (n3 + 1) c7) = Wf at *
      replace O7 := hid (O7.out.keptG hgr (fun v hv e => O7.out.ne_blk PX.out (by decide) v hv (by simpa using e)))
      replace HB := hid (HB.out.grown hgr HB.out.size (fun r e => by cases e; exact hg5.out))
      clear hgr
      go_meet
      exact ⟨A7, (n3 + 1), c7, (us ++ [pg]), P5.out, O7.out, HF4.out, HB.out⟩
    case rest =>
      obtain ⟨A4, n4, c4, vs, h1, h2, h3, h4⟩ := hcut
      clear P5 HO HF HB OT HGD HTK hn3 hmt
      rename World => W12
      have P5 := hid h1; have HO := hid h2; have HF := hid h3; have HB := hid h4
      have hgl := good_len hp0 (free_parts.1 h3).2
      rw [Int.toNat_natCast] at hgl
      have hn4 := hid h2.len
      have HTK := hid (show takenL base (p : Int) vs = filtL vs p from if_pos h3)
      have hn64' : n4 ≤ 64 := by have := hn4.out; omega
      have HPM := hid (show (vs ++ filtL vs p).Perm ((List.range p).map fun i : Nat => (i : Int)) from by have h := free_taken hp0 (free_parts.1 h3).2; rwa [Int.toNat_natCast] at h)
      have hio := allP_iota HPM.out
      have HIO := hid (srt_iota hio.1 hio.2)
      have hall := hid hio.1
      clear h1 h2 h3 h4 hio HPM
      go_upto_region 26 with fail
      have P12 := P5; have HO12 := HO; have HB12 := HB; have H12 := hid (Below.refl W12.heap.size W12)
      have bx := (Below.refl W12.heap.size W12).drew
      replace P5 := hid (P5.out.step bx); replace HO := hid (HO.out.step bx); replace H12 := hid (below_then H12.out bx)
      clear bx
      have hszd := hid (show W12.drew.heap.size = W12.heap.size from rfl)
      refine wp_region_noPanic ?_
      refine wp_region_held_drew (S := (fun W' : World => W'.cell? ⟨w2.heap.size, 0, none⟩ = some (.int .i64 base) ∧ W'.cell? ⟨w2.heap.size, 1, none⟩ = some (.int .i64 (p : Int)) ∧ W'.cell? ⟨w2.heap.size, 2, none⟩ = some (.slice A4 n4 c4))) (by kernel_rfl) ⟨P5.out.cells3.1, P5.out.cells3.2.1, P5.out.cells3.2.2.1⟩ (fun hS => ?_)
      generalize W12.drew = Wd at *
      refine wpAnyH_take (i := 0) (v := ?_) (by simp only [List.getElem?_toArray, List.getElem?_cons_succ, List.getElem?_cons_zero]; rfl) (by kernel_rfl) (by kernel_rfl) (by kernel_rfl) (fun _ _ _ h => h) (Or.inl ⟨by rfl, ?_⟩) hS ?_
      rotate_left
      · intro w' hSw; (try dsimp only at hSw); go_split_ands; go_simp; (try with_reducible rfl)
      (try simp only [Act.put, List.setIfInBounds_toArray, List.set_cons_zero, List.set_cons_succ])
      refine wpAnyH_take (i := 1) (v := ?_) (by simp only [List.getElem?_toArray, List.getElem?_cons_succ, List.getElem?_cons_zero]; rfl) (by kernel_rfl) (by kernel_rfl) (by kernel_rfl) (fun _ _ _ h => h) (Or.inl ⟨by rfl, ?_⟩) hS ?_
      rotate_left
      · intro w' hSw; (try dsimp only at hSw); go_split_ands; go_simp; (try with_reducible rfl)
      (try simp only [Act.put, List.setIfInBounds_toArray, List.set_cons_zero, List.set_cons_succ])
      refine wpAnyH_take (i := 2) (v := ?_) (by simp only [List.getElem?_toArray, List.getElem?_cons_succ, List.getElem?_cons_zero]; rfl) (by kernel_rfl) (by kernel_rfl) (by kernel_rfl) (fun _ _ _ h => h) (Or.inl ⟨by rfl, ?_⟩) hS ?_
      rotate_left
      · intro w' hSw; (try dsimp only at hSw); go_split_ands; go_simp; (try with_reducible rfl)
      (try simp only [Act.put, List.setIfInBounds_toArray, List.set_cons_zero, List.set_cons_succ])
      refine wpAnyH_ready (rs := [3]) (by kernel_rfl) (by simp) ?_
      refine AllReadyH.cons (by simp only [List.getElem?_toArray, List.getElem?_cons_succ, List.getElem?_cons_zero]; rfl) (fun K hK => ?_) ?_
      · skip
        go_simp
        refine (taken_any base (p : Int) A4 n4 c4 0 vs _ ((HO.out.sl (d := 0)).mono (Nat.zero_le _) (Nat.le_refl _)) (by omega)).mono ?_
        rintro e ws3 ⟨At', mt', ct', rfl, ho, hb⟩
        have hsz0 := hid (show Wd.heap.size ≤ ws3.heap.size from hb.size)
        replace P5 := hid (P5.out.step hb); replace HO := hid (HO.out.step hb); replace H12 := hid (below_then H12.out hb)
        clear hb
        rw [HTK.out] at ho
        have hOT := hid ho.len
        have hmtp := hid (show mt' ≤ 64 by have := ho.len; omega)
        have OT := hid ho
        clear ho
        go_wp2_with fail
        refine hK.out _ _ ⟨P5.out.cells3.1, P5.out.cells3.2.1, P5.out.cells3.2.2.1⟩ (fun hS' => ?_)
        clear hK K hS
        have hS := hS'
        clear hS'
        (try simp only [Act.put, List.setIfInBounds_toArray, List.set_cons_zero, List.set_cons_succ])
        refine wpAnyH_ready (rs := [4]) (by kernel_rfl) (by simp) ?_
        refine AllReadyH.cons (by simp only [List.getElem?_toArray, List.getElem?_cons_succ, List.getElem?_cons_zero]; rfl) (fun K hK => ?_) ?_
        · skip
          go_simp
          refine named_alloc ?_
          intro Wa4 hbk hb hsz
          have hsz1 := hid hsz
          have HZ := hid (show W12.heap.size ≤ Wa4.heap.size by have := H12.out.size; omega)
          replace P5 := hid (P5.out.step hb); replace HO := hid (HO.out.step hb); replace OT := hid (OT.out.step hb); replace H12 := hid (below_then H12.out hb)
          have PG := hid hbk
          clear hb hbk hsz
          refine hK.out _ _ ⟨P5.out.cells3.1, P5.out.cells3.2.1, P5.out.cells3.2.2.1⟩ (fun hS' => ?_)
          clear hK K hS
          have hS := hS'
          clear hS'
          (try simp only [Act.put, List.setIfInBounds_toArray, List.set_cons_zero, List.set_cons_succ])
          refine wpAnyH_ready (rs := [5]) (by kernel_rfl) (by simp) ?_
          refine AllReadyH.cons (by simp only [List.getElem?_toArray, List.getElem?_cons_succ, List.getElem?_cons_zero]; rfl) (fun K hK => ?_) ?_
          · skip
            go_simp
            refine (concati_any A4 n4 c4 vs At' mt' ct' (filtL vs p) _ _ ((HO.out.sl (d := 0)).mono (Nat.zero_le _) (Nat.le_refl _)) ((OT.out.sl (d := 0)).mono (Nat.zero_le _) (Nat.le_refl _)) (by omega) (by have := hmtp.out; omega) PG.out).mono ?_
            rintro e ws5 ⟨R, cr, rfl, oc, hb⟩
            have hsz2 := hid (show Wa4.heap.size ≤ ws5.heap.size from hb.size)
            replace P5 := hid (P5.out.step hb); replace HO := hid (HO.out.step hb); replace OT := hid (OT.out.step hb); replace PG := hid (PG.out.step hb); replace H12 := hid (below_then H12.out hb)
            clear hb
            have OC := hid (oc.mono (show W12.heap.size ≤ _ from HZ.out))
            clear oc
            go_wp2_with fail
            refine hK.out _ _ ⟨P5.out.cells3.1, P5.out.cells3.2.1, P5.out.cells3.2.2.1⟩ (fun hS' => ?_)
            clear hK K hS
            have hS := hS'
            clear hS'
            (try simp only [Act.put, List.setIfInBounds_toArray, List.set_cons_zero, List.set_cons_succ])
            refine wpAnyH_take (i := 6) (v := ?_) (by simp only [List.getElem?_toArray, List.getElem?_cons_succ, List.getElem?_cons_zero]; rfl) (by kernel_rfl) (by kernel_rfl) (by kernel_rfl) (fun _ _ _ h => h) (Or.inl ⟨by rfl, ?_⟩) hS ?_
            rotate_left
            · intro w' hSw; (try dsimp only at hSw); go_split_ands; go_simp; (try with_reducible rfl)
            (try simp only [Act.put, List.setIfInBounds_toArray, List.set_cons_zero, List.set_cons_succ])
            refine wpAnyH_done (by kernel_rfl) ?_ _
            refine NoPanic.normal ?_
            clear hS
            go_wp2_with fail
            have hNp := hid (show n4 + mt' = p by rw [← hn4.out, ← hOT.out]; exact hgl)
            have B15 := hid (Below.refl ws5.heap.size ws5)
            refine (sort_own R (n4 + mt') cr W12.heap.size (vs ++ filtL vs p) _ OC.out (by have := hNp.out; omega) H12.out.size).mono ?_
            rintro e w15 ⟨rfl, ho, hb⟩
            have OS := hid ho
            have X12 := hid (H12.out.trans hb)
            replace P5 := hid (P12.out.step X12.out)
            replace HO := hid (HO12.out.step X12.out)
            replace HB := hid (below_then HB12.out X12.out)
            clear ho hb OC OT H12 B15 X12 hgl
            obtain ⟨N, hN⟩ : ∃ N, N = n4 + mt' := ⟨_, rfl⟩
            rw [← hN] at OS hNp ⊢
            clear hN
            go_wp2_with fail
            go_loopw [124] (fun v wr' => wr' = w15 ∧ ∃ k : Nat, k ≤ N ∧ v = .int .i64 k) (fun v _ => N - (intOf v).toNat)
            case atStart => exact ⟨rfl, 0, Nat.zero_le _, rfl⟩
            case round =>
              obtain ⟨rfl, k, hk, rfl⟩ := hrel
              by_cases hkn : k < N
              · have hki : (k : Int) < (N : Int) := by omega
                have hwk : IntKind.i64.wrap ((k : Int) + 1) = (k : Int) + 1 := by rw [IntKind.wrap_i64]; have := hNp.out; omega
                obtain ⟨gS, rfl, _, _, f1, _⟩ := OS.out.at_ 0 hkn
                rw [HIO.out k (by have := hNp.out; omega), Option.getD_some] at f1
                go_wp2
                go_roundw
                case rel => exact ⟨by trivial, k + 1, by omega, by go_num⟩
                case measure => simp [intOf]; omega
              obtain rfl : k = N := by omega
              obtain rfl : k = p := hNp.out
              have hnn : ¬ ((k : Int) < (k : Int)) := by omega
              obtain ⟨y00, y01, y02, yf0⟩ := P5.out.cells3
              go_wp2_with fail
              clear y00 y01 y02 yf0
              refine (check_yes base (k : Int) A4 n4 c4 0 vs _ ((HO.out.sl (d := 0)).mono (Nat.zero_le _) (Nat.le_refl _)) (by omega) HF.out).mono ?_
              rintro e w16 ⟨rfl, hb⟩
              replace P5 := hid (P5.out.step hb); replace HO := hid (HO.out.step hb); replace HB := hid (below_then HB.out hb)
              clear hb
              go_wp2
              go_roundw
              case rel => exact ⟨i + 1, by omega, by go_num, A4, n4, c4, vs, P5.out, HO.out, HF.out, HB.out⟩
              case measure => simp [intOf]; omega
          exact AllReadyH.nil
        exact AllReadyH.nil
      exact AllReadyH.nil
end Go.Proofs.Ytlidbiaadoigeaa
