/- package sched: rounds, as one ranges over them. No condition but sizes. -/
import Derived.Test.YtijofgbealikaaaSc18
import Derived.Test.YtijofgbealikaaaRgF
import Derived.Test.YtijofgbealikaaaKitA
import Derived.Laws.EntriesVeiled
namespace Go.Proofs.Ytijofgbealikaaa
open Go.RowKit Go.Shelf
attribute [local go_sem] Oper.semAt_some
/-- all below H but g is kept -/
def KpO (H g : Nat) (A B : World) : Prop := ∀ i, i < H → i ≠ g → B.heap[i]? = A.heap[i]?
theorem KpO.refl (H g : Nat) (A : World) : KpO H g A A := fun _ _ _ => rfl
theorem KpO.trans {H g : Nat} (A B C : World) (h : KpO H g A B) (k : KpO H g B C) : KpO H g A C := fun i hi hg => (k i hi hg).trans (h i hi hg)
theorem KpO.put {H g l : Nat} (W : World) (o : Obj) (hl : H ≤ l) : KpO H g W (W.putObj l o) := fun i hi _ => World.putObj_heap_other (by omega)
theorem KpO.ofGrown {H g : Nat} {A B : World} (h : A.grownBy B (some g)) (hA : H ≤ A.heap.size) : KpO H g A B := fun i hi hg => h.block i (by omega) (by simpa using hg)
theorem KpO.blk {H g k : Nat} {A B : World} {t : TypeId} {cs : Array Value} (h : KpO H g A B) (hb : Blk A k t cs) (hk : k < H) (hg : k ≠ g) : Blk B k t cs := (h k hk hg).trans hb
theorem KpO.sl {H g lo hi n : Nat} {A B : World} {P : Option Addr} {xs : List Int} (h : KpO H g A B) (hs : Sl i64 0 A lo hi P n xs) (hH : hi ≤ H) (hg : hi ≤ g) : Sl i64 0 B lo hi P n xs :=
  hs.keep fun b o _ e2 => by unfold World.cell?; rw [h b (by omega) (by omega)]
theorem rounds_any (c : Int) (Q : Option Addr) (nq cq : Nat) (w : World) : Calls Try.prog 33 #[.int .i64 c, .slice Q nq cq] w fun e w' => e = .returned (.func (.func 40) #[] #[ptr (w.heap.size + 1), ptr w.heap.size]) ∧ (w.alloc (.cells #[.int .i64 c] 3)).alloc (.cells #[.slice Q nq cq] 22) = w' := by
  go_enter Try.func33, Try.ntmps33
  go_wp2
  go_ret
  exact ⟨rfl, rfl⟩
set_option maxRecDepth 100000 in
set_option maxHeartbeats 8000000 in
theorem rounds_seq (M c Tp Tc hi H g : Nat) (Q : Option Addr) (nq cq : Nat) (xs : List Int) (w0 : World) (hm : 1 ≤ M) (hnq : nq ≤ 1000000) (hc : 1 ≤ c) (hc8 : c ≤ 8) (hin : ∀ x ∈ xs, 0 ≤ x ∧ x < c)
    (hbq : Blk w0 Tp 22 #[.slice Q nq cq]) (hbc : Blk w0 Tc 3 #[.int .i64 c]) (hsl : Sl i64 0 w0 0 hi Q nq xs) (hiH : hi ≤ H) (hig : hi ≤ g) (hTp : Tp < H ∧ Tp ≠ g) (hTc : Tc < H ∧ Tc ≠ g) (hH : H ≤ w0.heap.size) :
    FreshSeq Fence.wide M Try.prog 40 #[ptr Tp, ptr Tc] (fun k => #[.int .i64 ((rdP c xs nq)[k]?.getD 0)]) (rdF c xs nq).1 (KpO H g) w0 := by
  intro l J Jx W hb0 hJB hY hJ0
  refine callsIn_of_wp Try.func40 rfl trivial ?_ rfl
  simp only [Try.ntmps40, List.size_toArray, List.length_cons, List.length_nil, Nat.reduceAdd, Nat.reduceSub, Array.replicate_succ, Array.replicate_zero, List.push_toArray, List.append_toArray, List.nil_append, List.cons_append]
  have HB0 := hid hb0; have HJB := hid hJB; have HY := hid hY; have HIN := hid hin
  have PQ := hid (hbq.below hb0 hbq.lt); have PC := hid (hbc.below hb0 hbc.lt); have SQ := hid (hsl.below hb0 (by omega))
  have hHW := hid (Nat.le_trans hH hb0.size)
  have HJ := hid (hJB _ _ _ hJ0 (below_box W (.map #[] 0)))
  have hnl := hid hsl.len
  clear hbq hbc hsl hb0 hJB hY hJ0 hin
  have bx := below_box W (.map #[] 0)
  have HM := hid (MapAt.new W .i64)
  replace PQ := hid (PQ.out.step bx); replace PC := hid (PC.out.step bx); replace SQ := hid (SQ.out.below bx (by have := hHW.out; omega))
  have HMK := hid (MetOk.nil xs 0)
  have HBW := hid bx
  clear bx
  obtain ⟨y00, yf0⟩ := PQ.out.cells1
  have hmm := @run_makeMap Try.prog
  refine wpIn_wide.2 ?_
  go_wp2_with fail
  go_step3
  go_wp2_with fail
  go_step3
  go_wp2_with fail
  clear y00 yf0 hmm
  generalize W.alloc (.map #[] 0) = W1 at *
  go_loopw [5, 6, 10] (fun _ _ i wr => ∃ (j : Nat) (L : List (Int × Value)), j ≤ nq ∧ i = .int .i64 j ∧ J (rdF c xs j).1 wr ∧ MapAt wr W.heap.size .i64 L ∧ MetOk xs (rdF c xs j).2 j L ∧ Blk wr Tp 22 #[.slice Q nq cq] ∧ Blk wr Tc 3 #[.int .i64 c] ∧ Sl i64 0 wr 0 hi Q nq xs ∧ W.heap.size < wr.heap.size) (fun _ _ i _ => nq - (intOf i).toNat)
  case atStart => exact ⟨0, [], Nat.zero_le _, rfl, HJ.out, HM.out, HMK.out, PQ.out, PC.out, SQ.out, HM.out.lt⟩
  case round =>
    clear HJ HM HMK PQ PC SQ HBW
    obtain ⟨j, L, hj, rfl, h1, h2, h3, h4, h5, h6, h7⟩ := hrel
    have HJ := hid h1; have HM := hid h2; have HMK := hid h3; have PQ := hid h4; have PC := hid h5; have SQ := hid h6; have hWs := hid h7
    clear h1 h2 h3 h4 h5 h6 h7
    by_cases hjn : j < nq
    rotate_left
    · obtain rfl : j = nq := by omega
      have hnn : ¬ ((j : Int) < (j : Int)) := by omega
      go_wp2
      (try simp only [Exit.noGoto])
      go_end0
      exact ⟨⟨_, rfl⟩, .inl HJ.out⟩
    obtain ⟨b, off, rfl, _, hbh, hc⟩ := SQ.out.row (by omega)
    obtain ⟨x, hx⟩ : ∃ x, x = xs[j]?.getD 0 := ⟨_, rfl⟩
    have f0 := hc j hjn
    rw [← hx] at f0
    have HX := hid hx
    have hji : (j : Int) < (nq : Int) := by omega
    have hw1 : IntKind.i64.wrap ((j : Int) + 1) = (j : Int) + 1 := by rw [IntKind.wrap_i64]; omega
    clear hx hc
    obtain ⟨w2, hrun, hm2, hg2⟩ := HM.out.update (P := Try.prog) Try.underlying58 Try.underlying3 x (.int .i64 1)
    have HM2 := hid hm2
    have HMK2 := hid (HMK.out.put (v := .int .i64 1) (rdF_from c xs j) HX.out.symm)
    replace PQ := hid (PQ.out.grown hg2 (by have := hHW.out; simp; omega))
    replace PC := hid (PC.out.grown hg2 (by have := hHW.out; simp; omega))
    replace SQ := hid (SQ.out.keep fun b o _ e2 => by unfold World.cell?; rw [hg2.block b (by have := hHW.out; have := hWs.out; omega) (by have := hHW.out; simp; omega)])
    replace HJ := hid (HJB.out _ _ _ HJ.out ((Below.refl W.heap.size wr).grown hg2 (Nat.le_of_lt hWs.out) (fun r e => by cases e; exact Nat.le_refl _)))
    replace hWs := hid (Nat.lt_of_lt_of_le hWs.out hg2.size)
    obtain ⟨L2, hL2⟩ : ∃ L2, L2 = putL L x (.int .i64 1) := ⟨_, rfl⟩
    rw [← hL2] at HM2 HMK2
    have hlen := fun ty => HM2.out.len_ (P := Try.prog) Try.underlying58 ty
    have hwh := HMK2.out.whole (c := c) (by have := rdF_from c xs j; omega) (by rw [hnl.out]; exact hjn) HIN.out
    have HWH := hid hwh.2
    clear hm2 hg2 hL2 HM HMK hwh
    obtain ⟨y00, yf0⟩ := PC.out.cells1
    by_cases hw : Whole c xs (rdF c xs j).2 (j + 1)
    rotate_left
    · skip
      have d1 : decide ((L2.length : Int) < (c : Int)) = true := decide_eq_true (by have := HWH.out.2 hw; omega)
      have d1' : (L2.length : Int) < (c : Int) := by have := HWH.out.2 hw; omega
      have HE := hid (show rdF c xs (j + 1) = rdF c xs j by rw [rdF_succ, if_neg hw])
      clear hw
      go_wp2_with fail
      clear y00 yf0 hrun hlen f0 d1 d1'
      go_roundw
      case rel => exact ⟨j + 1, L2, by omega, by go_num, by rw [HE.out]; exact HJ.out, HM2.out, by rw [HE.out]; exact HMK2.out, PQ.out, PC.out, SQ.out, hWs.out⟩
      case measure => simp [intOf]; omega
    have hge : ¬ L2.length < c := fun h => HWH.out.1 h hw
    have d1 : decide ((L2.length : Int) < (c : Int)) = false := decide_eq_false (by omega)
    have d1' : ¬ (L2.length : Int) < (c : Int) := by omega
    have HE := hid (show rdF c xs (j + 1) = ((rdF c xs j).1 + 1, j + 1) by rw [rdF_succ, if_pos hw])
    have hat := rdP_at c xs hjn hw
    have HAT := hid hat
    obtain ⟨w3, hclr, hm3, hg3⟩ := HM2.out.clear (P := Try.prog) Try.underlying58
    have HM3 := hid hm3
    replace PQ := hid (PQ.out.grown hg3 (by have := hHW.out; simp; omega))
    replace PC := hid (PC.out.grown hg3 (by have := hHW.out; simp; omega))
    replace SQ := hid (SQ.out.keep fun b o _ e2 => by unfold World.cell?; rw [hg3.block b (by have := hHW.out; have := hWs.out; omega) (by have := hHW.out; simp; omega)])
    replace HJ := hid (HJB.out _ _ _ HJ.out ((Below.refl W.heap.size w2).grown hg3 (Nat.le_of_lt hWs.out) (fun r e => by cases e; exact Nat.le_refl _)))
    replace hWs := hid (Nat.lt_of_lt_of_le hWs.out hg3.size)
    have hy0 := HY.out (rdF c xs j).1 w3 HAT.out.2 HJ.out
    rw [HAT.out.1] at hy0
    obtain ⟨fn, tmps, assign, body, hy, hR⟩ := hy0
    clear hw hat hm3 hg3 HY
    go_upto_region 7 with fail
    clear y00 yf0 hrun hlen f0 d1 d1' hclr
    refine (wpIn_wide (n := M)).1 ?_
    gi_wp2
    refine hR.mono ?_
    rintro e W3 (⟨rfl, hJ3, hk3, hp3⟩ | ⟨rfl, hJx3⟩)
    · gi_wp2
      go_wp2_with fail
      have hHs := hHW.out
      go_roundw
      case rel => exact ⟨j + 1, [], by omega, by go_num, by rw [HE.out]; exact hJ3, HM3.out.same (hk3.2 _ (Nat.le_refl _) hWs.out), by rw [HE.out]; exact MetOk.nil xs (j + 1), hp3.blk PQ.out hTp.1 hTp.2, hp3.blk PC.out hTc.1 hTc.2, hp3.sl SQ.out hiH hig, Nat.lt_of_lt_of_le hWs.out hk3.1⟩
      case measure => simp [intOf]; omega
    · gi_wp2
      go_wp2_with fail
      (try simp only [Exit.noGoto])
      go_end0
      exact ⟨⟨_, rfl⟩, .inr ⟨_, hJx3⟩⟩
end Go.Proofs.Ytijofgbealikaaa
