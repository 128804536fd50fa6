/- Chapter 06: what SeqPlays asks besides. No condition. -/
import Derived.Test.YtnkaajkdjbdpaaaSqT5
import Derived.Test.YtnkaajkdjbdpaaaSq18
import Derived.Test.YtnkaajkdjbdpaaaKitA
namespace Go.Proofs.Ytnkaajkdjbdpaaa
open Go.RowKit
set_option maxHeartbeats 2000000 in
theorem rwrite_all (a fr : Int) (A : Option Addr) (n c : Nat) (w : World) : Calls Try.prog 15 #[.int .i64 a, .int .i64 fr, .slice A n c] w fun e w' => e = .returned (.bool (decide (1 ≤ (n : Int) ∧ SqG a fr n))) ∧ w = w' := by
  by_cases h0 : 1 ≤ (n : Int)
  · have d0 : decide ((1 : Int) ≤ (n : Int)) = true := decide_eq_true h0
    have E := hid (show decide (1 ≤ (n : Int) ∧ SqG a fr n) = decide (SqG a fr n) from decide_eq_decide.2 ⟨fun h => h.2, fun h => ⟨h0, h⟩⟩)
    have HR := hid (rwords_any a fr n w (by omega))
    go_enter Try.func15, Try.ntmps15
    go_wp2_with fail
    refine HR.out.mono ?_
    rintro e w' ⟨rfl, rfl⟩
    clear HR
    go_wp2
    go_ret
    exact ⟨ret_bool E.out.symm, rfl⟩
  · have d0 : decide ((1 : Int) ≤ (n : Int)) = false := decide_eq_false h0
    have E := hid (show decide (1 ≤ (n : Int) ∧ SqG a fr n) = false from decide_eq_false (fun h => h0 h.1))
    clear h0
    obtain rfl : n = 0 := by simp at d0; omega
    clear d0
    go_enter Try.func15, Try.ntmps15
    go_wp2
    go_ret
    exact ⟨ret_bool E.out.symm, rfl⟩
set_option maxHeartbeats 8000000 in
theorem rrightwrite_all (a fr : Int) (V : Option Addr) (n c : Nat) (ph bg wr : Int) (w : World) (hbg : 0 ≤ bg) :
    Calls Try.prog 22 #[.agg (wrc a fr V n c ph bg wr)] w fun e w' => e = .returned (.bool (decide (WrOk a fr n ph bg wr))) ∧ Below w.heap.size w w' := by
  have HB := hid (Below.refl w.heap.size w)
  have bx := below_box w (.cells (wrc a fr V n c ph bg wr) 34)
  replace HB := hid (below_then HB.out bx)
  clear bx
  have PR := hid (Blk.new w 34 (wrc a fr V n c ph bg wr))
  go_enter Try.func22, Try.ntmps22
  obtain ⟨y00, y01, y02, y03, y04, y05, yf0⟩ := PR.out.cells6
  go_wp2_with fail
  clear y00 y01 y02 y03 y04 y05 yf0
  generalize w.alloc (.cells (wrc a fr V n c ph bg wr) 34) = W0 at *
  refine (rwrite_all a fr V n c _).mono ?_
  rintro e w' ⟨rfl, rfl⟩
  by_cases h : 1 ≤ (n : Int) ∧ SqG a fr n
  · rw [decide_eq_true h]
    obtain ⟨hm, hs⟩ := h
    obtain ⟨y00, y01, y02, y03, y04, y05, yf0⟩ := PR.out.cells6
    go_wp2
    all_goals (go_ret; refine ⟨ret_bool ?_, HB.out⟩; clear HB PR y00 y01 y02 y03 y04 y05 yf0; (try simp only [beq_iff_eq, beq_eq_false_iff_ne, bne_iff_ne, ne_eq, Bool.not_eq_true', Bool.not_eq_false', decide_eq_false_iff_not, decide_eq_true_eq, Bool.or_eq_true, Bool.and_eq_true, Bool.or_eq_false_iff] at *); rw [Bool.eq_iff_iff]; simp only [decide_eq_true_eq, beq_iff_eq, bne_iff_ne, ne_eq, Bool.false_eq_true, true_iff, false_iff, WrOk, hs, true_and, false_and, and_false]; omega)
  · rw [decide_eq_false h]
    obtain ⟨y00, y01, y02, y03, y04, y05, yf0⟩ := PR.out.cells6
    go_wp2
    go_ret
    exact ⟨ret_bool (decide_eq_false (fun hh => h ⟨hh.1, hh.2.1⟩)).symm, HB.out⟩
/-- a write, cut: it may be, if the whole may be -/
theorem cutW_ok {s : Swr} {n : Nat} (h : s.vs.length = n) : WrOkS (cutW s) ↔ WrOk s.a s.f n s.ph s.bg s.wr := by
  unfold WrOkS cutW
  dsimp only
  rw [List.length_take, h]
  by_cases h18 : n ≤ 18
  · rw [show min 18 n = n by omega]
  · rw [show min 18 n = 18 by omega]
    unfold WrOk SqG
    exact ⟨fun h => by omega, fun h => by omega⟩
end Go.Proofs.Ytnkaajkdjbdpaaa
