/- package seq: CheckWrite. afterglowref06: Write, RightWrite. No condition but sizes. -/
import Derived.Test.YtnkaajkdjbdpaaaSq5
namespace Go.Proofs.Ytnkaajkdjbdpaaa
open Go.RowKit
set_option maxHeartbeats 8000000 in
theorem scheckwrite_any (a fr : Int) (V : Option Addr) (n c : Nat) (ph bg wr : Int) (vs : List Int) (w : World) (hx : Sl u64v 0 w 0 w.heap.size V n vs) (hn : n ≤ 100000) :
    Calls Try.prog 35 #[.agg (wrc a fr V n c ph bg wr)] w (RcPost (decide (WrOk a fr n ph bg wr)) w) := by
  have HB := hid (Below.refl w.heap.size w); have HX := hid hx
  clear hx
  obtain ⟨ok, hok⟩ : ∃ ok, ok = decide (WrOk a fr n ph bg wr) := ⟨_, rfl⟩
  rw [← hok]
  have HOK := hid hok
  clear hok
  have bx := below_box w (.cells (wrc a fr V n c ph bg wr) 34)
  replace HX := hid (HX.out.step bx); replace HB := hid (below_then HB.out bx)
  clear bx
  have PR := hid (Blk.new w 34 (wrc a fr V n c ph bg wr))
  go_enter Try.func35, Try.ntmps35
  obtain ⟨y00, y01, y02, y03, y04, y05, yf0⟩ := PR.out.cells6
  go_wp2_with fail
  clear y00 y01 y02 y03 y04 y05 yf0
  generalize w.alloc (.cells (wrc a fr V n c ph bg wr) 34) = W0 at *
  refine (swrite_any a fr V n c vs W0 HX.out hn).mono ?_
  rintro e w1 ⟨V', c', rfl, hown, hb⟩
  clear hown
  replace HX := hid (HX.out.step hb); replace PR := hid (PR.out.step hb); replace HB := hid (below_then HB.out hb)
  clear hb
  by_cases h : 1 ≤ (n : Int) ∧ SqG a fr n
  · obtain ⟨hm, hs⟩ := h
    rw [decide_eq_true (show 1 ≤ (n : Int) ∧ SqG a fr n from ⟨hm, hs⟩)]
    dsimp only [if_true]
    have bx := below_box w1 (.cells (wrc a fr V' n c' 0 0 0) 34)
    replace HX := hid (HX.out.step bx); replace PR := hid (PR.out.step bx); replace HB := hid (below_then HB.out bx)
    clear bx
    obtain ⟨y00, y01, y02, y03, y04, y05, yf0⟩ := PR.out.cells6
    go_upto_region 2 with fail
    clear y00 y01 y02 y03 y04 y05 yf0
    generalize w1.alloc (.cells (wrc a fr V' n c' 0 0 0) 34) = W1 at *
    obtain ⟨y00, y01, y02, y03, y04, y05, yf0⟩ := PR.out.cells6
    go_wp2_with fail
    all_goals (first | (refine (even_any bg _).mono ?_; rintro e w' ⟨rfl, rfl⟩; go_wp2) | skip)
    all_goals (go_ret; refine ⟨ret_int ?_, HB.out⟩; clear HB PR HX y00 y01 y02 y03 y04 y05 yf0; (try simp only [beq_iff_eq, beq_eq_false_iff_ne, bne_iff_ne, ne_eq, Bool.not_eq_true', Bool.not_eq_false', decide_eq_false_iff_not, decide_eq_true_eq, Bool.or_eq_true, Bool.and_eq_true, Bool.or_eq_false_iff] at *); rw [HOK.out]; clear HOK; by_cases hh : WrOk a fr n ph bg wr <;> (first | rw [decide_eq_true hh] | rw [decide_eq_false hh]) <;> simp only [WrOk, hs, true_and] at hh <;> simp only [if_true, if_false, Bool.false_eq_true] <;> omega)
  · rw [decide_eq_false h]
    dsimp only [Bool.false_eq_true, if_false]
    have hno := hid (fun hh : WrOk a fr n ph bg wr => h ⟨hh.1, hh.2.1⟩)
    clear h
    have bx := below_box w1 (.cells (wrc 0 0 none 0 0 0 0 0) 34)
    replace HX := hid (HX.out.step bx); replace PR := hid (PR.out.step bx); replace HB := hid (below_then HB.out bx)
    clear bx
    obtain ⟨y00, y01, y02, y03, y04, y05, yf0⟩ := PR.out.cells6
    go_upto_region 2 with fail
    clear y00 y01 y02 y03 y04 y05 yf0
    generalize w1.alloc (.cells (wrc 0 0 none 0 0 0 0 0) 34) = W1 at *
    obtain ⟨y00, y01, y02, y03, y04, y05, yf0⟩ := PR.out.cells6
    go_wp2
    all_goals (go_ret; exact ⟨ret_int (by rw [HOK.out, decide_eq_false hno.out]; rfl), HB.out⟩)
end Go.Proofs.Ytnkaajkdjbdpaaa
