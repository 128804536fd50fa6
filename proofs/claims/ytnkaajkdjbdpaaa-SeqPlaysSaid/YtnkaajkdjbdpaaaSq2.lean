/- Chapter 06: reads and writes, plainly; which may be. No condition. -/
import Derived.Test.YtnkaajkdjbdpaaaSq
import Derived.Test.YtnkaajkdjbdpaaaKitA
namespace Go.Proofs.Ytnkaajkdjbdpaaa
open Go.RowKit
@[reducible] def rdc (a f m ph bg : Int) (V : Option Addr) (n c : Nat) (tr : Int) : Array Value := #[.int .i64 a, .int .i64 f, .int .i64 m, .int .i64 ph, .int .u64 bg, .slice V n c, .int .i64 tr]
@[reducible] def wrc (a f : Int) (V : Option Addr) (n c : Nat) (ph bg wr : Int) : Array Value := #[.int .i64 a, .int .i64 f, .slice V n c, .int .i64 ph, .int .u64 bg, .int .i64 wr]
def RdOk (a f m ph bg n tr : Int) : Prop := 0 ≤ m ∧ SqG a f m ∧ bg % 2 = 0 ∧ 0 ≤ tr ∧ tr ≤ 1073741824 ∧
  (ph = 0 ∧ (n = 0 ∧ tr = 0 ∨ n = m ∧ 0 < tr) ∨ ph = 2 ∧ n < m ∨ (ph = 3 ∨ ph = 4) ∧ n = m ∨ ph = 5 ∧ n ≤ m)
def WrOk (a f n ph bg wr : Int) : Prop := 1 ≤ n ∧ SqG a f n ∧ bg % 2 = 0 ∧
  ((ph = 0 ∨ ph = 1) ∧ wr = 0 ∨ ph = 2 ∧ 0 ≤ wr ∧ wr < n ∨ (ph = 3 ∨ ph = 4) ∧ wr = n ∨ ph = 5 ∧ 0 ≤ wr ∧ wr ≤ n)
instance {a f m ph bg n tr : Int} : Decidable (RdOk a f m ph bg n tr) := by unfold RdOk; infer_instance
instance {a f n ph bg wr : Int} : Decidable (WrOk a f n ph bg wr) := by unfold WrOk; infer_instance
set_option maxHeartbeats 8000000 in
theorem rrightread_any (a fr m ph bg : Int) (V : Option Addr) (n c : Nat) (tr : Int) (w : World) (hbg : 0 ≤ bg) (hn : n ≤ 100000) :
    Calls Try.prog 20 #[.agg (rdc a fr m ph bg V n c tr)] w fun e w' => e = .returned (.bool (decide (RdOk a fr m ph bg n tr))) ∧ Below w.heap.size w w' := by
  have HB := hid (Below.refl w.heap.size w)
  have bx := below_box w (.cells (rdc a fr m ph bg V n c tr) 29)
  replace HB := hid (below_then HB.out bx)
  clear bx
  have PR := hid (Blk.new w 29 (rdc a fr m ph bg V n c tr))
  go_enter Try.func20, Try.ntmps20
  obtain ⟨y00, y01, y02, y03, y04, y05, y06, yf0⟩ := PR.out.cells7
  go_wp2_with fail
  clear y00 y01 y02 y03 y04 y05 y06 yf0
  generalize w.alloc (.cells (rdc a fr m ph bg V n c tr) 29) = W0 at *
  refine (rread_any a fr m _).mono ?_
  rintro e w' ⟨rfl, rfl⟩
  by_cases h : 0 ≤ m ∧ SqG a fr m
  · rw [decide_eq_true h]
    obtain ⟨hm, hs⟩ := h
    obtain ⟨y00, y01, y02, y03, y04, y05, y06, yf0⟩ := PR.out.cells7
    go_wp2
    all_goals (go_ret; refine ⟨ret_bool ?_, HB.out⟩; clear HB PR y00 y01 y02 y03 y04 y05 y06 yf0; (try simp only [beq_iff_eq, beq_eq_false_iff_ne, ne_eq] at *); rw [Bool.eq_iff_iff]; simp only [decide_eq_true_eq, beq_iff_eq, bne_iff_ne, ne_eq, Bool.false_eq_true, true_iff, false_iff, RdOk, hs, true_and, false_and, and_false]; omega)
  · rw [decide_eq_false h]
    obtain ⟨y00, y01, y02, y03, y04, y05, y06, yf0⟩ := PR.out.cells7
    go_wp2
    go_ret
    exact ⟨ret_bool (decide_eq_false (fun hh => h ⟨hh.1, hh.2.1⟩)).symm, HB.out⟩
end Go.Proofs.Ytnkaajkdjbdpaaa
