/- package seq: even, CheckRead. No condition but sizes. -/
import Derived.Test.YtnkaajkdjbdpaaaSq3
namespace Go.Proofs.Ytnkaajkdjbdpaaa
open Go.RowKit
def RcPost (ok : Bool) (w : World) (e : Ending) (w' : World) : Prop := e = .returned (.int .i64 (if ok then 0 else 160)) ∧ Below w.heap.size w w'
theorem and_one_any (E : Int) : bits .and .u64 E 1 = E % 2 := by
  have h1 : (BitVec.ofInt 64 1) = 1#64 := by decide
  have h2 : (BitVec.ofInt 64 E &&& 1#64).toNat = (E % 18446744073709551616).toNat % 2 := by
    show (BitVec.ofInt 64 E &&& 1#64).toNat = _
    rw [BitVec.toNat_and, BitVec.toNat_ofInt, show (1#64).toNat = 1 from rfl, Nat.and_one_is_mod]
    rfl
  show IntKind.u64.wrap ((BitVec.ofInt 64 E &&& BitVec.ofInt 64 1).toNat : Int) = _

  rw [h1, h2, IntKind.wrap_u64]
  omega
theorem even_any (n : Int) (w : World) : Calls Try.prog 55 #[.int .u64 n] w fun e w' => e = .returned (.bool (decide (n % 2 = 0))) ∧ w = w' := by
  have HE := hid (and_one_any n)
  go_enter Try.func55, Try.ntmps55
  go_wp2
  go_ret
  exact ⟨ret_bool (by rw [HE.out]; rfl), rfl⟩
set_option maxHeartbeats 8000000 in
theorem scheckread_any (a fr m ph bg : Int) (V : Option Addr) (n c : Nat) (tr : Int) (w : World) (hn : n ≤ 100000) :
    Calls Try.prog 32 #[.agg (rdc a fr m ph bg V n c tr)] w (RcPost (decide (RdOk a fr m ph bg n tr)) w) := by
  have HB := hid (Below.refl w.heap.size w)
  obtain ⟨ok, hok⟩ : ∃ ok, ok = decide (RdOk a fr m ph bg n tr) := ⟨_, rfl⟩
  rw [← hok]
  have HOK := hid hok
  clear hok
  have bx := below_box w (.cells (rdc a fr m ph bg V n c tr) 29)
  replace HB := hid (below_then HB.out bx)
  clear bx
  have PR := hid (Blk.new w 29 (rdc a fr m ph bg V n c tr))
  go_enter Try.func32, Try.ntmps32
  obtain ⟨y00, y01, y02, y03, y04, y05, y06, yf0⟩ := PR.out.cells7
  go_wp2_with fail
  clear y00 y01 y02 y03 y04 y05 y06 yf0
  generalize w.alloc (.cells (rdc a fr m ph bg V n c tr) 29) = W0 at *
  refine (sread_any a fr m W0).mono ?_
  rintro e w1 ⟨rfl, hb⟩
  replace PR := hid (PR.out.step hb); replace HB := hid (below_then HB.out hb)
  clear hb
  by_cases h : 0 ≤ m ∧ SqG a fr m
  · obtain ⟨hm, hs⟩ := h
    rw [decide_eq_true (show 0 ≤ m ∧ SqG a fr m from ⟨hm, hs⟩)]
    dsimp only [if_true]
    have bx := below_box w1 (.cells (rdc a fr m 0 0 none 0 0 0) 29)
    replace PR := hid (PR.out.step bx); replace HB := hid (below_then HB.out bx)
    clear bx
    obtain ⟨y00, y01, y02, y03, y04, y05, y06, yf0⟩ := PR.out.cells7
    go_upto_region 2 with fail
    clear y00 y01 y02 y03 y04 y05 y06 yf0
    generalize w1.alloc (.cells (rdc a fr m 0 0 none 0 0 0) 29) = W1 at *
    obtain ⟨y00, y01, y02, y03, y04, y05, y06, yf0⟩ := PR.out.cells7
    go_wp2_with fail
    all_goals (first | (refine (even_any bg _).mono ?_; rintro e w' ⟨rfl, rfl⟩; go_wp2) | skip)
    all_goals (go_ret; refine ⟨ret_int ?_, HB.out⟩; clear HB PR y00 y01 y02 y03 y04 y05 y06 yf0; (try simp only [beq_iff_eq, beq_eq_false_iff_ne, ne_eq, decide_eq_false_iff_not, decide_eq_true_eq] at *); rw [HOK.out]; clear HOK; by_cases hh : RdOk a fr m ph bg n tr <;> (first | rw [decide_eq_true hh] | rw [decide_eq_false hh]) <;> simp only [RdOk, hs, true_and] at hh <;> simp only [if_true, if_false, Bool.false_eq_true] <;> omega)
  · rw [decide_eq_false h]
    dsimp only [Bool.false_eq_true, if_false]
    have hno := hid (fun hh : RdOk a fr m ph bg n tr => h ⟨hh.1, hh.2.1⟩)
    clear h
    have bx := below_box w1 (.cells (rdc 0 0 0 0 0 none 0 0 0) 29)
    replace PR := hid (PR.out.step bx); replace HB := hid (below_then HB.out bx)
    clear bx
    obtain ⟨y00, y01, y02, y03, y04, y05, y06, yf0⟩ := PR.out.cells7
    go_upto_region 2 with fail
    clear y00 y01 y02 y03 y04 y05 y06 yf0
    generalize w1.alloc (.cells (rdc 0 0 0 0 0 none 0 0 0) 29) = W1 at *
    obtain ⟨y00, y01, y02, y03, y04, y05, y06, yf0⟩ := PR.out.cells7
    go_wp2
    all_goals (go_ret; exact ⟨ret_int (by rw [HOK.out, decide_eq_false hno.out]; rfl), HB.out⟩)
end Go.Proofs.Ytnkaajkdjbdpaaa
