/- package seq: Read, Write, CheckRead. No condition but sizes. -/
import Derived.Test.YtnkaajkdjbdpaaaSq2
import Derived.Test.YtnkaajkdjbdpaaaKitA
namespace Go.Proofs.Ytnkaajkdjbdpaaa
open Go.RowKit
def SrPost (ok : Bool) (a f m : Int) (w : World) (e : Ending) (w' : World) : Prop :=
  e = .returned (.tuple #[.agg (if ok then rdc a f m 0 0 none 0 0 0 else rdc 0 0 0 0 0 none 0 0 0), .int .i64 (if ok then 0 else 2)]) ∧ Below w.heap.size w w'
set_option maxHeartbeats 4000000 in
theorem sread_any (a fr m : Int) (w : World) : Calls Try.prog 12 #[.int .i64 a, .int .i64 fr, .int .i64 m] w (SrPost (decide (0 ≤ m ∧ SqG a fr m)) a fr m w) := by
  have HB := hid (Below.refl w.heap.size w)
  have bx := below_box w (.cells (rdc 0 0 0 0 0 none 0 0 0) 29)
  replace HB := hid (below_then HB.out bx)
  clear bx
  have PR := hid (Blk.new w 29 (rdc 0 0 0 0 0 none 0 0 0))
  by_cases h0 : m < 0
  · have d0 : decide (m < 0) = true := decide_eq_true h0
    have E := hid (show decide (0 ≤ m ∧ SqG a fr m) = false from decide_eq_false (fun h => by omega))
    clear h0
    go_enter Try.func12, Try.ntmps12
    obtain ⟨y00, y01, y02, y03, y04, y05, y06, yf0⟩ := PR.out.cells7
    go_wp2
    clear y00 y01 y02 y03 y04 y05 y06 yf0
    obtain ⟨q0, q1, q2, q3, q4, q5, q6, qf⟩ := (Blk.new w 29 #[.int .i64 0, .int .i64 0, .int .i64 0, .int .i64 0, .int .u64 0, .slice none 0 0, .int .i64 0]).cells7
    refine bodyPost_ret (v := .tuple #[.agg #[.int .i64 0, .int .i64 0, .int .i64 0, .int .i64 0, .int .u64 0, .slice none 0 0, .int .i64 0], .int .i64 2]) (by simp [results, Try.results12, go_sem, q0, q1, q2, q3, q4, q5, q6]) rfl ?_
    exact ⟨by rw [E.out]; rfl, below_box _ _⟩
  have d0 : decide (m < 0) = false := decide_eq_false h0
  have E0 := hid (show decide (0 ≤ m ∧ SqG a fr m) = decide (SqG a fr m) from decide_eq_decide.2 ⟨fun h => h.2, fun h => ⟨by omega, h⟩⟩)
  have HC := hid (fun w => guards_any a fr m w (by omega))
  clear h0
  go_enter Try.func12, Try.ntmps12
  obtain ⟨y00, y01, y02, y03, y04, y05, y06, yf0⟩ := PR.out.cells7
  go_wp2_with fail
  clear y00 y01 y02 y03 y04 y05 y06 yf0
  refine (HC.out _).mono ?_
  rintro e w' ⟨rfl, rfl⟩
  by_cases hg : SqG a fr m
  · have E := hid (show decide (0 ≤ m ∧ SqG a fr m) = true from E0.out.trans (decide_eq_true hg))
    rw [decide_eq_true hg]
    clear E0 hg HC
    obtain ⟨y00, y01, y02, y03, y04, y05, y06, yf0⟩ := PR.out.cells7
    go_wp2
    clear y00 y01 y02 y03 y04 y05 y06 yf0
    obtain ⟨q0, q1, q2, q3, q4, q5, q6, qf⟩ := (Blk.new w 29 #[.int .i64 a, .int .i64 fr, .int .i64 m, .int .i64 0, .int .u64 0, .slice none 0 0, .int .i64 0]).cells7
    refine bodyPost_ret (v := .tuple #[.agg #[.int .i64 a, .int .i64 fr, .int .i64 m, .int .i64 0, .int .u64 0, .slice none 0 0, .int .i64 0], .int .i64 0]) (by simp [results, Try.results12, go_sem, q0, q1, q2, q3, q4, q5, q6]) rfl ?_
    exact ⟨by rw [E.out]; rfl, below_box _ _⟩
  · have E := hid (show decide (0 ≤ m ∧ SqG a fr m) = false from E0.out.trans (decide_eq_false hg))
    rw [decide_eq_false hg]
    clear E0 hg HC
    obtain ⟨y00, y01, y02, y03, y04, y05, y06, yf0⟩ := PR.out.cells7
    go_wp2
    clear y00 y01 y02 y03 y04 y05 y06 yf0
    obtain ⟨q0, q1, q2, q3, q4, q5, q6, qf⟩ := (Blk.new w 29 #[.int .i64 0, .int .i64 0, .int .i64 0, .int .i64 0, .int .u64 0, .slice none 0 0, .int .i64 0]).cells7
    refine bodyPost_ret (v := .tuple #[.agg #[.int .i64 0, .int .i64 0, .int .i64 0, .int .i64 0, .int .u64 0, .slice none 0 0, .int .i64 0], .int .i64 2]) (by simp [results, Try.results12, go_sem, q0, q1, q2, q3, q4, q5, q6]) rfl ?_
    exact ⟨by rw [E.out]; rfl, below_box _ _⟩
end Go.Proofs.Ytnkaajkdjbdpaaa
