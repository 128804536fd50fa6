/- Chapter 06: reads and writes, plainly; which may be. No condition. -/
import Derived.Test.YtnkaajkdjbdpaaaSq
import Derived.Test.YtnkaajkdjbdpaaaKitA
namespace Go.Proofs.Ytnkaajkdjbdpaaa
open Go.RowKit
@[reducible] def rdc (a f m ph bg : Int) (V : Option Addr) (n c : Nat) (tr : Int) : Array Value := #[.int .i64 a, .int .i64 f, .int .i64 m, .int .i64 ph, .int .u64 bg, .slice V n c, .int .i64 tr]
@[reducible] def wrc (a f : Int) (V : Option Addr) (n c : Nat) (ph bg wr : Int) : Array Value := #[.int .i64 a, .int .i64 f, .slice V n c, .int .i64 ph, .int .u64 bg, .int .i64 wr]
def RdOk (a f m ph bg n tr : Int) : Prop := 0 ≤ m ∧ SqG a f m ∧ bg % 2 = 0 ∧ 0 ≤ tr ∧ tr ≤ 1073741824 ∧
  (ph = 0 ∧ (n = 0 ∧ tr = 0 ∨ n = m ∧ 0 < tr) ∨ ph = 2 ∧ n < m ∨ (ph = 3 ∨ ph = 4) ∧ n = m ∨ ph = 5 ∧ n ≤ m)
def WrOk (a f n ph bg wr : Int) : Prop := 1 ≤ n ∧ SqG a f n ∧ bg % 2 = 0 ∧
  ((ph = 0 ∨ ph = 1) ∧ wr = 0 ∨ ph = 2 ∧ 0 ≤ wr ∧ wr < n ∨ (ph = 3 ∨ ph = 4) ∧ wr = n ∨ ph = 5 ∧ 0 ≤ wr ∧ wr ≤ n)
instance {a f m ph bg n tr : Int} : Decidable (RdOk a f m ph bg n tr) := by unfold RdOk; infer_instance
instance {a f n ph bg wr : Int} : Decidable (WrOk a f n ph bg wr) := by unfold WrOk; infer_instance
end Go.Proofs.Ytnkaajkdjbdpaaa
