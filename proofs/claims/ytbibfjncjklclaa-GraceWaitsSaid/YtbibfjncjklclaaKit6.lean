/- General words: rows of ints that are made. No condition but sizes. -/
import Derived.Test.YtbibfjncjklclaaKitA
import Derived.Test.YtbibfjncjklclaaSli
namespace Go.Proofs.Ytbibfjncjklclaa
open Go.RowKit
theorem run_make_int (n : Nat) (hn : n ≤ 1000000) (w : World) :
    (Instr.makeSlice 22 (.int .i64 n) (.int .i64 n)).run Try.prog w = .ok (.slice (some ⟨w.heap.size, 0, none⟩) n n) (w.alloc (.cells (zrow (.int .i64 0) n) 3)) := by
  obtain ⟨i0, hi0, hz00, hz01, hz02⟩ := info_parts info_int
  exact run_make1 Try.underlying22 hi0 hz00 hz01 rfl n (by rw [hz02]; omega) hn w
end Go.Proofs.Ytbibfjncjklclaa
