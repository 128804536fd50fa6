/- package seq: loads and stores of a CPU; a read's phases. No condition but sizes. -/
import Derived.Test.YtnkaajkdjbdpaaaSq7
namespace Go.Proofs.Ytnkaajkdjbdpaaa
open Go.RowKit
set_option maxHeartbeats 2000000 in
theorem load_any (C lo : Nat) (m : MSt) (l : Bool) (a : Int) (w : World) (h : Cpm w C lo m l) (hg : MGood m.1 m.2.1) :
    Calls Try.prog 70 #[ptr C, .int .i64 a] w (DoesPost w C (stepM m (1, a, 0, 0))) := by
  have HC := hid h; have HG := hid hg
  clear h hg
  go_enter Try.func70, Try.ntmps70
  go_wp2_with fail
  refine (does_acc C lo m l 1 a 0 0 w HC.out HG.out (by omega)).mono ?_
  rintro e w' ⟨rfl, h1, h2⟩
  have H1 := hid h1; have H2 := hid h2
  clear h1 h2
  go_wp2
  go_ret
  exact ⟨rfl, H1.out, H2.out⟩
set_option maxHeartbeats 2000000 in
theorem store_any (C lo : Nat) (m : MSt) (l : Bool) (a : Int) (x : Int) (w : World) (h : Cpm w C lo m l) (hg : MGood m.1 m.2.1) :
    Calls Try.prog 71 #[ptr C, .int .i64 a, .int .u64 x] w fun e w' => e = .returned (.tuple #[]) ∧ Cpm w' C w.heap.size (stepM m (2, a, 0, x)).1 (!(stepM m (2, a, 0, x)).2.2) ∧ w.grownBy w' (some C) := by
  have HC := hid h; have HG := hid hg
  clear h hg
  go_enter Try.func71, Try.ntmps71
  go_wp2_with fail
  refine (does_acc C lo m l 2 a 0 x w HC.out HG.out (by omega)).mono ?_
  rintro e w' ⟨rfl, h1, h2⟩
  have H1 := hid h1; have H2 := hid h2
  clear h1 h2
  go_wp2
  go_end0
  exact ⟨rfl, H1.out, H2.out⟩
end Go.Proofs.Ytnkaajkdjbdpaaa
