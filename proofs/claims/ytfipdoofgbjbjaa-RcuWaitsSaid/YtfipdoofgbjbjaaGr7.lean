/- package grace: asks. No condition but sizes. -/
import Derived.Test.YtfipdoofgbjbjaaGr6
import Derived.Test.YtfipdoofgbjbjaaKitA
namespace Go.Proofs.Ytfipdoofgbjbjaa
open Go.RowKit
attribute [local go_sem] Oper.semAt_some
set_option maxRecDepth 100000 in
theorem ask_no (gb : Nat) (now : Int) (A : Option Addr) (n k : Nat) (B : Option Addr) (m d : Nat) (g : Gr) (D : Option Addr) (nd kd : Nat) (E : Option Addr) (ne ke : Nat) (w : World) (P : Blk w gb 126 (bth now A n k B m d g D nd kd E ne ke)) (h : ¬ nextW g ≤ 2147483645) :
    Calls Try.prog 87 #[ptr gb] w fun x w' => x = leaves 6 ∧ Below w.heap.size w w' := by
  obtain ⟨N, hN⟩ : ∃ N, N = nextW g := ⟨_, rfl⟩
  have HN := hid hN
  rw [← hN] at h
  have HH := hid h
  obtain ⟨y0, y1, y2, y3, y4, y5, y6, y7, yf⟩ := P.cells8
  clear P hN h
  go_enter Try.func87, Try.ntmps87
  go_wp2_with fail
  clear y0 y1 y2 y3 y4 y5 y6 y7 yf
  refine (next_any g D nd kd w).mono ?_
  rintro x w1 ⟨rfl, hb⟩
  rw [← HN.out]
  have HB := hid hb
  have d1 : decide (N ≤ 2147483645) = false := decide_eq_false (by have := HH.out; omega)
  clear hb HH
  go_wp2_with fail
  refine (need_no 6 w1).mono ?_
  rintro x w2 ⟨rfl, rfl⟩
  unfold leaves
  go_wp2_with fail
  exact ⟨rfl, rfl, HB.out⟩
theorem GrownP.thenG {q : Nat → Prop} {row : Option Nat} {w a b : World} (h : GrownP q w a) (k : a.grownBy b row) (hr : ∀ r, row = some r → w.heap.size ≤ r ∨ q r) : GrownP q w b :=
  ⟨k.os.trans h.os, k.tape.trans h.tape, k.output.trans h.output, Nat.le_trans h.size k.size, fun i hi hq => (k.block i (Nat.lt_of_lt_of_le hi h.size) (fun e => by rcases hr i e.symm with h | h; omega; exact hq h)).trans (h.block i hi hq)⟩
end Go.Proofs.Ytfipdoofgbjbjaa
