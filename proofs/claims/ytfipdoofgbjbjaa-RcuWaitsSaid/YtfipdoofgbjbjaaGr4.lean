/- package grace: the methods of both. No condition but sizes. -/
import Derived.Test.YtfipdoofgbjbjaaGr3
import Derived.Test.YtfipdoofgbjbjaaKitA
namespace Go.Proofs.Ytfipdoofgbjbjaa
open Go.RowKit
set_option maxRecDepth 100000 in
theorem in_yes (gb : Nat) (now : Int) (A : Option Addr) (n k : Nat) (B : Option Addr) (m d : Nat) (g : Gr) (D : Option Addr) (nd kd : Nat) (E : Option Addr) (ne ke : Nat) (c : Int) (w : World) (P : Blk w gb 126 (bth now A n k B m d g D nd kd E ne ke)) (h : 0 ≤ c ∧ c < nd) :
    Calls Try.prog 91 #[ptr gb, .int .i64 c] w fun x w' => x = .returned (.tuple #[]) ∧ w' = w := by
  obtain ⟨y0, y1, y2, y3, y4, y5, y6, y7, yf⟩ := P.cells8
  have d1 : decide (0 ≤ c) = true := decide_eq_true h.1
  have d2 : decide (c < (nd : Int)) = true := decide_eq_true h.2
  have d3 : decide (c ≥ 0) = true := decide_eq_true h.1
  clear h P
  go_enter Try.func91, Try.ntmps91
  go_wp2_with fail
  refine (need_yes 2 w).mono ?_
  rintro x w' ⟨rfl, rfl⟩
  go_wp2_with fail
  go_end0
  exact ⟨rfl, rfl⟩
set_option maxRecDepth 100000 in
theorem in_no (gb : Nat) (now : Int) (A : Option Addr) (n k : Nat) (B : Option Addr) (m d : Nat) (g : Gr) (D : Option Addr) (nd kd : Nat) (E : Option Addr) (ne ke : Nat) (c : Int) (w : World) (P : Blk w gb 126 (bth now A n k B m d g D nd kd E ne ke)) (h : c < 0 ∨ (nd : Int) ≤ c) :
    Calls Try.prog 91 #[ptr gb, .int .i64 c] w fun x w' => x = leaves 2 ∧ w' = w := by
  obtain ⟨y0, y1, y2, y3, y4, y5, y6, y7, yf⟩ := P.cells8
  clear P
  by_cases h0 : 0 ≤ c
  · have d1 : decide (0 ≤ c) = true := decide_eq_true h0
    have d2 : decide (c < (nd : Int)) = false := decide_eq_false (by omega)
    have d3 : decide (c ≥ 0) = true := decide_eq_true h0
    clear h h0
    go_enter Try.func91, Try.ntmps91
    go_wp2_with fail
    refine (need_no 2 w).mono ?_
    rintro x w' ⟨rfl, rfl⟩
    unfold leaves
    go_wp2_with fail
    exact ⟨rfl, rfl, rfl⟩
  · have d1 : decide (0 ≤ c) = false := decide_eq_false h0
    have d3 : decide (c ≥ 0) = false := decide_eq_false h0
    clear h h0
    go_enter Try.func91, Try.ntmps91
    go_wp2_with fail
    refine (need_no 2 w).mono ?_
    rintro x w' ⟨rfl, rfl⟩
    unfold leaves
    go_wp2_with fail
    exact ⟨rfl, rfl, rfl⟩
def AskPost (w : World) (gb : Nat) (ak N : Int) (x : Ending) (w' : World) : Prop := x = .returned (.int .i64 N) ∧ ∃ w1, Below w.heap.size w w1 ∧ w' = w1.setCell ⟨gb, 4, none⟩ (.int .i64 (max ak N))
set_option maxRecDepth 100000 in
set_option maxHeartbeats 1000000 in
theorem ask_yes (gb : Nat) (now : Int) (A : Option Addr) (n k : Nat) (B : Option Addr) (m d : Nat) (g : Gr) (D : Option Addr) (nd kd : Nat) (E : Option Addr) (ne ke : Nat) (w : World) (P : Blk w gb 126 (bth now A n k B m d g D nd kd E ne ke)) (h : nextW g ≤ 2147483645) :
    Calls Try.prog 87 #[ptr gb] w (AskPost w gb g.ak (nextW g)) := by
  have HP := hid P
  obtain ⟨N, hN⟩ : ∃ N, N = nextW g := ⟨_, rfl⟩
  have HN := hid hN
  rw [← hN] at h ⊢
  have HH := hid h
  obtain ⟨y0, y1, y2, y3, y4, y5, y6, y7, yf⟩ := P.cells8
  clear P hN h
  go_enter Try.func87, Try.ntmps87
  go_wp2_with fail
  clear y0 y1 y2 y3 y4 y5 y6 y7 yf
  refine (next_any g D nd kd w).mono ?_
  rintro x w1 ⟨rfl, hb⟩
  rw [← HN.out]
  have HB := hid hb
  obtain ⟨y0, y1, y2, y3, y4, y5, y6, y7, yf⟩ := (HP.out.step hb).cells8
  have d1 : decide (N ≤ 2147483645) = true := decide_eq_true HH.out
  clear hb HH
  go_wp2_with fail
  refine (need_yes 6 w1).mono ?_
  rintro x w2 ⟨rfl, rfl⟩
  go_wp2_with fail
  · go_ret
    exact ⟨rfl, w2, HB.out, by rw [show max g.ak N = N by omega]⟩
  · go_ret
    exact ⟨rfl, w2, HB.out, by rw [show max g.ak N = g.ak by omega]⟩
end Go.Proofs.Ytfipdoofgbjbjaa
