/- package seq: Write. No condition but sizes. -/
import Derived.Test.YtnkaajkdjbdpaaaSq4
namespace Go.Proofs.Ytnkaajkdjbdpaaa
open Go.RowKit
def SwPost (ok : Bool) (a f : Int) (n : Nat) (vs : List Int) (w : World) (e : Ending) (w' : World) : Prop :=
  ∃ V c, e = .returned (.tuple #[.agg (if ok then wrc a f V n c 0 0 0 else wrc 0 0 none 0 0 0 0 0), .int .i64 (if ok then 0 else 2)]) ∧ (ok = true → Ow u64v w' w.heap.size 27 V n c vs) ∧ Below w.heap.size w w'
set_option maxHeartbeats 4000000 in
theorem swrite_any (a fr : Int) (A : Option Addr) (n c : Nat) (vs : List Int) (w : World) (hx : Sl u64v 0 w 0 w.heap.size A n vs) (hn : n ≤ 100000) : Calls Try.prog 13 #[.int .i64 a, .int .i64 fr, .slice A n c] w (SwPost (decide (1 ≤ (n : Int) ∧ SqG a fr n)) a fr n vs w) := by
  have HB := hid (Below.refl w.heap.size w); have HX := hid hx
  have hlv := hid hx.len
  clear hx
  obtain ⟨ok, hok⟩ : ∃ ok, ok = decide (1 ≤ (n : Int) ∧ SqG a fr n) := ⟨_, rfl⟩
  rw [← hok]
  have HOK := hid hok
  clear hok
  have bx := below_box w (.cells (wrc 0 0 none 0 0 0 0 0) 34)
  replace HX := hid (HX.out.step bx); replace HB := hid (below_then HB.out bx)
  clear bx
  have PW := hid (Blk.new w 34 (wrc 0 0 none 0 0 0 0 0))
  by_cases h0 : n = 0
  · have E := hid (show ¬ (1 ≤ (n : Int) ∧ SqG a fr n) from fun h => by omega)
    subst h0
    go_enter Try.func13, Try.ntmps13
    obtain ⟨y00, y01, y02, y03, y04, y05, yf0⟩ := PW.out.cells6
    go_wp2
    clear y00 y01 y02 y03 y04 y05 yf0
    obtain ⟨q0, q1, q2, q3, q4, q5, qf⟩ := (Blk.new w 34 #[.int .i64 0, .int .i64 0, .slice none 0 0, .int .i64 0, .int .u64 0, .int .i64 0]).cells6
    refine bodyPost_ret (v := .tuple #[.agg #[.int .i64 0, .int .i64 0, .slice none 0 0, .int .i64 0, .int .u64 0, .int .i64 0], .int .i64 2]) (by simp [results, Try.results13, go_sem, q0, q1, q2, q3, q4, q5]) rfl ?_
    exact ⟨none, 0, by rw [HOK.out, decide_eq_false (E.out)]; rfl, fun h => absurd (h.symm.trans (HOK.out.trans (decide_eq_false (E.out)))) (by decide), below_box _ _⟩
  have d0 : ((n : Int) == 0) = false := by simpa using h0
  have hn1 : (1 : Int) ≤ (n : Int) := by omega
  have HC := hid (fun w => guards_any a fr n w (by omega))
  clear h0
  go_enter Try.func13, Try.ntmps13
  obtain ⟨y00, y01, y02, y03, y04, y05, yf0⟩ := PW.out.cells6
  go_wp2_with fail
  clear y00 y01 y02 y03 y04 y05 yf0
  refine (HC.out _).mono ?_
  rintro e w' ⟨rfl, rfl⟩
  by_cases hg : SqG a fr n
  rotate_left
  · have E := hid (show ¬ (1 ≤ (n : Int) ∧ SqG a fr n) from fun h => hg h.2)
    rw [decide_eq_false hg]
    clear hg HC
    obtain ⟨y00, y01, y02, y03, y04, y05, yf0⟩ := PW.out.cells6
    go_wp2
    clear y00 y01 y02 y03 y04 y05 yf0
    obtain ⟨q0, q1, q2, q3, q4, q5, qf⟩ := (Blk.new w 34 #[.int .i64 0, .int .i64 0, .slice none 0 0, .int .i64 0, .int .u64 0, .int .i64 0]).cells6
    refine bodyPost_ret (v := .tuple #[.agg #[.int .i64 0, .int .i64 0, .slice none 0 0, .int .i64 0, .int .u64 0, .int .i64 0], .int .i64 2]) (by simp [results, Try.results13, go_sem, q0, q1, q2, q3, q4, q5]) rfl ?_
    exact ⟨none, 0, by rw [HOK.out, decide_eq_false (E.out)]; rfl, fun h => absurd (h.symm.trans (HOK.out.trans (decide_eq_false (E.out)))) (by decide), below_box _ _⟩
  have E := hid (show ok = true from HOK.out.trans (decide_eq_true ⟨hn1, hg⟩))
  rw [decide_eq_true hg]
  clear hg HC
  have hm1 := run_make_u64 n (by omega)
  have hz0 := hid (show (w.alloc (.cells (wrc 0 0 none 0 0 0 0 0) 34)).heap.size = w.heap.size + 1 by simp)
  generalize w.alloc (.cells (wrc 0 0 none 0 0 0 0 0) 34) = W0 at *
  obtain ⟨y00, y01, y02, y03, y04, y05, yf0⟩ := PW.out.cells6
  go_upto_region 4 with fail
  clear y00 y01 y02 y03 y04 y05 yf0 hm1
  have BA := hid (Blk.new W0 27 (zrow (.int .u64 0) n))
  have bx := below_box W0 (.cells (zrow (.int .u64 0) n) 27)
  replace HX := hid (HX.out.step bx); replace PW := hid (PW.out.step bx); replace HB := hid (below_then HB.out bx)
  clear bx
  generalize W0.alloc (.cells (zrow (.int .u64 0) n) 27) = W1 at *
  have hne := hid (show w.heap.size ≠ W0.heap.size by have := hz0.out; omega)
  have P2 := hid (PW.out.farRow (k := W0.heap.size) (cs' := (vs.map u64v).toArray) hne.out)
  have HBx := hid (below_setRow HB.out (g := W0.heap.size) (by have := hz0.out; omega) (vs.map u64v).toArray)
  have HBA := hid (BA.out.setRow (cs' := (vs.map u64v).toArray))
  have q1 := fun ty => run_copy_full (P := Try.prog) u64v 0 24 24 ty 27 Try.underlying24 (by kernel_rfl) W0.heap.size n n c A _ _ BA.out (by simp [zrow]) _ _ vs HX.out (fun _ => rfl)
  obtain ⟨z0, z1, z2, z3, z4, z5, zf⟩ := P2.out.cells6
  go_wp2
  obtain ⟨q0, q1', q2, q3, q4, q5, qf⟩ := ((((((P2.out.setCell 0 (.int .i64 a)).setCell 1 (.int .i64 fr)).setCell 2 (.slice (some ⟨W0.heap.size, 0, none⟩) n n)).setCell 3 (.int .i64 0)).setCell 4 (.int .u64 0)).setCell 5 (.int .i64 0)).cells6
  refine bodyPost_ret (v := .tuple #[.agg #[.int .i64 a, .int .i64 fr, .slice (some ⟨W0.heap.size, 0, none⟩) n n, .int .i64 0, .int .u64 0, .int .i64 0], .int .i64 0]) (by simp [results, Try.results13, go_sem, q0, q1', q2, q3, q4, q5]) rfl ⟨some ⟨W0.heap.size, 0, none⟩, n, ?_, fun _ => ?_, ?_⟩
  · rw [E.out]; rfl
  · exact Blk.ow ((((((HBA.out.far (p := ⟨w.heap.size, 0, none⟩) (Ne.symm hne.out) (.int .i64 a)).far (p := ⟨w.heap.size, 1, none⟩) (Ne.symm hne.out) (.int .i64 fr)).far (p := ⟨w.heap.size, 2, none⟩) (Ne.symm hne.out) (.slice (some ⟨W0.heap.size, 0, none⟩) n n)).far (p := ⟨w.heap.size, 3, none⟩) (Ne.symm hne.out) (.int .i64 0)).far (p := ⟨w.heap.size, 4, none⟩) (Ne.symm hne.out) (.int .u64 0)).far (p := ⟨w.heap.size, 5, none⟩) (Ne.symm hne.out) (.int .i64 0)) rfl hlv.out (by have := hz0.out; omega) (by simp [maxLen]; omega)
  · exact ((((((HBx.out.setCell (p := ⟨w.heap.size, 0, none⟩) (Nat.le_refl _) (.int .i64 a)).setCell (p := ⟨w.heap.size, 1, none⟩) (Nat.le_refl _) (.int .i64 fr)).setCell (p := ⟨w.heap.size, 2, none⟩) (Nat.le_refl _) (.slice (some ⟨W0.heap.size, 0, none⟩) n n)).setCell (p := ⟨w.heap.size, 3, none⟩) (Nat.le_refl _) (.int .i64 0)).setCell (p := ⟨w.heap.size, 4, none⟩) (Nat.le_refl _) (.int .u64 0)).setCell (p := ⟨w.heap.size, 5, none⟩) (Nat.le_refl _) (.int .i64 0))
end Go.Proofs.Ytnkaajkdjbdpaaa
