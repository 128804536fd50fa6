/- package grace: New, where nothing else of Gr11 is there. No condition but sizes. -/
import Derived.Test.YtfipdoofgbjbjaaGr14
namespace Go.Proofs.Ytfipdoofgbjbjaa
open Go.RowKit
attribute [local go_sem] Oper.semAt_some
def nGr (n : Nat) : Gr := ⟨List.replicate n false, 0, 0, false⟩
theorem nGr_ok {n : Nat} (h1 : 1 ≤ n) (h8 : n ≤ 8) : GrOk (nGr n) := by
  refine ⟨by simpa [nGr] using h1, by simpa [nGr] using h8, Int.le_refl 0, by show (0 : Int) + 0 ≤ 0; decide, by show (0 : Int) ≤ 0 + 1; decide, by show (0 : Int) ≤ 2147483645; decide, ?_⟩
  show false = !gIdle (List.replicate n false)
  rw [(gIdle_iff _).2 (fun k => by rw [List.getElem?_replicate]; split <;> rfl)]
  rfl
def GNew (w : World) (n : Nat) (x : Ending) (w' : World) : Prop := ∃ D, x = .returned (.tuple #[gv (nGr n) D n n, .int .i64 0]) ∧ Ow blv w' w.heap.size 4 D n n (nGr n).nd ∧ Below w.heap.size w w'
theorem zrow_bool (n : Nat) : zrow (.bool false) n = ((List.replicate n false).map blv).toArray := by
  simp [zrow, blv]
set_option maxRecDepth 100000 in
set_option maxHeartbeats 4000000 in
theorem gnew_ok (n : Nat) (w : World) (h1 : 1 ≤ n) (h8 : n ≤ 8) : Calls Try.prog 32 #[.int .i64 n] w (GNew w n) := by
  have HB := hid (Below.refl w.heap.size w); have H1 := hid h1; have H8 := hid h8
  have bx := below_box w (.cells #[.int .i64 0, .int .i64 0, .bool false, .slice none 0 0] 27)
  replace HB := hid (below_then HB.out bx)
  clear bx
  have ZG := hid (Blk.new w 27 #[.int .i64 0, .int .i64 0, .bool false, .slice none 0 0])
  have d1 : decide ((n : Int) < 1) = false := decide_eq_false (by omega)
  have d2 : decide ((8 : Int) < (n : Int)) = false := decide_eq_false (by omega)
  have d3 : decide ((n : Int) > 8) = false := decide_eq_false (by omega)
  clear h1 h8
  go_enter Try.func32, Try.ntmps32
  go_upto_region 3 with fail
  have hz0 := hid (show (w.alloc (.cells #[.int .i64 0, .int .i64 0, .bool false, .slice none 0 0] 27)).heap.size = w.heap.size + 1 by simp)
  generalize w.alloc (.cells #[.int .i64 0, .int .i64 0, .bool false, .slice none 0 0] 27) = W0 at *
  have HZ0 := hid hz0
  clear d1 d2 d3 hz0
  have hm := run_make_boolg n (by have := H8.out; omega)
  have ZGa := hid (ZG.out.step (below_box W0 (.cells (zrow (.bool false) n) 4)))
  obtain ⟨y00, y01, y02, y03, yf0⟩ := ZG.out.cells4
  obtain ⟨y10, y11, y12, y13, yf1⟩ := ZGa.out.cells4
  go_wp2_with fail
  clear hm y00 y01 y02 y03 yf0 y10 y11 y12 y13 yf1 ZGa
  have bx := below_box W0 (.cells (zrow (.bool false) n) 4)
  replace ZG := hid (ZG.out.step bx); replace HB := hid (below_then HB.out bx)
  clear bx
  have PD := hid (Blk.new W0 4 (zrow (.bool false) n))
  generalize W0.alloc (.cells (zrow (.bool false) n) 4) = W1 at *
  have Z4 := hid (show Blk ((((W1.setCell ⟨w.heap.size, 0, none⟩ (.int .i64 0)).setCell ⟨w.heap.size, 1, none⟩ (.int .i64 0)).setCell ⟨w.heap.size, 2, none⟩ (.bool false)).setCell ⟨w.heap.size, 3, none⟩ (.slice (some ⟨W0.heap.size, 0, none⟩) n n)) w.heap.size 27 #[.int .i64 0, .int .i64 0, .bool false, .slice (some ⟨W0.heap.size, 0, none⟩) n n] from (((ZG.out.setCell 0 _).setCell 1 _).setCell 2 _).setCell 3 _)
  obtain ⟨y00, y01, y02, y03, yf0⟩ := Z4.out.cells4
  refine bodyPost_ret (v := .tuple #[gv (nGr n) (some ⟨W0.heap.size, 0, none⟩) n n, .int .i64 0]) (by simp [results, Try.results32, go_sem, nGr, y00, y01, y02, y03]) rfl ⟨some ⟨W0.heap.size, 0, none⟩, rfl, ?_, ?_⟩
  · have hz := HZ0.out.out
    exact ((((Blk.ow (enc := blv) (xs := List.replicate n false) (lo := w.heap.size) (n := n) PD.out (zrow_bool n) (by simp) (by omega) (by have := H8.out; simp only [maxLen]; omega)).far (p := ⟨w.heap.size, 0, none⟩) (by simp; omega) _).far (p := ⟨w.heap.size, 1, none⟩) (by simp; omega) _).far (p := ⟨w.heap.size, 2, none⟩) (by simp; omega) _).far (p := ⟨w.heap.size, 3, none⟩) (by simp; omega) _
  · exact (((HB.out.setCell (p := ⟨w.heap.size, 0, none⟩) (by simp) _).setCell (p := ⟨w.heap.size, 1, none⟩) (by simp) _).setCell (p := ⟨w.heap.size, 2, none⟩) (by simp) _).setCell (p := ⟨w.heap.size, 3, none⟩) (by simp) _
end Go.Proofs.Ytfipdoofgbjbjaa
