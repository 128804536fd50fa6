/- queue.Join of two queues whose rows, one behind the other, are in order. No condition but sizes. -/
import Derived.Test.YtkdbmlddndgjjaaQj2
namespace Go.Proofs.Ytkdbmlddndgjjaa
open Go.RowKit
def JnPost (w : World) (n : Nat) (o : Int) (xs : List Cb) (e : Ending) (w' : World) : Prop := ∃ R c, e = .returned (.tuple #[qv R n c o, .int .i64 0]) ∧ Qown w' w.heap.size R n xs ∧ Below w.heap.size w w'
set_option maxHeartbeats 4000000 in
theorem join_any (A : Option Addr) (n c : Nat) (o : Int) (xs : List Cb) (B : Option Addr) (m d : Nat) (ys : List Cb) (w : World) (h : Sm 2 encC (0, 0) w 0 w.heap.size A n xs) (h' : Sm 2 encC (0, 0) w 0 w.heap.size B m ys) (hn : n + m ≤ 16) (h0 : 0 ≤ o) (hga : QGood o xs) (hgb : QGood o ys) (hu : QUp (xs ++ ys)) :
    Calls Try.prog 22 #[qv A n c o, qv B m d o] w (JnPost w (n + m) o (xs ++ ys)) := by
  have HR := hid h; have HT := hid h'; have HU := hid hu; have HB := hid (Below.refl w.heap.size w)
  have ea := hid (show qcheckC o xs = 0 by rw [qcheckC, if_pos hga]); have eb := hid (show qcheckC o ys = 0 by rw [qcheckC, if_pos hgb])
  clear h h' hu hga hgb
  have bx := below_box w (.cells (qcs A n c o) 25)
  replace HR := hid (HR.out.step bx); replace HT := hid (HT.out.step bx); replace HB := hid (below_then HB.out bx)
  clear bx
  have PQ := hid (Blk.new w 25 (qcs A n c o))
  have bx := below_box (w.alloc (.cells (qcs A n c o) 25)) (.cells (qcs B m d o) 25)
  replace HR := hid (HR.out.step bx); replace HT := hid (HT.out.step bx); replace PQ := hid (PQ.out.step bx); replace HB := hid (below_then HB.out bx)
  clear bx
  have PR := hid (Blk.new2 w 25 (qcs B m d o) (.cells (qcs A n c o) 25))
  have bx := below_box ((w.alloc (.cells (qcs A n c o) 25)).alloc (.cells (qcs B m d o) 25)) (.cells (qcs none 0 0 0) 25)
  replace HR := hid (HR.out.step bx); replace HT := hid (HT.out.step bx); replace PQ := hid (PQ.out.step bx); replace PR := hid (PR.out.step bx); replace HB := hid (below_then HB.out bx)
  clear bx
  have PZ := hid (Blk.new3 w 25 (qcs none 0 0 0) (.cells (qcs A n c o) 25) (.cells (qcs B m d o) 25))
  go_enter Try.func22, Try.ntmps22
  obtain ⟨y00, y01, yf0⟩ := PQ.out.cells2
  obtain ⟨y10, y11, yf1⟩ := PR.out.cells2
  go_wp2_with fail
  clear y00 y01 yf0 y10 y11 yf1
  refine (qcheck_any A n c o xs _ HR.out (by omega) h0).mono ?_
  rintro e w1 ⟨rfl, hb⟩
  replace HR := hid (HR.out.step hb); replace HT := hid (HT.out.step hb); replace PQ := hid (PQ.out.step hb); replace PR := hid (PR.out.step hb); replace PZ := hid (PZ.out.step hb); replace HB := hid (below_then HB.out hb)
  clear hb
  rw [ea.out]
  clear ea
  obtain ⟨y00, y01, yf0⟩ := PQ.out.cells2
  obtain ⟨y10, y11, yf1⟩ := PR.out.cells2
  go_wp2_with fail
  clear y00 y01 yf0 y10 y11 yf1
  refine (qcheck_any B m d o ys w1 HT.out (by omega) h0).mono ?_
  rintro e w2 ⟨rfl, hb⟩
  replace HR := hid (HR.out.step hb); replace HT := hid (HT.out.step hb); replace PQ := hid (PQ.out.step hb); replace PR := hid (PR.out.step hb); replace PZ := hid (PZ.out.step hb); replace HB := hid (below_then HB.out hb)
  clear hb
  rw [eb.out]
  clear eb
  have hno : (o != o) = false := by simp
  have hwn : IntKind.i64.wrap ((n : Int) + (m : Int)) = (n : Int) + (m : Int) := by rw [IntKind.wrap_i64]; omega
  have hnm : ¬ (16 : Int) < (n : Int) + (m : Int) := by omega
  obtain ⟨y00, y01, yf0⟩ := PQ.out.cells2
  obtain ⟨y10, y11, yf1⟩ := PR.out.cells2
  go_upto_region 7 with fail
  clear hno hwn hnm y00 y01 yf0 y10 y11 yf1
  have HS : Hid (∀ W, Below w2.heap.size w2 W → (W.cell? ⟨w.heap.size, 0, none⟩ = some (.slice A n c) ∧ W.cell? ⟨w.heap.size, 1, none⟩ = some (.int .u64 o) ∧ W.cell? ⟨w.heap.size + 1, 0, none⟩ = some (.slice B m d))) := hid (fun W hb => ⟨(PQ.out.step hb).cells2.1, (PQ.out.step hb).cells2.2.1, (PR.out.step hb).cells2.1⟩)
  have HSF : Hid (∀ W, Below w2.heap.size w2 W → ∀ i v, (W.setCell ⟨w.heap.size + 1 + 1, i, none⟩ v).cell? ⟨w.heap.size, 0, none⟩ = some (.slice A n c) ∧ (W.setCell ⟨w.heap.size + 1 + 1, i, none⟩ v).cell? ⟨w.heap.size, 1, none⟩ = some (.int .u64 o) ∧ (W.setCell ⟨w.heap.size + 1 + 1, i, none⟩ v).cell? ⟨w.heap.size + 1, 0, none⟩ = some (.slice B m d)) := hid (fun W hb i v => ⟨((PQ.out.step hb).far (p := ⟨w.heap.size + 1 + 1, i, none⟩) (by simp <;> omega) v).cells2.1, ((PQ.out.step hb).far (p := ⟨w.heap.size + 1 + 1, i, none⟩) (by simp <;> omega) v).cells2.2.1, ((PR.out.step hb).far (p := ⟨w.heap.size + 1 + 1, i, none⟩) (by simp <;> omega) v).cells2.1⟩)
  have HSG : Hid (∀ W, Below w2.heap.size w2 W → ∀ i v j u, ((W.setCell ⟨w.heap.size + 1 + 1, i, none⟩ v).setCell ⟨w.heap.size + 1 + 1, j, none⟩ u).cell? ⟨w.heap.size, 0, none⟩ = some (.slice A n c) ∧ ((W.setCell ⟨w.heap.size + 1 + 1, i, none⟩ v).setCell ⟨w.heap.size + 1 + 1, j, none⟩ u).cell? ⟨w.heap.size, 1, none⟩ = some (.int .u64 o) ∧ ((W.setCell ⟨w.heap.size + 1 + 1, i, none⟩ v).setCell ⟨w.heap.size + 1 + 1, j, none⟩ u).cell? ⟨w.heap.size + 1, 0, none⟩ = some (.slice B m d)) := hid (fun W hb i v j u => ⟨(((PQ.out.step hb).far (p := ⟨w.heap.size + 1 + 1, i, none⟩) (by simp <;> omega) v).far (p := ⟨w.heap.size + 1 + 1, j, none⟩) (by simp <;> omega) u).cells2.1, (((PQ.out.step hb).far (p := ⟨w.heap.size + 1 + 1, i, none⟩) (by simp <;> omega) v).far (p := ⟨w.heap.size + 1 + 1, j, none⟩) (by simp <;> omega) u).cells2.2.1, (((PR.out.step hb).far (p := ⟨w.heap.size + 1 + 1, i, none⟩) (by simp <;> omega) v).far (p := ⟨w.heap.size + 1 + 1, j, none⟩) (by simp <;> omega) u).cells2.1⟩)
  obtain ⟨f0, f1, f2⟩ := HS.out w2 (Below.refl _ _)
  go_region_held3 (fun W => W.cell? ⟨w.heap.size, 0, none⟩ = some (.slice A n c) ∧ W.cell? ⟨w.heap.size, 1, none⟩ = some (.int .u64 o) ∧ W.cell? ⟨w.heap.size + 1, 0, none⟩ = some (.slice B m d))
    (first | (exact HS.out _ (Below.refl _ _).drew) | (exact HS.out _ hq1) | (exact HSG.out _ hq1 _ _ _ _) | (exact HSF.out _ hq1 _ _))
    (first | (go_at_call 30; go_split_ands; (with_reducible refine (merged_any A n c xs B m d ys w2.drew (HR.out.step (Below.refl w2.heap.size w2).drew) (HT.out.step (Below.refl w2.heap.size w2).drew) (by omega) HU.out).mono ?_); rintro e w3 ⟨R, cr, rfl, ho, hb⟩; have hq1 := below_then (Below.refl w2.heap.size w2).drew hb; have HO := hid ho; obtain ⟨s0, s1, sf⟩ := (PZ.out.step hq1).cells2))
  all_goals
    have HB1 := hid (below_then HB.out hq1); have PZ1 := hid (PZ.out.step hq1); have hlz := PZ.out.lt
    clear f0 f1 f2 s0 s1 sf hq1 ho hb
    go_wp2
    obtain ⟨q0, q1, qf⟩ := ((PZ1.out.setCell 0 (.slice R (n + m) cr)).setCell 1 (.int .u64 o)).cells2
    refine bodyPost_ret (v := .tuple #[qv R (n + m) cr o, .int .i64 0]) (by simp [results, Try.results22, go_sem, q0, q1]) rfl ?_
    have hlw : w.heap.size + 1 + 1 < w2.drew.heap.size := hlz
    exact ⟨R, cr, rfl, (((Qown.ofOm HO.out).setCell (p := ⟨w.heap.size + 1 + 1, 0, none⟩) hlw _).setCell (p := ⟨w.heap.size + 1 + 1, 1, none⟩) hlw _).mono (by omega), (HB1.out.setCell (by simp; omega) _).setCell (by simp; omega) _⟩
end Go.Proofs.Ytkdbmlddndgjjaa
