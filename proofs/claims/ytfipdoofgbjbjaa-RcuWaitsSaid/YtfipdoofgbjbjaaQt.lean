/- package queue: New, Take, Segments. No condition but sizes. -/
import Derived.Test.YtfipdoofgbjbjaaQd3
namespace Go.Proofs.Ytfipdoofgbjbjaa
open Go.RowKit
def newQ (o : Int) : Int × List Cb × Int := if 9223372036854775806 < o then (0, [], 2) else (o, [], 0)
def NwPost (W : World) (r : Int × List Cb × Int) (e : Ending) (W' : World) : Prop := e = .returned (.tuple #[qv none 0 0 r.1, .int .i64 r.2.2]) ∧ Below W.heap.size W W'
def takeF (o : Int) (l : List Cb) : Int × List Cb × Int × Int :=
  if ¬ QGood o l then (0, [], 0, 230) else if doneN o l = 0 then (0, [], 0, 4) else (o, l.drop 1, (l[0]?.getD (0, 0)).2, 0)
def TkPost (W : World) (r : Int × List Cb × Int × Int) (e : Ending) (W' : World) : Prop :=
  ∃ A n c, e = .returned (.tuple #[qv A n c r.1, .int .u64 r.2.2.1, .int .i64 r.2.2.2]) ∧ Qown W' W.heap.size A n r.2.1 ∧ Below W.heap.size W W' ∧ n ≤ c
set_option maxHeartbeats 2000000 in
theorem qtake_any (A : Option Addr) (n c : Nat) (o : Int) (xs : List Cb) (w : World) (h : Sm 2 encC (0, 0) w 0 w.heap.size A n xs) (hn : n ≤ 1000000) (h0 : 0 ≤ o) :
    Calls Try.prog 65 #[qv A n c o] w (TkPost w (takeF o xs)) := by
  have HE := hid (show takeF o xs = if ¬ QGood o xs then (0, [], 0, 230) else if doneN o xs = 0 then (0, [], 0, 4) else (o, xs.drop 1, (xs[0]?.getD (0, 0)).2, 0) from rfl)
  have HR := hid h; have HB := hid (Below.refl w.heap.size w)
  have hl := hid h.len
  clear h
  have bx := below_box w (.cells (qcs A n c o) 40)
  replace HR := hid (HR.out.step bx); replace HB := hid (below_then HB.out bx)
  clear bx
  have PQ := hid (Blk.new w 40 (qcs A n c o))
  have bx := below_box (w.alloc (.cells (qcs A n c o) 40)) (.cells (qcs none 0 0 0) 40)
  replace HR := hid (HR.out.step bx); replace PQ := hid (PQ.out.step bx); replace HB := hid (below_then HB.out bx)
  clear bx
  have PZ := hid (Blk.new2 w 40 (qcs none 0 0 0) (.cells (qcs A n c o) 40))
  obtain ⟨y00, y01, yf0⟩ := PQ.out.cells2
  go_enter Try.func65, Try.ntmps65
  go_wp2_with fail
  clear y00 y01 yf0
  refine (drain_any A n c o xs 1 _ HR.out hn h0).mono ?_
  rintro e w1 ⟨A1, n1, c1, B1, m1, d1, rfl, o1, b1, hb, hnc⟩
  replace HR := hid (HR.out.step hb); replace PQ := hid (PQ.out.step hb); replace PZ := hid (PZ.out.step hb); replace HB := hid (below_then HB.out hb)
  obtain ⟨r, hr⟩ : ∃ r, r = drainF o xs 1 := ⟨_, rfl⟩
  rw [← hr] at o1 b1 ⊢
  obtain ⟨ro, rl, rw_, rc⟩ := r
  have HRR := hid hr
  have hb1 := hid hb.size; have hzl := hid PZ.out.lt
  clear hb hr
  dsimp only at o1 b1 ⊢
  have O1 := hid o1; have B1 := hid b1
  clear o1 b1
  have bx := below_box w1 (.cells (qcs A1 n1 c1 ro) 40)
  replace PZ := hid (PZ.out.step bx); replace O1 := hid (O1.out.step bx); replace B1 := hid (B1.out.step bx); replace HB := hid (below_then HB.out bx)
  clear bx
  have P5 := hid (Blk.new w1 40 (qcs A1 n1 c1 ro))
  go_upto_region 2 with fail
  generalize w1.alloc (.cells (qcs A1 n1 c1 ro) 40) = W2 at *
  by_cases hg : QGood o xs
  · have E := HRR.out
    rw [drainF, if_neg (not_not_intro hg), if_neg (by decide)] at E
    simp only [Prod.mk.injEq] at E
    obtain ⟨rfl, e2, e3, rfl⟩ := E
    have HG := hid hg; have E2 := hid e2; have E3 := hid e3
    have hm1 := hid B1.out.len
    clear e2 e3 hg
    rcases Nat.eq_zero_or_pos (doneN ro xs) with hd | hd
    · have hm0 : m1 = 0 := by rw [← hm1.out, E3.out, hd]; simp
      have hm0i : (m1 : Int) = 0 := by omega
      have HD := hid hd
      clear hd
      obtain ⟨y00, y01, yf0⟩ := PZ.out.cells2
      go_wp2
      obtain ⟨q0, q1, qf⟩ := ((PZ.out.setCell 0 (.slice none 0 0)).setCell 1 (.int .u64 0)).cells2
      refine bodyPost_ret (v := .tuple #[qv none 0 0 0, .int .u64 0, .int .i64 4]) (by simp [results, Try.results65, go_sem, q0, q1]) rfl ?_
      rw [HE.out, if_neg (not_not_intro HG.out), if_pos HD.out]
      exact ⟨none, 0, 0, rfl, Qown.nil _ _, (HB.out.setCell (by simp) _).setCell (by simp) _, Nat.le_refl _⟩
    · have hnx : 0 < xs.length := Nat.lt_of_lt_of_le hd (doneN_le _ _)
      have hmin : min (doneN ro xs) (1 : Int).toNat = 1 := by simp; omega
      have hm0 : m1 = 1 := by rw [← hm1.out, E3.out, hmin, List.length_map, List.length_take]; omega
      have HE2 := hid (show takeF ro xs = (ro, xs.drop 1, (xs[0]?.getD (0, 0)).2, 0) by rw [HE.out, if_neg (not_not_intro HG.out), if_neg (by omega)])
      have HM := hid hmin
      clear hmin hd
      obtain ⟨x, xt, rfl⟩ : ∃ x xt, xs = x :: xt := by cases xs with | nil => simp at hnx | cons x xt => exact ⟨x, xt, rfl⟩
      have E4 := hid (show rw_ = [x.2] by rw [E3.out, HM.out]; rfl)
      have E5 := hid (show rl = (x :: xt).drop 1 by rw [E2.out, HM.out])
      have hm1i : ((m1 : Int) == 0) = false := by simp; omega
      obtain ⟨b, off, rfl, hlo, hbh, hc⟩ := (B1.out.sl (d := (0 : Int))).row (by omega)
      have c0 := hc 0 (by omega)
      rw [E4.out] at c0
      simp only [Nat.add_zero, List.getElem?_cons_zero, Option.getD_some] at c0
      have hm1p : (0 : Int) < (m1 : Int) := by omega
      have hzz := hid PZ.out.lt
      have h15 := hid P5.out.lt
      have ne1 : ¬ w1.heap.size = w.heap.size + 1 := by have := hzl.out; have := hb1.out; simp at this; omega
      have ne2 : ¬ w.heap.size + 1 = w1.heap.size := by omega
      have ne3 : ¬ b = w.heap.size + 1 := by simp at hlo; omega
      have ne4 : ¬ w.heap.size + 1 = b := by omega
      clear hc
      obtain ⟨y00, y01, yf0⟩ := P5.out.cells2
      obtain ⟨y10, y11, yf1⟩ := PZ.out.cells2
      go_wp2_with fail
      go_region
      all_goals
        clear y00 y01 yf0 y10 y11 yf1 c0
        have hlz := hid (show w.heap.size + 1 < ((w.alloc (.cells (qcs A n c ro) 40)).alloc (.cells (qcs none 0 0 0) 40)).heap.size by simp)
        go_wp2
        obtain ⟨q0, q1, qf⟩ := ((PZ.out.setCell 0 (.slice A1 n1 c1)).setCell 1 (.int .u64 ro)).cells2
        refine bodyPost_ret (v := .tuple #[qv A1 n1 c1 ro, .int .u64 x.2, .int .i64 0]) (by simp [results, Try.results65, go_sem, q0, q1]) rfl ?_
        rw [HE2.out]
        have oo := ((O1.out.setCell (p := ⟨w.heap.size + 1, 0, none⟩) hlz.out (.slice A1 n1 c1)).setCell (p := ⟨w.heap.size + 1, 1, none⟩) hlz.out (.int .u64 ro)).step (Below.refl _ _).drew
        rw [E5.out] at oo
        exact ⟨A1, n1, c1, rfl, oo.mono (by simp; omega), ((HB.out.setCell (by simp) _).setCell (by simp) _).drew, hnc⟩
  · have E := HRR.out
    rw [drainF, if_pos hg] at E
    simp only [Prod.mk.injEq] at E
    obtain ⟨rfl, rfl, rfl, rfl⟩ := E
    have HG := hid hg
    clear hg
    obtain ⟨y00, y01, yf0⟩ := PZ.out.cells2
    go_wp2
    obtain ⟨q0, q1, qf⟩ := ((PZ.out.setCell 0 (.slice none 0 0)).setCell 1 (.int .u64 0)).cells2
    refine bodyPost_ret (v := .tuple #[qv none 0 0 0, .int .u64 0, .int .i64 230]) (by simp [results, Try.results65, go_sem, q0, q1]) rfl ?_
    rw [HE.out, if_pos HG.out]
    exact ⟨none, 0, 0, rfl, Qown.nil _ _, (HB.out.setCell (by simp) _).setCell (by simp) _, Nat.le_refl _⟩
/-- how many are done, and how many come next -/
def seg0 (o : Int) (l : List Cb) : Nat := l.countP fun c => decide (c.1 ≤ o)
def seg1 (o : Int) (l : List Cb) : Nat := l.countP fun c => decide (c.1 = o + 1)
def segF (o : Int) (l : List Cb) : Int × Int × Int := if QGood o l then (seg0 o l, seg1 o l, (l.length : Int) - seg0 o l - seg1 o l) else (0, 0, 0)
abbrev tri (a b c : Int) : Value := .agg #[.int .i64 a, .int .i64 b, .int .i64 c]
def SgPost (W : World) (r : Int × Int × Int) (e : Ending) (W' : World) : Prop := e = .returned (tri r.1 r.2.1 r.2.2) ∧ Below W.heap.size W W'
end Go.Proofs.Ytfipdoofgbjbjaa
