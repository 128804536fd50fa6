/- package queue: New, Take, Segments. No condition but sizes. -/
import Derived.Test.YtkdbmlddndgjjaaQd3
namespace Go.Proofs.Ytkdbmlddndgjjaa
open Go.RowKit
def newQ (o : Int) : Int × List Cb × Int := if 9223372036854775806 < o then (0, [], 2) else (o, [], 0)
def NwPost (W : World) (r : Int × List Cb × Int) (e : Ending) (W' : World) : Prop := e = .returned (.tuple #[qv none 0 0 r.1, .int .i64 r.2.2]) ∧ Below W.heap.size W W'
theorem qnew_any (o : Int) (w : World) : Calls Try.prog 21 #[.int .u64 o] w (NwPost w (newQ o)) := by
  have HE := hid (show newQ o = if 9223372036854775806 < o then (0, [], 2) else (o, [], 0) from rfl)
  have HB := hid (Below.refl w.heap.size w)
  have bx := below_box w (.cells (qcs none 0 0 0) 25)
  replace HB := hid (below_then HB.out bx)
  clear bx
  have PZ := hid (Blk.new w 25 (qcs none 0 0 0))
  by_cases h1 : 9223372036854775806 < o
  · have H1 := hid h1
    have h1b : decide (9223372036854775806 < o) = true := decide_eq_true h1
    clear h1
    go_enter Try.func21, Try.ntmps21
    go_upto_region 2 with fail
    generalize w.alloc (.cells (qcs none 0 0 0) 25) = W0 at *
    obtain ⟨y00, y01, yf0⟩ := PZ.out.cells2
    go_wp2
    obtain ⟨q0, q1, qf⟩ := ((PZ.out.setCell 0 (.slice none 0 0)).setCell 1 (.int .u64 0)).cells2
    refine bodyPost_ret (v := .tuple #[qv none 0 0 0, .int .i64 2]) (by simp [results, Try.results21, go_sem, q0, q1]) rfl ?_
    rw [HE.out, if_pos H1.out]
    exact ⟨rfl, (HB.out.setCell (by simp) _).setCell (by simp) _⟩
  · have H1 := hid h1
    have h1b : decide (9223372036854775806 < o) = false := decide_eq_false h1
    clear h1
    go_enter Try.func21, Try.ntmps21
    go_upto_region 3 with fail
    generalize w.alloc (.cells (qcs none 0 0 0) 25) = W0 at *
    obtain ⟨y00, y01, yf0⟩ := PZ.out.cells2
    go_wp2
    obtain ⟨q0, q1, qf⟩ := ((PZ.out.setCell 0 (.slice none 0 0)).setCell 1 (.int .u64 o)).cells2
    refine bodyPost_ret (v := .tuple #[qv none 0 0 o, .int .i64 0]) (by simp [results, Try.results21, go_sem, q0, q1]) rfl ?_
    rw [HE.out, if_neg (by have := H1.out; omega)]
    exact ⟨rfl, (HB.out.setCell (by simp) _).setCell (by simp) _⟩
def takeF (o : Int) (l : List Cb) : Int × List Cb × Int × Int :=
  if ¬ QGood o l then (0, [], 0, 230) else if doneN o l = 0 then (0, [], 0, 4) else (o, l.drop 1, (l[0]?.getD (0, 0)).2, 0)
def TkPost (W : World) (r : Int × List Cb × Int × Int) (e : Ending) (W' : World) : Prop :=
  ∃ A n c, e = .returned (.tuple #[qv A n c r.1, .int .u64 r.2.2.1, .int .i64 r.2.2.2]) ∧ Qown W' W.heap.size A n r.2.1 ∧ Below W.heap.size W W' ∧ n ≤ c
set_option maxHeartbeats 2000000 in
theorem qtake_any (A : Option Addr) (n c : Nat) (o : Int) (xs : List Cb) (w : World) (h : Sm 2 encC (0, 0) w 0 w.heap.size A n xs) (hn : n ≤ 1000000) (h0 : 0 ≤ o) :
    Calls Try.prog 15 #[qv A n c o] w (TkPost w (takeF o xs)) := by
  have HE := hid (show takeF o xs = if ¬ QGood o xs then (0, [], 0, 230) else if doneN o xs = 0 then (0, [], 0, 4) else (o, xs.drop 1, (xs[0]?.getD (0, 0)).2, 0) from rfl)
  have HR := hid h; have HB := hid (Below.refl w.heap.size w)
  have hl := hid h.len
  clear h
  have bx := below_box w (.cells (qcs A n c o) 25)
  replace HR := hid (HR.out.step bx); replace HB := hid (below_then HB.out bx)
  clear bx
  have PQ := hid (Blk.new w 25 (qcs A n c o))
  have bx := below_box (w.alloc (.cells (qcs A n c o) 25)) (.cells (qcs none 0 0 0) 25)
  replace HR := hid (HR.out.step bx); replace PQ := hid (PQ.out.step bx); replace HB := hid (below_then HB.out bx)
  clear bx
  have PZ := hid (Blk.new2 w 25 (qcs none 0 0 0) (.cells (qcs A n c o) 25))
  obtain ⟨y00, y01, yf0⟩ := PQ.out.cells2
  go_enter Try.func15, Try.ntmps15
  go_wp2_with fail
  clear y00 y01 yf0
  refine (drain_any A n c o xs 1 _ HR.out hn h0).mono ?_
  rintro e w1 ⟨A1, n1, c1, B1, m1, d1, rfl, o1, b1, hb, hnc⟩
  replace HR := hid (HR.out.step hb); replace PQ := hid (PQ.out.step hb); replace PZ := hid (PZ.out.step hb); replace HB := hid (below_then HB.out hb)
  obtain ⟨r, hr⟩ : ∃ r, r = drainF o xs 1 := ⟨_, rfl⟩
  rw [← hr] at o1 b1 ⊢
  obtain ⟨ro, rl, rw_, rc⟩ := r
  have HRR := hid hr
  have hb1 := hid hb.size; have hzl := hid PZ.out.lt
  clear hb hr
  dsimp only at o1 b1 ⊢
  have O1 := hid o1; have B1 := hid b1
  clear o1 b1
  have bx := below_box w1 (.cells (qcs A1 n1 c1 ro) 25)
  replace PZ := hid (PZ.out.step bx); replace O1 := hid (O1.out.step bx); replace B1 := hid (B1.out.step bx); replace HB := hid (below_then HB.out bx)
  clear bx
  have P5 := hid (Blk.new w1 25 (qcs A1 n1 c1 ro))
  go_upto_region 2 with fail
  generalize w1.alloc (.cells (qcs A1 n1 c1 ro) 25) = W2 at *
  by_cases hg : QGood o xs
  · have E := HRR.out
    rw [drainF, if_neg (not_not_intro hg), if_neg (by decide)] at E
    simp only [Prod.mk.injEq] at E
    obtain ⟨rfl, e2, e3, rfl⟩ := E
    have HG := hid hg; have E2 := hid e2; have E3 := hid e3
    have hm1 := hid B1.out.len
    clear e2 e3 hg
    rcases Nat.eq_zero_or_pos (doneN ro xs) with hd | hd
    · have hm0 : m1 = 0 := by rw [← hm1.out, E3.out, hd]; simp
      have hm0i : (m1 : Int) = 0 := by omega
      have HD := hid hd
      clear hd
      obtain ⟨y00, y01, yf0⟩ := PZ.out.cells2
      go_wp2
      obtain ⟨q0, q1, qf⟩ := ((PZ.out.setCell 0 (.slice none 0 0)).setCell 1 (.int .u64 0)).cells2
      refine bodyPost_ret (v := .tuple #[qv none 0 0 0, .int .u64 0, .int .i64 4]) (by simp [results, Try.results15, go_sem, q0, q1]) rfl ?_
      rw [HE.out, if_neg (not_not_intro HG.out), if_pos HD.out]
      exact ⟨none, 0, 0, rfl, Qown.nil _ _, (HB.out.setCell (by simp) _).setCell (by simp) _, Nat.le_refl _⟩
    · have hnx : 0 < xs.length := Nat.lt_of_lt_of_le hd (doneN_le _ _)
      have hmin : min (doneN ro xs) (1 : Int).toNat = 1 := by simp; omega
      have hm0 : m1 = 1 := by rw [← hm1.out, E3.out, hmin, List.length_map, List.length_take]; omega
      have HE2 := hid (show takeF ro xs = (ro, xs.drop 1, (xs[0]?.getD (0, 0)).2, 0) by rw [HE.out, if_neg (not_not_intro HG.out), if_neg (by omega)])
      have HM := hid hmin
      clear hmin hd
      obtain ⟨x, xt, rfl⟩ : ∃ x xt, xs = x :: xt := by cases xs with | nil => simp at hnx | cons x xt => exact ⟨x, xt, rfl⟩
      have E4 := hid (show rw_ = [x.2] by rw [E3.out, HM.out]; rfl)
      have E5 := hid (show rl = (x :: xt).drop 1 by rw [E2.out, HM.out])
      have hm1i : ((m1 : Int) == 0) = false := by simp; omega
      obtain ⟨b, off, rfl, hlo, hbh, hc⟩ := (B1.out.sl (d := (0 : Int))).row (by omega)
      have c0 := hc 0 (by omega)
      rw [E4.out] at c0
      simp only [Nat.add_zero, List.getElem?_cons_zero, Option.getD_some] at c0
      have hm1p : (0 : Int) < (m1 : Int) := by omega
      have hzz := hid PZ.out.lt
      have h15 := hid P5.out.lt
      have ne1 : ¬ w1.heap.size = w.heap.size + 1 := by have := hzl.out; have := hb1.out; simp at this; omega
      have ne2 : ¬ w.heap.size + 1 = w1.heap.size := by omega
      have ne3 : ¬ b = w.heap.size + 1 := by simp at hlo; omega
      have ne4 : ¬ w.heap.size + 1 = b := by omega
      clear hc
      obtain ⟨y00, y01, yf0⟩ := P5.out.cells2
      obtain ⟨y10, y11, yf1⟩ := PZ.out.cells2
      go_wp2_with fail
      go_region
      all_goals
        clear y00 y01 yf0 y10 y11 yf1 c0
        have hlz := hid (show w.heap.size + 1 < ((w.alloc (.cells (qcs A n c ro) 25)).alloc (.cells (qcs none 0 0 0) 25)).heap.size by simp)
        go_wp2
        obtain ⟨q0, q1, qf⟩ := ((PZ.out.setCell 0 (.slice A1 n1 c1)).setCell 1 (.int .u64 ro)).cells2
        refine bodyPost_ret (v := .tuple #[qv A1 n1 c1 ro, .int .u64 x.2, .int .i64 0]) (by simp [results, Try.results15, go_sem, q0, q1]) rfl ?_
        rw [HE2.out]
        have oo := ((O1.out.setCell (p := ⟨w.heap.size + 1, 0, none⟩) hlz.out (.slice A1 n1 c1)).setCell (p := ⟨w.heap.size + 1, 1, none⟩) hlz.out (.int .u64 ro)).step (Below.refl _ _).drew
        rw [E5.out] at oo
        exact ⟨A1, n1, c1, rfl, oo.mono (by simp; omega), ((HB.out.setCell (by simp) _).setCell (by simp) _).drew, hnc⟩
  · have E := HRR.out
    rw [drainF, if_pos hg] at E
    simp only [Prod.mk.injEq] at E
    obtain ⟨rfl, rfl, rfl, rfl⟩ := E
    have HG := hid hg
    clear hg
    obtain ⟨y00, y01, yf0⟩ := PZ.out.cells2
    go_wp2
    obtain ⟨q0, q1, qf⟩ := ((PZ.out.setCell 0 (.slice none 0 0)).setCell 1 (.int .u64 0)).cells2
    refine bodyPost_ret (v := .tuple #[qv none 0 0 0, .int .u64 0, .int .i64 230]) (by simp [results, Try.results15, go_sem, q0, q1]) rfl ?_
    rw [HE.out, if_pos HG.out]
    exact ⟨none, 0, 0, rfl, Qown.nil _ _, (HB.out.setCell (by simp) _).setCell (by simp) _, Nat.le_refl _⟩
/-- how many are done, and how many come next -/
def seg0 (o : Int) (l : List Cb) : Nat := l.countP fun c => decide (c.1 ≤ o)
def seg1 (o : Int) (l : List Cb) : Nat := l.countP fun c => decide (c.1 = o + 1)
def segF (o : Int) (l : List Cb) : Int × Int × Int := if QGood o l then (seg0 o l, seg1 o l, (l.length : Int) - seg0 o l - seg1 o l) else (0, 0, 0)
abbrev tri (a b c : Int) : Value := .agg #[.int .i64 a, .int .i64 b, .int .i64 c]
def SgPost (W : World) (r : Int × Int × Int) (e : Ending) (W' : World) : Prop := e = .returned (tri r.1 r.2.1 r.2.2) ∧ Below W.heap.size W W'
theorem seg_le (o : Int) (l : List Cb) : seg0 o l + seg1 o l ≤ l.length := by
  induction l with
  | nil => simp [seg0, seg1]
  | cons c l ih =>
    unfold seg0 seg1 at *
    rw [List.countP_cons, List.countP_cons, List.length_cons]
    by_cases h1 : c.1 ≤ o
    · rw [if_pos (by simpa using h1), if_neg (by simp; omega)]; omega
    · by_cases h2 : c.1 = o + 1
      · rw [if_neg (by simpa using h1), if_pos (by simpa using h2)]; omega
      · rw [if_neg (by simpa using h1), if_neg (by simpa using h2)]; omega
theorem take_snoc {l : List Cb} {j : Nat} (h : j < l.length) : l.take (j + 1) = l.take j ++ [l[j]?.getD (0, 0)] := by
  rw [List.take_add_one, List.getElem?_eq_getElem h]; rfl
set_option maxHeartbeats 4000000 in
theorem qsegs_any (A : Option Addr) (n c : Nat) (o : Int) (xs : List Cb) (w : World) (h : Sm 2 encC (0, 0) w 0 w.heap.size A n xs) (hn : n ≤ 1000000) (h0 : 0 ≤ o) (hnc : n ≤ c) :
    Calls Try.prog 20 #[qv A n c o] w (SgPost w (segF o xs)) := by
  have HE := hid (show segF o xs = if QGood o xs then ((seg0 o xs : Int), (seg1 o xs : Int), (xs.length : Int) - seg0 o xs - seg1 o xs) else (0, 0, 0) from rfl)
  have HC := hid (show qcheckC o xs = if QGood o xs then 0 else 230 from rfl)
  have hl := hid h.len
  have HR := hid h; have HRW := HR; have HB := hid (Below.refl w.heap.size w)
  clear h
  have bx := below_box w (.cells (qcs A n c o) 25)
  replace HR := hid (HR.out.step bx); replace HB := hid (below_then HB.out bx)
  clear bx
  have PQ := hid (Blk.new w 25 (qcs A n c o))
  have bx := below_box (w.alloc (.cells (qcs A n c o) 25)) (.cells #[.int .i64 0, .int .i64 0, .int .i64 0] 48)
  replace HR := hid (HR.out.step bx); replace PQ := hid (PQ.out.step bx); replace HB := hid (below_then HB.out bx)
  clear bx
  have PZ := hid (Blk.new2 w 48 #[.int .i64 0, .int .i64 0, .int .i64 0] (.cells (qcs A n c o) 25))
  have bx := below_box ((w.alloc (.cells (qcs A n c o) 25)).alloc (.cells #[.int .i64 0, .int .i64 0, .int .i64 0] 48)) (.cells #[.int .i64 0, .int .i64 0, .int .i64 0] 48)
  replace HR := hid (HR.out.step bx); replace PQ := hid (PQ.out.step bx); replace PZ := hid (PZ.out.step bx); replace HB := hid (below_then HB.out bx)
  clear bx
  have PO := hid (Blk.new3 w 48 #[.int .i64 0, .int .i64 0, .int .i64 0] (.cells (qcs A n c o) 25) (.cells #[.int .i64 0, .int .i64 0, .int .i64 0] 48))
  obtain ⟨y00, y01, yf0⟩ := PQ.out.cells2
  go_enter Try.func20, Try.ntmps20
  go_wp2_with fail
  clear y00 y01 yf0
  refine (qcheck_any A n c o xs _ HR.out hn h0).mono ?_
  rintro e w1 ⟨rfl, hb⟩
  replace HR := hid (HR.out.step hb); replace PQ := hid (PQ.out.step hb); replace PZ := hid (PZ.out.step hb); replace PO := hid (PO.out.step hb); replace HB := hid (below_then HB.out hb)
  clear hb
  have hw1 := hid (show w.heap.size + 1 + 1 < w1.heap.size from PO.out.lt)
  by_cases hg : QGood o xs
  · have e0 : qcheckC o xs = 0 := by rw [HC.out, if_pos hg]
    rw [e0]
    clear e0
    have hw2 : IntKind.u64.wrap (o + 1) = o + 1 := by have := hg.1; rw [IntKind.wrap_u64]; omega
    have HE2 := hid (show segF o xs = ((seg0 o xs : Int), (seg1 o xs : Int), (xs.length : Int) - seg0 o xs - seg1 o xs) by rw [HE.out, if_pos hg])
    clear HE HC hg
    obtain ⟨y00, y01, yf0⟩ := PQ.out.cells2
    go_wp2_with fail
    clear y00 y01 yf0
    have HP0 := hid PO.out; have HB0 := hid (Below.refl w1.heap.size w1)
    go_loopw [13] (fun i wr => ∃ j : Nat, j ≤ n ∧ i = .int .i64 j ∧ Blk wr (w.heap.size + 1 + 1) 48 #[.int .i64 (seg0 o (xs.take j) : Nat), .int .i64 ((seg0 o (xs.take j) : Nat) + (seg1 o (xs.take j) : Nat) : Int), .int .i64 (j : Nat)] ∧ Blk wr w.heap.size 25 (qcs A n c o) ∧ Blk wr (w.heap.size + 1) 48 #[.int .i64 0, .int .i64 0, .int .i64 0] ∧ Below w.heap.size w wr) (fun i _ => n - (intOf i).toNat)
    case atStart => exact ⟨0, Nat.zero_le _, rfl, PO.out, PQ.out, PZ.out, HB.out⟩
    case round =>
      clear HP0 HB0 PO PQ PZ HR HB
      obtain ⟨j, hj, rfl, hpo, hpq, hpz, hb⟩ := hrel
      have PO := hid hpo; have PQ := hid hpq; have PZ := hid hpz; have HB := hid hb; have HR := hid (HRW.out.below hb (Nat.le_refl _))
      clear hpo hpq hpz hb
      by_cases hjn : j < n
      · obtain ⟨b, off, rfl, _, hbh, hc⟩ := HR.out.row (by omega)
        obtain ⟨f0, f1⟩ := Sm.cb (lo := 0) (hi := w.heap.size) hc hjn
        obtain ⟨⟨v0, v1⟩, hx⟩ : ∃ x, x = xs[j]?.getD (0, 0) := ⟨_, rfl⟩
        rw [← hx] at f0 f1
        have hjc : (j : Int) < (n : Int) := by omega
        have HTK := hid (show xs.take (j + 1) = xs.take j ++ [(v0, v1)] by rw [hx]; exact take_snoc (by rw [hl.out]; exact hjn))
        clear hx hc
        go_upto_region 7 with fail
        clear f0 f1
        have bx := below_box wr (.cells #[.int .u64 v0, .int .u64 v1] 53)
        have PC := hid (Blk.new wr 53 #[.int .u64 v0, .int .u64 v1])
        replace PO := hid (PO.out.step bx); replace PQ := hid (PQ.out.step bx); replace PZ := hid (PZ.out.step bx); replace HB := hid (below_then HB.out bx)
        clear bx HR
        generalize wr.alloc (.cells #[.int .u64 v0, .int .u64 v1] 53) = W1 at *
        have hle1 := hid (seg_le o (xs.take j))
        have hlt := hid (List.length_take_le j xs)
        obtain ⟨a0, ha0⟩ : ∃ a0, a0 = seg0 o (xs.take j) := ⟨_, rfl⟩
        obtain ⟨a1, ha1⟩ : ∃ a1, a1 = seg1 o (xs.take j) := ⟨_, rfl⟩
        rw [← ha0, ← ha1] at PO hle1
        have HA0 := hid ha0; have HA1 := hid ha1
        clear ha0 ha1
        have ha01 : a0 + a1 ≤ j := Nat.le_trans hle1.out hlt.out
        have hwa : IntKind.i64.wrap ((a0 : Int) + 1) = (a0 : Int) + 1 := by rw [IntKind.wrap_i64]; omega
        have hwb : IntKind.i64.wrap ((a0 : Int) + (a1 : Int) + 1) = (a0 : Int) + (a1 : Int) + 1 := by rw [IntKind.wrap_i64]; omega
        have hwc : IntKind.i64.wrap ((j : Int) + 1) = (j : Int) + 1 := by rw [IntKind.wrap_i64]; omega
        have h0' : seg0 o (xs.take (j + 1)) = a0 + if v0 ≤ o then 1 else 0 := by
          rw [HTK.out, HA0.out]; unfold seg0; rw [List.countP_append, List.countP_cons]; simp
        have h1' : seg1 o (xs.take (j + 1)) = a1 + if v0 = o + 1 then 1 else 0 := by
          rw [HTK.out, HA1.out]; unfold seg1; rw [List.countP_append, List.countP_cons]; simp
        have H0' := hid h0'; have H1' := hid h1'
        clear h0' h1'
        obtain ⟨y0, y1, yf⟩ := PQ.out.cells2
        obtain ⟨z0, z1, zf⟩ := PC.out.cells2
        obtain ⟨t0, t1, t2, tf⟩ := PO.out.cells3
        by_cases hd : v0 ≤ o
        · have hd2 : ¬ v0 = o + 1 := by omega
          go_wp2
          clear y0 y1 yf z0 z1 zf t0 t1 t2 tf
          go_roundw
          case rel =>
            have hp := (((PO.out.setCell 0 (.int .i64 ((a0 : Int) + 1))).setCell 1 (.int .i64 ((a0 : Int) + (a1 : Int) + 1))).setCell 2 (.int .i64 ((j : Int) + 1)))
            have q0 : ((seg0 o (xs.take (j + 1)) : Nat) : Int) = (a0 : Int) + 1 := by rw [H0'.out, if_pos hd]; omega
            have q1 : ((seg0 o (xs.take (j + 1)) : Nat) : Int) + ((seg1 o (xs.take (j + 1)) : Nat) : Int) = (a0 : Int) + (a1 : Int) + 1 := by rw [H0'.out, H1'.out, if_pos hd, if_neg hd2]; omega
            have q2 : ((j + 1 : Nat) : Int) = (j : Int) + 1 := by omega
            refine ⟨j + 1, by omega, by go_num, ?_, (((PQ.out.far (p := ⟨w.heap.size + 1 + 1, 0, none⟩) (by simp <;> omega) (.int .i64 ((a0 : Int) + 1))).far (p := ⟨w.heap.size + 1 + 1, 1, none⟩) (by simp <;> omega) (.int .i64 ((a0 : Int) + (a1 : Int) + 1))).far (p := ⟨w.heap.size + 1 + 1, 2, none⟩) (by simp <;> omega) (.int .i64 ((j : Int) + 1))), (((PZ.out.far (p := ⟨w.heap.size + 1 + 1, 0, none⟩) (by simp <;> omega) (.int .i64 ((a0 : Int) + 1))).far (p := ⟨w.heap.size + 1 + 1, 1, none⟩) (by simp <;> omega) (.int .i64 ((a0 : Int) + (a1 : Int) + 1))).far (p := ⟨w.heap.size + 1 + 1, 2, none⟩) (by simp <;> omega) (.int .i64 ((j : Int) + 1))), (((HB.out.setCell (p := ⟨w.heap.size + 1 + 1, 0, none⟩) (by simp; omega) (.int .i64 ((a0 : Int) + 1))).setCell (p := ⟨w.heap.size + 1 + 1, 1, none⟩) (by simp; omega) (.int .i64 ((a0 : Int) + (a1 : Int) + 1))).setCell (p := ⟨w.heap.size + 1 + 1, 2, none⟩) (by simp; omega) (.int .i64 ((j : Int) + 1)))⟩
            rw [q1, q0, q2]
            exact hp
          case measure => simp [intOf]; omega
        · by_cases hd2 : v0 = o + 1
          · have hd2b : (v0 == o + 1) = true := by simpa using hd2
            go_wp2
            clear y0 y1 yf z0 z1 zf t0 t1 t2 tf
            go_roundw
            case rel =>
              have hp := ((PO.out.setCell 1 (.int .i64 ((a0 : Int) + (a1 : Int) + 1))).setCell 2 (.int .i64 ((j : Int) + 1)))
              have q0 : ((seg0 o (xs.take (j + 1)) : Nat) : Int) = (a0 : Int) := by rw [H0'.out, if_neg hd]; omega
              have q1 : ((seg0 o (xs.take (j + 1)) : Nat) : Int) + ((seg1 o (xs.take (j + 1)) : Nat) : Int) = (a0 : Int) + (a1 : Int) + 1 := by rw [H0'.out, H1'.out, if_neg hd, if_pos hd2]; omega
              have q2 : ((j + 1 : Nat) : Int) = (j : Int) + 1 := by omega
              refine ⟨j + 1, by omega, by go_num, ?_, ((PQ.out.far (p := ⟨w.heap.size + 1 + 1, 1, none⟩) (by simp <;> omega) (.int .i64 ((a0 : Int) + (a1 : Int) + 1))).far (p := ⟨w.heap.size + 1 + 1, 2, none⟩) (by simp <;> omega) (.int .i64 ((j : Int) + 1))), ((PZ.out.far (p := ⟨w.heap.size + 1 + 1, 1, none⟩) (by simp <;> omega) (.int .i64 ((a0 : Int) + (a1 : Int) + 1))).far (p := ⟨w.heap.size + 1 + 1, 2, none⟩) (by simp <;> omega) (.int .i64 ((j : Int) + 1))), ((HB.out.setCell (p := ⟨w.heap.size + 1 + 1, 1, none⟩) (by simp; omega) (.int .i64 ((a0 : Int) + (a1 : Int) + 1))).setCell (p := ⟨w.heap.size + 1 + 1, 2, none⟩) (by simp; omega) (.int .i64 ((j : Int) + 1)))⟩
              rw [q1, q0, q2]
              exact hp
            case measure => simp [intOf]; omega
          · have hd2b : (v0 == o + 1) = false := by simpa using hd2
            go_wp2
            clear y0 y1 yf z0 z1 zf t0 t1 t2 tf
            go_roundw
            case rel =>
              have hp := (PO.out.setCell 2 (.int .i64 ((j : Int) + 1)))
              have q0 : ((seg0 o (xs.take (j + 1)) : Nat) : Int) = (a0 : Int) := by rw [H0'.out, if_neg hd]; omega
              have q1 : ((seg0 o (xs.take (j + 1)) : Nat) : Int) + ((seg1 o (xs.take (j + 1)) : Nat) : Int) = (a0 : Int) + (a1 : Int) := by rw [H0'.out, H1'.out, if_neg hd, if_neg hd2]; omega
              have q2 : ((j + 1 : Nat) : Int) = (j : Int) + 1 := by omega
              refine ⟨j + 1, by omega, by go_num, ?_, (PQ.out.far (p := ⟨w.heap.size + 1 + 1, 2, none⟩) (by simp <;> omega) (.int .i64 ((j : Int) + 1))), (PZ.out.far (p := ⟨w.heap.size + 1 + 1, 2, none⟩) (by simp <;> omega) (.int .i64 ((j : Int) + 1))), (HB.out.setCell (p := ⟨w.heap.size + 1 + 1, 2, none⟩) (by simp; omega) (.int .i64 ((j : Int) + 1)))⟩
              rw [q1, q0, q2]
              exact hp
            case measure => simp [intOf]; omega
      · obtain rfl : j = n := by omega
        have htk := hid (show xs.take j = xs from List.take_of_length_le (by rw [hl.out]; exact Nat.le_refl _))
        rw [htk.out] at PO
        have hle := seg_le o xs
        have hll := hl.out
        obtain ⟨a0, ha0⟩ : ∃ a0, a0 = seg0 o xs := ⟨_, rfl⟩
        obtain ⟨a1, ha1⟩ : ∃ a1, a1 = seg1 o xs := ⟨_, rfl⟩
        have HE3 := HE2.out
        rw [← ha0, ← ha1] at PO hle HE3
        rw [hll] at HE3
        have HE4 := hid HE3
        have hwa : IntKind.i64.wrap ((a0 : Int) + (a1 : Int) - (a0 : Int)) = (a1 : Int) := by rw [IntKind.wrap_i64]; omega
        have hwa2 : IntKind.i64.wrap (a1 : Int) = (a1 : Int) := by rw [IntKind.wrap_i64]; omega
        have hwb : IntKind.i64.wrap ((j : Int) - ((a0 : Int) + (a1 : Int))) = (j : Int) - (a0 : Int) - (a1 : Int) := by rw [IntKind.wrap_i64]; omega
        obtain ⟨t0, t1, t2, tf⟩ := PO.out.cells3
        obtain ⟨z0, z1, z2, zf⟩ := PZ.out.cells3
        clear htk HR hle ha0 ha1 HE3 hll
        go_wp2
        obtain ⟨q0, q1, q2, qf⟩ := (((PZ.out.setCell 0 (.int .i64 (a0 : Int))).setCell 1 (.int .i64 (a1 : Int))).setCell 2 (.int .i64 ((j : Int) - (a0 : Int) - (a1 : Int)))).cells3
        refine bodyPost_ret (v := tri (a0 : Int) (a1 : Int) ((j : Int) - (a0 : Int) - (a1 : Int))) (by simp [results, Try.results20, go_sem, q0, q1, q2]) rfl ?_
        rw [HE4.out]
        exact ⟨rfl, ((HB.out.setCell (by simp) _).setCell (by simp) _).setCell (by simp) _⟩
  · have e0 : qcheckC o xs = 230 := by rw [HC.out, if_neg hg]
    rw [e0]
    clear e0
    have HG := hid hg
    clear hg
    obtain ⟨y00, y01, y02, yf0⟩ := PZ.out.cells3
    obtain ⟨y10, y11, y12, yf1⟩ := PO.out.cells3
    go_wp2
    obtain ⟨q0, q1, q2, qf⟩ := (((PZ.out.setCell 0 (.int .i64 0)).setCell 1 (.int .i64 0)).setCell 2 (.int .i64 0)).cells3
    refine bodyPost_ret (v := tri 0 0 0) (by simp [results, Try.results20, go_sem, q0, q1, q2]) rfl ?_
    rw [HE.out, if_neg HG.out]
    exact ⟨rfl, ((HB.out.setCell (by simp) _).setCell (by simp) _).setCell (by simp) _⟩
end Go.Proofs.Ytkdbmlddndgjjaa
