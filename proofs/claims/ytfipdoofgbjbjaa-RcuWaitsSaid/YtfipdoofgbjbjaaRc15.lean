/- package rcu: quiet, waiting, idle. No condition but sizes, and that numbers are of their kinds. -/
import Derived.Test.YtfipdoofgbjbjaaRc14
import Derived.Test.YtfipdoofgbjbjaaGr15
namespace Go.Proofs.Ytfipdoofgbjbjaa
open Go.RowKit
attribute [local go_sem] Oper.semAt_some
/-- how many callbacks there are -/
def wN (qs : Qs) : Nat := (qs.map fun q => q.1.length).sum
def quietB (s : St) : Bool := s.2.1.all fun n => decide (n = 0)
def idleB (s : St) (g : Gr) (qs : Qs) : Bool := quietB s && (decide (wN qs = 0) && (!g.on && decide (g.ak = g.dn)))
theorem wN_take {es : List Qe} {j : Nat} (h : j < es.length) : wN (ql (es.take (j + 1))) = wN (ql (es.take j)) + (es[j]?.getD zQe).l.length := by
  rw [List.take_succ_eq_append_getElem h, List.getElem?_eq_getElem h]
  unfold wN ql
  simp only [List.map_append, List.map_cons, List.map_nil, List.sum_append, List.sum_cons, List.sum_nil, Nat.add_zero, Option.getD_some]
theorem wN_le {es : List Qe} (h : ∀ x ∈ es, x.l.length ≤ 1000) : ∀ j, wN (ql (es.take j)) ≤ j * 1000 := by
  intro j
  induction j with
  | zero => simp [wN, ql]
  | succ j ih =>
    rcases Nat.lt_or_ge j es.length with hj | hj
    · rw [wN_take hj]
      have := h _ (List.getElem_mem hj)
      rw [List.getElem?_eq_getElem hj]
      show _ + es[j].l.length ≤ _
      omega
    · rw [List.take_of_length_le (by omega)]
      rw [List.take_of_length_le hj] at ih
      exact Nat.le_trans ih (Nat.mul_le_mul_right _ (Nat.le_succ _))
theorem quiet1_any (x : Int) (w : World) : Calls Try.prog 58 #[.int .i64 x] w fun e w' => e = .returned (.bool (decide (x = 0))) ∧ Below w.heap.size w w' := by
  go_enter Try.func58, Try.ntmps58
  go_wp2
  go_ret
  exact ⟨ret_bool rfl, Below.refl _ _⟩
set_option maxRecDepth 100000 in
set_option maxHeartbeats 4000000 in
theorem rquiet_any (s : St) (g : Gr) (es : List Qe) (a : Ra) (w : World) (h : RcR w s g es a) :
    Calls Try.prog 37 #[rcv s g a] w fun e w' => e = .returned (.bool (quietB s)) ∧ Below w.heap.size w w' := by
  have HR := hid h; have HB := hid (Below.refl w.heap.size w)
  clear h
  have bx := below_box w (.cells (rcells s g a) 30)
  replace HR := hid (HR.out.step bx); replace HB := hid (below_then HB.out bx)
  clear bx
  have PR := hid (Blk.new w 30 (rcells s g a))
  go_enter Try.func37, Try.ntmps37
  obtain ⟨y00, y01, y02, y03, y04, y05, y06, y07, yf0⟩ := PR.out.cells8
  go_wp2_with fail
  have hz0 := hid (show (w.alloc (.cells (rcells s g a) 30)).heap.size = w.heap.size + 1 by simp)
  generalize w.alloc (.cells (rcells s g a) 30) = W0 at *
  clear y00 y01 y02 y03 y04 y05 y06 y07 yf0
  refine (all_int a.A a.n a.k s.2.1 58 #[] (fun n => decide (n = 0)) W0 HR.out.rd.hx (by have := HR.out.rd.hn; omega) (enters_of Try.func58 (by kernel_rfl) rfl) (fun y W hy hbW => quiet1_any y W)).mono ?_
  rintro e w2 ⟨rfl, hb⟩
  replace HR := hid (HR.out.step hb); replace PR := hid (PR.out.step hb); replace HB := hid (below_then HB.out hb)
  clear hb hz0
  go_wp2
  go_ret
  exact ⟨rfl, HB.out⟩
set_option maxRecDepth 100000 in
set_option maxHeartbeats 4000000 in
theorem waiting_any (s : St) (g : Gr) (es : List Qe) (a : Ra) (w : World) (h : RcR w s g es a) :
    Calls Try.prog 27 #[rcv s g a] w fun e w' => e = .returned (.int .i64 (wN (ql es))) ∧ Below w.heap.size w w' := by
  have HR := hid h; have HB := hid (Below.refl w.heap.size w)
  clear h
  have bx := below_box w (.cells (rcells s g a) 30)
  replace HR := hid (HR.out.step bx); replace HB := hid (below_then HB.out bx)
  clear bx
  have PR := hid (Blk.new w 30 (rcells s g a))
  go_enter Try.func27, Try.ntmps27
  obtain ⟨y00, y01, y02, y03, y04, y05, y06, y07, yf0⟩ := PR.out.cells8
  go_wp2_with fail
  have hz0 := hid (show (w.alloc (.cells (rcells s g a) 30)).heap.size = w.heap.size + 1 by simp)
  generalize w.alloc (.cells (rcells s g a) 30) = W0 at *
  clear y00 y01 y02 y03 y04 y05 y06 y07 yf0
  have hl := hid HR.out.qs.len
  have HWN := hid (wN_le (es := es) (fun x hx => by rw [(HR.out.qe x hx).1.len]; exact (HR.out.qe x hx).2.2.1))
  have HQL := hid HR.out.ql
  go_loopw [3, 5, 9] (fun n _ i wr => ∃ j : Nat, j ≤ a.nq ∧ i = .int .i64 j ∧ n = .int .i64 (wN (ql (es.take j))) ∧ Below W0.heap.size W0 wr) (fun _ _ i _ => a.nq - (intOf i).toNat)
  case atStart => exact ⟨0, Nat.zero_le _, rfl, by simp [wN, ql], Below.refl _ _⟩
  case round =>
    obtain ⟨j, hj, rfl, rfl, hbw⟩ := hrel
    have HBW := hid hbw
    clear hbw
    by_cases hjn : j < a.nq
    rotate_left
    · obtain rfl : j = a.nq := by omega
      have hnn : ¬ ((a.nq : Int) < (a.nq : Int)) := by omega
      have he := hid (show wN (ql (es.take a.nq)) = wN (ql es) by rw [List.take_of_length_le (by rw [hl.out]; exact Nat.le_refl _)])
      rw [he.out]
      clear he
      go_wp2
      go_ret
      exact ⟨rfl, below_then HB.out HBW.out⟩
    obtain ⟨b, off, hQ, _, hbh, hc⟩ := (HR.out.qs.below HBW.out (Nat.le_refl _)).row (by omega)
    obtain ⟨x, hx⟩ : ∃ x, x = es[j]?.getD zQe := ⟨_, rfl⟩
    have f0 := hc j hjn 0 (by omega)
    have f1 := hc j hjn 1 (by omega)
    rw [← hx] at f0 f1
    have hjl : j < es.length := by rw [hl.out]; exact hjn
    have hwt := wN_take hjl
    rw [← hx] at hwt
    have HM := hid (show x ∈ es by rw [hx, List.getElem?_eq_getElem hjl]; exact List.getElem_mem _)
    have hxn : x.l.length = x.n := (HR.out.qe x HM.out).1.len
    rw [hxn] at hwt
    have hxk : x.n ≤ 1000 := (HR.out.qe x HM.out).2.2.1
    have HWT := hid hwt
    obtain ⟨xl, xo, xA, xn, xc⟩ := x
    have hw0 : wN (ql (es.take j)) ≤ j * 1000 := HWN.out j
    have hnq : a.nq ≤ 1000 := HQL.out
    dsimp only at hxn hxk
    replace f0 : wr.cell? ⟨b, off + j * 2, none⟩ = some (.slice xA xn xc) := f0
    replace f1 : wr.cell? ⟨b, off + j * 2 + 1, none⟩ = some (.int .u64 xo) := f1
    have hji : (j : Int) < (a.nq : Int) := by omega
    have hw1 : IntKind.i64.wrap ((j : Int) + 1) = (j : Int) + 1 := by rw [IntKind.wrap_i64]; omega
    obtain ⟨m, hm⟩ : ∃ m, m = wN (ql (es.take j)) := ⟨_, rfl⟩
    rw [← hm] at hw0 ⊢
    have HMM := hid hm
    have hw2 : IntKind.i64.wrap ((m : Int) + (xn : Int)) = (m : Int) + (xn : Int) := by rw [IntKind.wrap_i64]; omega
    have bx := hid (below_box wr (.cells #[.slice xA xn xc, .int .u64 xo] 40))
    obtain ⟨q0, q1, qf⟩ := (Blk.new wr 40 #[.slice xA xn xc, .int .u64 xo]).cells2
    clear hm hc hx hwt hw0 hxn hxk hnq hbh hjl
    rw [hQ]
    go_wp2_with fail
    go_roundw
    case rel => exact ⟨j + 1, by omega, by go_num, by rw [HWT.out, ← HMM.out]; simp, below_then HBW.out bx.out⟩
    case measure => simp [intOf]; omega
set_option maxRecDepth 100000 in
set_option maxHeartbeats 4000000 in
theorem rwaiting_any (s : St) (g : Gr) (es : List Qe) (a : Ra) (w : World) (h : RcR w s g es a) :
    Calls Try.prog 8 #[rcv s g a] w fun e w' => e = .returned (.int .i64 (if RcOk s g es then (wN (ql es) : Int) else 0)) ∧ Below w.heap.size w w' := by
  have HR := hid h; have HB := hid (Below.refl w.heap.size w)
  clear h
  have bx := below_box w (.cells (rcells s g a) 30)
  replace HR := hid (HR.out.step bx); replace HB := hid (below_then HB.out bx)
  clear bx
  have PR := hid (Blk.new w 30 (rcells s g a))
  obtain ⟨V, hV⟩ : ∃ V : Int, V = if RcOk s g es then (wN (ql es) : Int) else 0 := ⟨_, rfl⟩
  rw [← hV]
  have HY := hid (fun h : RcOk s g es => show V = (wN (ql es) : Int) by rw [hV]; exact if_pos h); have HN := hid (fun h : ¬ RcOk s g es => show V = 0 by rw [hV]; exact if_neg h)
  have HCY := hid (fun h : RcOk s g es => show rcheckC s g es = 0 from if_pos h); have HCN := hid (fun h : ¬ RcOk s g es => show rcheckC s g es = 240 from if_neg h)
  clear hV
  go_enter Try.func8, Try.ntmps8
  obtain ⟨y00, y01, y02, y03, y04, y05, y06, y07, yf0⟩ := PR.out.cells8
  go_wp2_with fail
  have hz0 := hid (show (w.alloc (.cells (rcells s g a) 30)).heap.size = w.heap.size + 1 by simp)
  generalize w.alloc (.cells (rcells s g a) 30) = W0 at *
  clear y00 y01 y02 y03 y04 y05 y06 y07 yf0 hz0
  refine (rcheck_any s g es a _ HR.out).mono ?_
  rintro e w1 ⟨rfl, hb⟩
  replace HR := hid (HR.out.step hb); replace PR := hid (PR.out.step hb); replace HB := hid (below_then HB.out hb)
  clear hb
  by_cases hok : RcOk s g es
  ·skip
   rw [HCY.out hok]
   have HV2 := hid (HY.out hok)
   clear hok HCY HCN HY HN
   obtain ⟨y00, y01, y02, y03, y04, y05, y06, y07, yf0⟩ := PR.out.cells8
   go_wp2_with fail
   clear y00 y01 y02 y03 y04 y05 y06 y07 yf0
   refine (waiting_any s g es a _ HR.out).mono ?_
   rintro e w2 ⟨rfl, hb⟩
   replace HR := hid (HR.out.step hb); replace PR := hid (PR.out.step hb); replace HB := hid (below_then HB.out hb)
   clear hb
   go_wp2
   go_ret
   exact ⟨ret_int HV2.out.symm, HB.out⟩
  ·skip
   rw [HCN.out hok]
   have HV2 := hid (HN.out hok)
   clear hok HCY HCN HY HN
   go_wp2
   go_ret
   exact ⟨ret_int HV2.out.symm, HB.out⟩
set_option maxRecDepth 100000 in
set_option maxHeartbeats 4000000 in
theorem rcidle_any (s : St) (g : Gr) (es : List Qe) (a : Ra) (w : World) (h : RcR w s g es a) :
    Calls Try.prog 38 #[rcv s g a] w fun e w' => e = .returned (.bool (idleB s g (ql es))) ∧ Below w.heap.size w w' := by
  have HR := hid h; have HB := hid (Below.refl w.heap.size w)
  clear h
  have bx := below_box w (.cells (rcells s g a) 30)
  replace HR := hid (HR.out.step bx); replace HB := hid (below_then HB.out bx)
  clear bx
  have PR := hid (Blk.new w 30 (rcells s g a))
  obtain ⟨V, hV⟩ : ∃ V, V = idleB s g (ql es) := ⟨_, rfl⟩
  obtain ⟨q, hq⟩ : ∃ q, q = quietB s := ⟨_, rfl⟩
  rw [← hV]
  unfold idleB at hV
  rw [← hq] at hV
  have HV := hid hV; have HQ := hid hq
  clear hV hq
  go_enter Try.func38, Try.ntmps38
  obtain ⟨y00, y01, y02, y03, y04, y05, y06, y07, yf0⟩ := PR.out.cells8
  go_wp2_with fail
  have hz0 := hid (show (w.alloc (.cells (rcells s g a) 30)).heap.size = w.heap.size + 1 by simp)
  generalize w.alloc (.cells (rcells s g a) 30) = W0 at *
  clear y00 y01 y02 y03 y04 y05 y06 y07 yf0 hz0
  refine (rquiet_any s g es a _ HR.out).mono ?_
  rintro e w1 ⟨rfl, hb⟩
  replace HR := hid (HR.out.step hb); replace PR := hid (PR.out.step hb); replace HB := hid (below_then HB.out hb)
  clear hb
  rw [← HQ.out]
  cases q
  ·skip
   have HV2 := hid (show V = false by rw [HV.out]; rfl)
   clear HV
   go_wp2
   go_ret
   exact ⟨ret_bool HV2.out.symm, HB.out⟩
  replace HV := hid (show V = (decide (wN (ql es) = 0) && (!g.on && decide (g.ak = g.dn))) by rw [HV.out, Bool.true_and])
  obtain ⟨y00, y01, y02, y03, y04, y05, y06, y07, yf0⟩ := PR.out.cells8
  go_wp2_with fail
  clear y00 y01 y02 y03 y04 y05 y06 y07 yf0
  refine (waiting_any s g es a _ HR.out).mono ?_
  rintro e w2 ⟨rfl, hb⟩
  replace HR := hid (HR.out.step hb); replace PR := hid (PR.out.step hb); replace HB := hid (below_then HB.out hb)
  clear hb
  obtain ⟨m, hm⟩ : ∃ m, m = wN (ql es) := ⟨_, rfl⟩
  rw [← hm] at HV ⊢
  clear hm
  obtain ⟨on, hon⟩ : ∃ b, b = g.on := ⟨_, rfl⟩
  by_cases h0 : m = 0
  ·skip
   subst h0
   replace HV := hid (show V = (!on && decide (g.ak = g.dn)) by rw [HV.out, hon, decide_eq_true rfl, Bool.true_and])
   obtain ⟨y00, y01, y02, y03, y04, y05, y06, y07, yf0⟩ := PR.out.cells8
   rw [← hon] at y05
   clear hon
   cases on
   ·skip
    have HV2 := hid (show V = decide (g.ak = g.dn) by rw [HV.out]; rfl)
    clear HV
    go_wp2
    go_ret
    exact ⟨ret_bool HV2.out.symm, HB.out⟩
   ·skip
    have HV2 := hid (show V = false by rw [HV.out]; rfl)
    clear HV
    go_wp2
    go_ret
    exact ⟨ret_bool HV2.out.symm, HB.out⟩
  ·skip
   have d1 : ((m : Int) == 0) = false := by simpa using h0
   have HV2 := hid (show V = false by rw [HV.out, decide_eq_false h0]; rfl)
   clear HV h0 hon
   go_wp2
   go_ret
   exact ⟨ret_bool HV2.out.symm, HB.out⟩
set_option maxRecDepth 100000 in
set_option maxHeartbeats 4000000 in
theorem ridle_any (s : St) (g : Gr) (es : List Qe) (a : Ra) (w : World) (h : RcR w s g es a) :
    Calls Try.prog 16 #[rcv s g a] w fun e w' => e = .returned (.bool (decide (RcOk s g es) && idleB s g (ql es))) ∧ Below w.heap.size w w' := by
  have HR := hid h; have HB := hid (Below.refl w.heap.size w)
  clear h
  have bx := below_box w (.cells (rcells s g a) 30)
  replace HR := hid (HR.out.step bx); replace HB := hid (below_then HB.out bx)
  clear bx
  have PR := hid (Blk.new w 30 (rcells s g a))
  have HCY := hid (fun h : RcOk s g es => show rcheckC s g es = 0 from if_pos h); have HCN := hid (fun h : ¬ RcOk s g es => show rcheckC s g es = 240 from if_neg h)
  obtain ⟨V, hV⟩ : ∃ V, V = (decide (RcOk s g es) && idleB s g (ql es)) := ⟨_, rfl⟩
  rw [← hV]
  have HY := hid (fun h : RcOk s g es => show V = idleB s g (ql es) by rw [hV, decide_eq_true h, Bool.true_and]); have HN := hid (fun h : ¬ RcOk s g es => show V = false by rw [hV, decide_eq_false h]; rfl)
  clear hV
  go_enter Try.func16, Try.ntmps16
  obtain ⟨y00, y01, y02, y03, y04, y05, y06, y07, yf0⟩ := PR.out.cells8
  go_wp2_with fail
  have hz0 := hid (show (w.alloc (.cells (rcells s g a) 30)).heap.size = w.heap.size + 1 by simp)
  generalize w.alloc (.cells (rcells s g a) 30) = W0 at *
  clear y00 y01 y02 y03 y04 y05 y06 y07 yf0 hz0
  refine (rcheck_any s g es a _ HR.out).mono ?_
  rintro e w1 ⟨rfl, hb⟩
  replace HR := hid (HR.out.step hb); replace PR := hid (PR.out.step hb); replace HB := hid (below_then HB.out hb)
  clear hb
  by_cases hok : RcOk s g es
  ·skip
   rw [HCY.out hok]
   have HV2 := hid (HY.out hok)
   clear hok HCY HCN HY HN
   obtain ⟨y00, y01, y02, y03, y04, y05, y06, y07, yf0⟩ := PR.out.cells8
   go_wp2_with fail
   clear y00 y01 y02 y03 y04 y05 y06 y07 yf0
   refine (rcidle_any s g es a _ HR.out).mono ?_
   rintro e w2 ⟨rfl, hb⟩
   replace HR := hid (HR.out.step hb); replace PR := hid (PR.out.step hb); replace HB := hid (below_then HB.out hb)
   clear hb
   go_wp2
   go_ret
   exact ⟨ret_bool HV2.out.symm, HB.out⟩
  ·skip
   rw [HCN.out hok]
   have HV2 := hid (HN.out hok)
   clear hok HCY HCN HY HN
   go_wp2
   go_ret
   exact ⟨ret_bool HV2.out.symm, HB.out⟩
end Go.Proofs.Ytfipdoofgbjbjaa
