/- Walks and plain laws for this claim, part 8. No condition but sizes. -/
import Derived.Test.YtfipdoofgbjbjaaGreatM7
import Derived.Test.YtfipdoofgbjbjaaGreatM6
import Derived.Test.YtfipdoofgbjbjaaGreatM4
import Derived.BigQuiet
import Derived.Laws.StructEq
import Derived.ChangeKeysEq
import Derived.Test.YtfipdoofgbjbjaaGreatM1
/- afterglowref14: Quiet, Waiting, Idle. No condition but sizes, and that numbers are of their kinds. -/
namespace Go.Proofs.YtfipdoofgbjbjaaGreat
open Go.RowKit
attribute [local go_sem] Oper.semAt_some
def quietR (s : St) : Bool := s.2.1.all fun n => decide (n ≤ 0)
def idleR (s : St) (g : Gr) (qs : Qs) : Bool := quietR s && (decide (wN qs = 0) && (!g.on && decide (g.ak = g.dn)))
theorem quietR_yes {s : St} (h : ∀ j, j < s.2.1.length → s.2.1[j]?.getD 0 ≤ 0) : quietR s = true := by
  unfold quietR
  rw [List.all_eq_true]
  intro x hx
  obtain ⟨j, hj, rfl⟩ := List.getElem_of_mem hx
  have := h j hj
  rw [List.getElem?_eq_getElem hj] at this
  exact decide_eq_true this
theorem quietR_no {s : St} {j : Nat} (hj : j < s.2.1.length) (h : ¬ s.2.1[j]?.getD 0 ≤ 0) : quietR s = false := by
  unfold quietR
  rw [List.all_eq_false]
  refine ⟨_, List.getElem_mem hj, ?_⟩
  rw [List.getElem?_eq_getElem hj] at h
  simpa using h
set_option maxRecDepth 100000 in
set_option maxHeartbeats 4000000 in
theorem rquiet14_any (s : St) (g : Gr) (es : List Qe) (a : Ra) (w : World) (h : RcR w s g es a) :
    Calls Tryz.prog 17 #[rcv s g a] w fun e w' => e = .returned (.bool (quietR s)) ∧ Below w.heap.size w w' := by
  have HR := hid h; have HB := hid (Below.refl w.heap.size w)
  clear h
  have bx := below_box w (.cells (rcells s g a) 30)
  replace HR := hid (HR.out.step bx); replace HB := hid (below_then HB.out bx)
  clear bx
  have PR := hid (Blk.new w 30 (rcells s g a))
  obtain ⟨V, hV⟩ : ∃ V, V = quietR s := ⟨_, rfl⟩
  rw [← hV]
  have HV := hid hV
  clear hV
  go_enter Tryz.func17, Tryz.ntmps17
  obtain ⟨y00, y01, y02, y03, y04, y05, y06, y07, yf0⟩ := PR.out.cells8
  go_wp2_with fail
  have hz0 := hid (show (w.alloc (.cells (rcells s g a) 30)).heap.size = w.heap.size + 1 by simp)
  generalize w.alloc (.cells (rcells s g a) 30) = W0 at *
  clear y00 y01 y02 y03 y04 y05 y06 y07 yf0
  have hl := hid HR.out.rd.lenx
  have HNL := hid HR.out.rd.hn
  go_loopw [9] (fun i wr => ∃ j : Nat, j ≤ a.n ∧ i = .int .i64 j ∧ (∀ k, k < j → s.2.1[k]?.getD 0 ≤ 0) ∧ Below W0.heap.size W0 wr) (fun i _ => a.n - (intOf i).toNat)
  case atStart => exact ⟨0, Nat.zero_le _, rfl, fun k hk => absurd hk (Nat.not_lt_zero _), Below.refl _ _⟩
  case round =>
    obtain ⟨j, hj, rfl, ha, hbw⟩ := hrel
    have HBW := hid hbw; have HA := hid ha
    clear hbw ha
    by_cases hjn : j < a.n
    rotate_left
    · obtain rfl : j = a.n := by omega
      have hnn : ¬ ((a.n : Int) < (a.n : Int)) := by omega
      have HV2 := hid (show V = true by rw [HV.out]; exact quietR_yes (fun k hk => HA.out k (by have := hl.out; omega)))
      go_wp2
      go_ret
      exact ⟨ret_bool HV2.out.symm, below_then HB.out HBW.out⟩
    obtain ⟨b, off, hQ, _, hbh, hc⟩ := (HR.out.rd.hx.below HBW.out (Nat.le_refl _)).row (by omega)
    have f0 := hc j hjn
    obtain ⟨x, hx⟩ : ∃ x, x = s.2.1[j]?.getD 0 := ⟨_, rfl⟩
    rw [← hx] at f0
    have hji : (j : Int) < (a.n : Int) := by omega
    have hw1 : IntKind.i64.wrap ((j : Int) + 1) = (j : Int) + 1 := by rw [IntKind.wrap_i64]; have := HNL.out; omega
    have HX := hid hx
    clear hx hc hbh
    rw [hQ]
    by_cases h0 : x ≤ 0
    ·skip
     have d1 : ¬ (0 < x) := by omega
     go_wp2_with fail
     go_roundw
     case rel =>
       refine ⟨j + 1, by omega, by go_num, fun k hk => ?_, HBW.out⟩
       rcases Nat.lt_or_ge k j with hkj | hkj
       · exact HA.out k hkj
       · obtain rfl : k = j := by omega
         rw [← HX.out]; exact h0
     case measure => simp [intOf]; omega
    ·skip

     have d1 : 0 < x := by omega
     have HV2 := hid (show V = false by rw [HV.out]; exact quietR_no (j := j) (by have := hl.out; omega) (by rw [← HX.out]; exact h0))
     clear h0
     go_wp2
     go_ret
     exact ⟨ret_bool HV2.out.symm, below_then HB.out HBW.out⟩
set_option maxRecDepth 100000 in
set_option maxHeartbeats 4000000 in
theorem rwaiting14_any (s : St) (g : Gr) (es : List Qe) (a : Ra) (w : World) (h : RcR w s g es a) :
    Calls Tryz.prog 89 #[rcv s g a] w fun e w' => e = .returned (.int .i64 (wN (ql es))) ∧ Below w.heap.size w w' := by
  have HR := hid h; have HB := hid (Below.refl w.heap.size w)
  clear h
  have bx := below_box w (.cells (rcells s g a) 30)
  replace HR := hid (HR.out.step bx); replace HB := hid (below_then HB.out bx)
  clear bx
  have PR := hid (Blk.new w 30 (rcells s g a))
  go_enter Tryz.func89, Tryz.ntmps89
  obtain ⟨y00, y01, y02, y03, y04, y05, y06, y07, yf0⟩ := PR.out.cells8
  go_wp2_with fail
  have hz0 := hid (show (w.alloc (.cells (rcells s g a) 30)).heap.size = w.heap.size + 1 by simp)
  generalize w.alloc (.cells (rcells s g a) 30) = W0 at *
  clear y00 y01 y02 y03 y04 y05 y06 y07 yf0
  have hl := hid HR.out.qs.len
  have HWN := hid (wN_le (es := es) (fun x hx => by rw [(HR.out.qe x hx).1.len]; exact (HR.out.qe x hx).2.2.1))
  have HQL := hid HR.out.ql
  go_loopw [3, 5, 9] (fun n _ i wr => ∃ j : Nat, j ≤ a.nq ∧ i = .int .i64 j ∧ n = .int .i64 (wN (ql (es.take j))) ∧ Below W0.heap.size W0 wr) (fun _ _ i _ => a.nq - (intOf i).toNat)
  case atStart => exact ⟨0, Nat.zero_le _, rfl, by simp [wN, ql], Below.refl _ _⟩
  case round =>
    obtain ⟨j, hj, rfl, rfl, hbw⟩ := hrel
    have HBW := hid hbw
    clear hbw
    by_cases hjn : j < a.nq
    rotate_left
    · obtain rfl : j = a.nq := by omega
      have hnn : ¬ ((a.nq : Int) < (a.nq : Int)) := by omega
      have he := hid (show wN (ql (es.take a.nq)) = wN (ql es) by rw [List.take_of_length_le (by rw [hl.out]; exact Nat.le_refl _)])
      rw [he.out]
      clear he
      go_wp2
      go_ret
      exact ⟨rfl, below_then HB.out HBW.out⟩
    obtain ⟨b, off, hQ, _, hbh, hc⟩ := (HR.out.qs.below HBW.out (Nat.le_refl _)).row (by omega)
    obtain ⟨x, hx⟩ : ∃ x, x = es[j]?.getD zQe := ⟨_, rfl⟩
    have f0 := hc j hjn 0 (by omega)
    have f1 := hc j hjn 1 (by omega)
    rw [← hx] at f0 f1
    have hjl : j < es.length := by rw [hl.out]; exact hjn
    have hwt := wN_take hjl
    rw [← hx] at hwt
    have HM := hid (show x ∈ es by rw [hx, List.getElem?_eq_getElem hjl]; exact List.getElem_mem _)
    have hxn : x.l.length = x.n := (HR.out.qe x HM.out).1.len
    rw [hxn] at hwt
    have hxk : x.n ≤ 1000 := (HR.out.qe x HM.out).2.2.1
    have HWT := hid hwt
    obtain ⟨xl, xo, xA, xn, xc⟩ := x
    have hw0 : wN (ql (es.take j)) ≤ j * 1000 := HWN.out j
    have hnq : a.nq ≤ 1000 := HQL.out
    dsimp only at hxn hxk
    replace f0 : wr.cell? ⟨b, off + j * 2, none⟩ = some (.slice xA xn xc) := f0
    replace f1 : wr.cell? ⟨b, off + j * 2 + 1, none⟩ = some (.int .u64 xo) := f1
    have hji : (j : Int) < (a.nq : Int) := by omega
    have hw1 : IntKind.i64.wrap ((j : Int) + 1) = (j : Int) + 1 := by rw [IntKind.wrap_i64]; omega
    obtain ⟨m, hm⟩ : ∃ m, m = wN (ql (es.take j)) := ⟨_, rfl⟩
    rw [← hm] at hw0 ⊢
    have HMM := hid hm
    have hw2 : IntKind.i64.wrap ((m : Int) + (xn : Int)) = (m : Int) + (xn : Int) := by rw [IntKind.wrap_i64]; omega
    have bx := hid (below_box wr (.cells #[.slice xA xn xc, .int .u64 xo] 58))
    obtain ⟨q0, q1, qf⟩ := (Blk.new wr 58 #[.slice xA xn xc, .int .u64 xo]).cells2
    clear hm hc hx hwt hw0 hxn hxk hnq hbh hjl
    rw [hQ]
    go_wp2_with fail
    go_roundw
    case rel => exact ⟨j + 1, by omega, by go_num, by rw [HWT.out, ← HMM.out]; simp, below_then HBW.out bx.out⟩
    case measure => simp [intOf]; omega
set_option maxRecDepth 100000 in
set_option maxHeartbeats 4000000 in
theorem ridle14_any (s : St) (g : Gr) (es : List Qe) (a : Ra) (w : World) (h : RcR w s g es a) :
    Calls Tryz.prog 52 #[rcv s g a] w fun e w' => e = .returned (.bool (idleR s g (ql es))) ∧ Below w.heap.size w w' := by
  have HR := hid h; have HB := hid (Below.refl w.heap.size w)
  clear h
  have bx := below_box w (.cells (rcells s g a) 30)
  replace HR := hid (HR.out.step bx); replace HB := hid (below_then HB.out bx)
  clear bx
  have PR := hid (Blk.new w 30 (rcells s g a))
  obtain ⟨V, hV⟩ : ∃ V, V = idleR s g (ql es) := ⟨_, rfl⟩
  obtain ⟨q, hq⟩ : ∃ q, q = quietR s := ⟨_, rfl⟩
  rw [← hV]
  unfold idleR at hV
  rw [← hq] at hV
  have HV := hid hV; have HQ := hid hq
  clear hV hq
  go_enter Tryz.func52, Tryz.ntmps52
  obtain ⟨y00, y01, y02, y03, y04, y05, y06, y07, yf0⟩ := PR.out.cells8
  go_wp2_with fail
  have hz0 := hid (show (w.alloc (.cells (rcells s g a) 30)).heap.size = w.heap.size + 1 by simp)
  generalize w.alloc (.cells (rcells s g a) 30) = W0 at *
  clear y00 y01 y02 y03 y04 y05 y06 y07 yf0 hz0
  refine (rquiet14_any s g es a _ HR.out).mono ?_
  rintro e w1 ⟨rfl, hb⟩
  replace HR := hid (HR.out.step hb); replace PR := hid (PR.out.step hb); replace HB := hid (below_then HB.out hb)
  clear hb
  rw [← HQ.out]
  cases q
  ·skip
   have HV2 := hid (show V = false by rw [HV.out]; rfl)
   clear HV
   go_wp2
   go_ret
   exact ⟨ret_bool HV2.out.symm, HB.out⟩
  replace HV := hid (show V = (decide (wN (ql es) = 0) && (!g.on && decide (g.ak = g.dn))) by rw [HV.out, Bool.true_and])
  obtain ⟨y00, y01, y02, y03, y04, y05, y06, y07, yf0⟩ := PR.out.cells8
  go_wp2_with fail
  clear y00 y01 y02 y03 y04 y05 y06 y07 yf0
  refine (rwaiting14_any s g es a _ HR.out).mono ?_
  rintro e w2 ⟨rfl, hb⟩
  replace HR := hid (HR.out.step hb); replace PR := hid (PR.out.step hb); replace HB := hid (below_then HB.out hb)
  clear hb
  obtain ⟨m, hm⟩ : ∃ m, m = wN (ql es) := ⟨_, rfl⟩
  rw [← hm] at HV ⊢
  clear hm
  obtain ⟨on, hon⟩ : ∃ b, b = g.on := ⟨_, rfl⟩
  by_cases h0 : m = 0
  ·skip
   subst h0
   replace HV := hid (show V = (!on && decide (g.ak = g.dn)) by rw [HV.out, hon, decide_eq_true rfl, Bool.true_and])
   obtain ⟨y00, y01, y02, y03, y04, y05, y06, y07, yf0⟩ := PR.out.cells8
   rw [← hon] at y05
   clear hon
   cases on
   ·skip
    have HV2 := hid (show V = decide (g.ak = g.dn) by rw [HV.out]; rfl)
    clear HV
    go_wp2
    go_ret
    exact ⟨ret_bool HV2.out.symm, HB.out⟩
   ·skip
    have HV2 := hid (show V = false by rw [HV.out]; rfl)
    clear HV
    go_wp2
    go_ret
    exact ⟨ret_bool HV2.out.symm, HB.out⟩
  ·skip
   have d1 : ((m : Int) == 0) = false := by simpa using h0
   have HV2 := hid (show V = false by rw [HV.out, decide_eq_false h0]; rfl)
   clear HV h0 hon
   go_wp2
   go_ret
   exact ⟨ret_bool HV2.out.symm, HB.out⟩
end Go.Proofs.YtfipdoofgbjbjaaGreat

/- afterglowref13: Right, Same. No condition but sizes. -/
namespace Go.Proofs.YtfipdoofgbjbjaaGreat
open Go.RowKit
theorem qup_last {l : List Cb} (h : QUp l) : ∀ k, k < l.length → perAt l k ≤ perAt l (l.length - 1) := by
  have : ∀ d k, k + d < l.length → perAt l k ≤ perAt l (k + d) := by
    intro d
    induction d with
    | zero => intro k _; exact Int.le_refl _
    | succ d ih =>
      intro k hk
      have h1 := ih k (by omega)
      have h2 := h (k + (d + 1)) hk (by omega)
      rw [show k + (d + 1) - 1 = k + d by omega] at h2
      omega
  intro k hk
  have := this (l.length - 1 - k) k (by omega)
  rwa [show k + (l.length - 1 - k) = l.length - 1 by omega] at this
theorem qsoon_last {l : List Cb} {o : Int} (h : QUp l) : QSoon o l ↔ (l.length = 0 ∨ perAt l (l.length - 1) ≤ o + 2) := by
  constructor
  · intro hs
    rcases Nat.eq_zero_or_pos l.length with h0 | h0
    · exact .inl h0
    · exact .inr (hs _ (by omega))
  · rintro (h0 | h0) k hk
    · omega
    · have := qup_last h k hk
      omega
set_option maxHeartbeats 2000000 in
theorem qright_any (A : Option Addr) (n c : Nat) (o : Int) (xs : List Cb) (w : World) (h : Sm 2 encC (0, 0) w 0 w.heap.size A n xs) (hn : n ≤ 1000000) (hnc : n ≤ c) (h0 : 0 ≤ o) :
    Calls Tryz.prog 32 #[qv A n c o] w fun e w' => e = .returned (.bool (decide (QGood o xs))) ∧ Below w.heap.size w w' := by
  have HR := hid h; have HB := hid (Below.refl w.heap.size w)
  have hl := hid h.len
  clear h
  have bx := below_box w (.cells (qcs A n c o) 58)
  replace HR := hid (HR.out.step bx); replace HB := hid (below_then HB.out bx)
  clear bx
  have PQ := hid (Blk.new w 58 (qcs A n c o))
  obtain ⟨y00, y01, yf0⟩ := PQ.out.cells2
  go_enter Tryz.func32, Tryz.ntmps32
  go_wp2_with fail
  clear y00 y01 yf0
  generalize w.alloc (.cells (qcs A n c o) 58) = W0 at *
  have HB0 := hid (Below.refl W0.heap.size W0)
  go_loopw [8] (fun i wr => ∃ j : Nat, j ≤ n ∧ i = .int .i64 j ∧ Below W0.heap.size W0 wr ∧ ∀ k, k < j → 1 ≤ k → perAt xs (k - 1) ≤ perAt xs k) (fun i _ => n - (intOf i).toNat)
  case atStart => exact ⟨0, Nat.zero_le _, rfl, HB0.out, fun k hk => absurd hk (Nat.not_lt_zero _)⟩
  case round =>
    obtain ⟨j, hj, rfl, hbr, hall⟩ := hrel
    have HA := hid hall
    clear hall HB0
    replace HR := hid (HR.out.step hbr); replace PQ := hid (PQ.out.step hbr); replace HB := hid (below_then HB.out hbr)
    have HBr := hid hbr
    clear hbr
    by_cases hjn : j < n
    · obtain ⟨b, off, rfl, _, hbh, hc⟩ := HR.out.row (by omega)
      obtain ⟨f0, f1⟩ := Sm.cb (lo := 0) (hi := wr.heap.size) hc hjn
      obtain ⟨x, hx⟩ : ∃ x, x = xs[j]?.getD (0, 0) := ⟨_, rfl⟩
      rw [← hx] at f0 f1
      have HX : Hid (perAt xs j = x.1) := hid (by rw [hx]; rfl)
      have hjc : (j : Int) < (n : Int) := by omega
      clear hx hc
      go_upto_region 4 with fail
      clear f0 f1
      have bx := below_box wr (.cells #[.int .u64 x.1, .int .u64 x.2] 60)
      replace HR := hid (HR.out.step bx); replace PQ := hid (PQ.out.step bx); replace HB := hid (below_then HB.out bx); replace HBr := hid (below_then HBr.out bx)
      clear bx
      have PC := hid (Blk.new wr 60 #[.int .u64 x.1, .int .u64 x.2])
      generalize wr.alloc (.cells #[.int .u64 x.1, .int .u64 x.2] 60) = W1 at *
      obtain ⟨y0, y1, yf⟩ := PQ.out.cells2
      obtain ⟨z0, z1, zf⟩ := PC.out.cells2
      rcases Nat.eq_zero_or_pos j with hj0 | hj0
      · have hj0i : (j : Int) = 0 := by omega
        go_quiet (fail)
        clear y0 y1 yf z0 z1 zf
        go_wp2
        clear hj0i
        go_roundw
        case rel => exact ⟨j + 1, by omega, by go_num, below_drewN HBr.out _, fun k hk h1 => by omega⟩
        case measure => simp [intOf]; omega
      · have hj0i : (0 : Int) < (j : Int) := by omega
        obtain ⟨q, hq⟩ : ∃ q : Nat, j = q + 1 := ⟨j - 1, by omega⟩
        have hw3 : IntKind.i64.wrap ((j : Int) - 1) = (q : Int) := by rw [IntKind.wrap_i64]; omega
        have hqn : (q : Int) < (n : Int) := by omega
        obtain ⟨b', off', hA', _, hbh', hc⟩ := HR.out.row (by omega)
        cases hA'
        obtain ⟨f0, f1⟩ := Sm.cb (lo := 0) (hi := W1.heap.size) hc (show q < n by omega)
        obtain ⟨y, hy⟩ : ∃ y, y = xs[q]?.getD (0, 0) := ⟨_, rfl⟩
        rw [← hy] at f0 f1
        have HY : Hid (perAt xs q = y.1) := hid (by rw [hy]; rfl)
        have HQ := hid hq
        clear hy hc hq
        go_quiet (fail)
        clear y0 y1 yf z0 z1 zf f0 f1
        by_cases hgt : x.1 < y.1
        · have E := hid (show decide (QGood o xs) = false from decide_eq_false (fun h => by
            have := h.2.2.1 j (by rw [hl.out]; omega) (by omega)
            rw [show j - 1 = q by have := HQ.out; omega, HX.out, HY.out] at this
            omega))
          go_wp2
          go_ret
          exact ⟨ret_bool E.out.symm, below_drewN HB.out _⟩
        · go_wp2
          clear hj0i
          go_roundw
          case rel =>
            refine ⟨j + 1, by omega, by go_num, below_drewN HBr.out _, fun k hk h1 => ?_⟩
            by_cases hkj : k = j
            · subst hkj; rw [show k - 1 = q by have := HQ.out; omega, HX.out, HY.out]; omega
            · exact HA.out k (by omega) h1
          case measure => simp [intOf]; omega
    · obtain rfl : j = n := by omega
      have HU := hid (show QUp xs from fun k hk h1 => HA.out k (by rw [← hl.out]; exact hk) h1)
      have HS := hid (qsoon_last (o := o) HU.out)
      obtain ⟨y0, y1, yf⟩ := PQ.out.cells2
      by_cases h1 : 9223372036854775806 < o
      · have E := hid (show decide (QGood o xs) = false from decide_eq_false (fun h => by have := h.1; omega))
        go_wp2
        go_ret
        exact ⟨ret_bool E.out.symm, HB.out⟩
      · by_cases h2 : 16 < j
        · have h2i : (16 : Int) < (j : Int) := by omega
          have E := hid (show decide (QGood o xs) = false from decide_eq_false (fun h => by have := h.2.1; have := hl.out; omega))
          go_wp2
          go_ret
          exact ⟨ret_bool E.out.symm, HB.out⟩
        · have h2i : ¬ (16 : Int) < (j : Int) := by omega
          have hw2 : IntKind.u64.wrap (o + 2) = o + 2 := by rw [IntKind.wrap_u64]; omega
          rcases Nat.eq_zero_or_pos j with hj0 | hj0
          · have hj0i : (j : Int) = 0 := by omega
            have E := hid (show decide (QGood o xs) = true from decide_eq_true ⟨by omega, by have := hl.out; omega, HU.out, HS.out.2 (.inl (hl.out.trans hj0))⟩)
            go_wp2_with fail
            go_quiet (fail)
            go_wp2
            go_ret
            exact ⟨ret_bool E.out.symm, below_drewN HB.out _⟩
          · have hj0i : ((j : Int) == 0) = false := by simp; omega
            obtain ⟨q, hq⟩ : ∃ q : Nat, j = q + 1 := ⟨j - 1, by omega⟩
            have hw3 : IntKind.i64.wrap ((j : Int) - 1) = (q : Int) := by rw [IntKind.wrap_i64]; omega
            have hqn : (q : Int) < (j : Int) := by omega
            obtain ⟨b, off, rfl, _, hbh, hc⟩ := HR.out.row (by omega)
            obtain ⟨f0, f1⟩ := Sm.cb (lo := 0) (hi := wr.heap.size) hc (show q < j by omega)
            obtain ⟨y, hy⟩ : ∃ y, y = xs[q]?.getD (0, 0) := ⟨_, rfl⟩
            rw [← hy] at f0 f1
            have E := hid (show decide (QGood o xs) = decide (y.1 ≤ o + 2) from decide_eq_decide.2 ⟨fun h => by
                have := (h.2.2.2) q (by rw [hl.out]; omega)
                rw [show perAt xs q = y.1 by rw [hy]; rfl] at this
                exact this, fun h => ⟨by omega, by have := hl.out; omega, HU.out, HS.out.2 (.inr (by rw [hl.out, show j - 1 = q by omega, show perAt xs q = y.1 by rw [hy]; rfl]; exact h))⟩⟩)
            clear hy hc hq
            go_wp2_with fail
            go_quiet (fail)
            go_wp2
            go_ret
            exact ⟨ret_bool E.out.symm, below_drewN HB.out _⟩
theorem neq_cb (a b c d : Int) : ∀ W, (binOp .neq 60 (.agg #[.int .u64 a, .int .u64 b]) (.agg #[.int .u64 c, .int .u64 d])).run Tryz.prog W = .ok (.bool (decide (¬ (a, b) = (c, d)))) W := by
  intro W
  have u3 := Tryz.underlying35
  have a3 := Tryz.isAgg35
  have z3 := Tryz.sizeOf35
  have hS : Tryz.prog.underlying 60 = some (.struct (Tryz.prog.fieldsOf 60)) := by kernel_rfl
  have hp : Tryz.prog.stoodInHeld 60 = false := by kernel_rfl
  rw [run_neq_struct, show (10000 : Nat) = 9999 + 1 from rfl, run_equalIn_agg W 9999 60 _ _ hS hp]
  simp only [Program.fieldsOf, Tryz.underlying60]
  go_simp
  by_cases h1 : a = c <;> by_cases h2 : b = d <;> simp [h1, h2]
def sameQ (o : Int) (xs : List Cb) (o' : Int) (ys : List Cb) : Bool := decide (o = o' ∧ xs = ys)
set_option maxHeartbeats 2000000 in
theorem qrsame_any (A : Option Addr) (n c : Nat) (o : Int) (xs : List Cb) (B : Option Addr) (m d : Nat) (o' : Int) (ys : List Cb) (w : World) (h : Sm 2 encC (0, 0) w 0 w.heap.size A n xs) (h' : Sm 2 encC (0, 0) w 0 w.heap.size B m ys) (hn : n ≤ 1000000) (hm : m ≤ 1000000) :
    Calls Tryz.prog 43 #[qv A n c o, qv B m d o'] w fun e w' => e = .returned (.bool (sameQ o xs o' ys)) ∧ Below w.heap.size w w' := by
  have HR := hid h; have HT := hid h'; have HB := hid (Below.refl w.heap.size w)
  have hl := hid h.len; have hl' := hid h'.len
  clear h h'
  have bx := below_box w (.cells (qcs A n c o) 58)
  replace HR := hid (HR.out.step bx); replace HT := hid (HT.out.step bx); replace HB := hid (below_then HB.out bx)
  clear bx
  have PQ := hid (Blk.new w 58 (qcs A n c o))
  have bx := below_box (w.alloc (.cells (qcs A n c o) 58)) (.cells (qcs B m d o') 58)
  replace HR := hid (HR.out.step bx); replace HT := hid (HT.out.step bx); replace PQ := hid (PQ.out.step bx); replace HB := hid (below_then HB.out bx)
  clear bx
  have PR := hid (Blk.new2 w 58 (qcs B m d o') (.cells (qcs A n c o) 58))
  by_cases h1 : o = o'
  · subst h1
    by_cases h2 : n = m
    · subst h2
      have hno : (o != o) = false := by simp
      have hnn : ((n : Int) != (n : Int)) = false := by simp
      obtain ⟨y00, y01, yf0⟩ := PQ.out.cells2
      obtain ⟨y10, y11, yf1⟩ := PR.out.cells2
      go_enter Tryz.func43, Tryz.ntmps43
      go_wp2_with fail
      clear y00 y01 yf0 y10 y11 yf1
      generalize (w.alloc (.cells (qcs A n c o) 58)).alloc (.cells (qcs B n d o) 58) = W0 at *
      have HB0 := hid (Below.refl W0.heap.size W0)
      clear hno hnn
      go_loopw [24] (fun i wr => ∃ j : Nat, j ≤ n ∧ i = .int .i64 j ∧ Below W0.heap.size W0 wr ∧ ∀ k, k < j → xs[k]?.getD (0, 0) = ys[k]?.getD (0, 0)) (fun i _ => n - (intOf i).toNat)
      case atStart => exact ⟨0, Nat.zero_le _, rfl, HB0.out, fun k hk => absurd hk (Nat.not_lt_zero _)⟩
      case round =>
        obtain ⟨j, hj, rfl, hbr, hall⟩ := hrel
        have HA := hid hall
        clear hall HB0
        replace HR := hid (HR.out.step hbr); replace HT := hid (HT.out.step hbr); replace PQ := hid (PQ.out.step hbr); replace PR := hid (PR.out.step hbr); replace HB := hid (below_then HB.out hbr)
        have HBr := hid hbr
        clear hbr
        by_cases hjn : j < n
        · obtain ⟨b, off, rfl, _, hbh, hc⟩ := HR.out.row (by omega)
          obtain ⟨f0, f1⟩ := Sm.cb (lo := 0) (hi := wr.heap.size) hc hjn
          obtain ⟨⟨x0, x1⟩, hx⟩ : ∃ x, x = xs[j]?.getD (0, 0) := ⟨_, rfl⟩
          rw [← hx] at f0 f1
          have hjc : (j : Int) < (n : Int) := by omega
          have HX := hid hx
          clear hx hc
          go_upto_region 6 with fail
          clear f0 f1
          have bx := below_box wr (.cells #[.int .u64 x0, .int .u64 x1] 60)
          replace HR := hid (HR.out.step bx); replace HT := hid (HT.out.step bx); replace PQ := hid (PQ.out.step bx); replace PR := hid (PR.out.step bx); replace HB := hid (below_then HB.out bx); replace HBr := hid (below_then HBr.out bx)
          clear bx
          have PC := hid (Blk.new wr 60 #[.int .u64 x0, .int .u64 x1])
          generalize wr.alloc (.cells #[.int .u64 x0, .int .u64 x1] 60) = W1 at *
          obtain ⟨y0, y1, yf⟩ := PR.out.cells2
          obtain ⟨z0, z1, zf⟩ := PC.out.cells2
          obtain ⟨b', off', rfl, _, hbh', hc⟩ := HT.out.row (by omega)
          obtain ⟨f0, f1⟩ := Sm.cb (lo := 0) (hi := W1.heap.size) hc hjn
          obtain ⟨⟨v0, v1⟩, hy⟩ : ∃ y, y = ys[j]?.getD (0, 0) := ⟨_, rfl⟩
          rw [← hy] at f0 f1
          have HY := hid hy
          clear hy hc
          have hne := neq_cb x0 x1 v0 v1
          go_quiet (fail)
          clear y0 y1 yf z0 z1 zf f0 f1 hne
          by_cases he : (x0, x1) = (v0, v1)
          · have e1 : (!decide (x0 = v0) || !decide (x1 = v1)) = false := by simp at he; simp [he]
            rw [e1]
            clear e1
            go_wp2
            go_roundw
            case rel =>
              refine ⟨j + 1, by omega, by go_num, below_drewN HBr.out _, fun k hk => ?_⟩
              by_cases hkj : k = j
              · subst hkj; rw [← HX.out, ← HY.out]; exact he
              · exact HA.out k (by omega)
            case measure => simp [intOf]; omega
          · have e1 : (!decide (x0 = v0) || !decide (x1 = v1)) = true := by
              simp at he
              by_cases h9 : x0 = v0
              · simp [h9, he h9]
              · simp [h9]
            have E := hid (show sameQ o xs o ys = false from decide_eq_false (fun h => he (by rw [HX.out, HY.out, h.2])))
            rw [e1]
            clear e1 he
            go_wp2
            go_ret
            exact ⟨ret_bool E.out.symm, below_drewN HB.out _⟩
        · obtain rfl : j = n := by omega
          have E := hid (show sameQ o xs o ys = true from decide_eq_true ⟨rfl, ext_getDg (0, 0) hl.out hl'.out HA.out⟩)
          go_wp2
          go_ret
          exact ⟨ret_bool E.out.symm, HB.out⟩
    · have hno : (o != o) = false := by simp
      have hnn : ((n : Int) != (m : Int)) = true := by simp; omega
      have E := hid (show sameQ o xs o ys = false from decide_eq_false (fun h => h2 (by rw [← hl.out, ← hl'.out, h.2])))
      clear h2
      obtain ⟨y00, y01, yf0⟩ := PQ.out.cells2
      obtain ⟨y10, y11, yf1⟩ := PR.out.cells2
      go_enter Tryz.func43, Tryz.ntmps43
      go_wp2
      go_ret
      exact ⟨ret_bool E.out.symm, HB.out⟩
  · have hno : (o != o') = true := by simpa using h1
    have E := hid (show sameQ o xs o' ys = false from decide_eq_false (fun h => h1 h.1))
    clear h1
    obtain ⟨y00, y01, yf0⟩ := PQ.out.cells2
    obtain ⟨y10, y11, yf1⟩ := PR.out.cells2
    go_enter Tryz.func43, Tryz.ntmps43
    go_wp2
    go_ret
    exact ⟨ret_bool E.out.symm, HB.out⟩
end Go.Proofs.YtfipdoofgbjbjaaGreat

/- afterglowref13: Put. No condition but sizes. -/
namespace Go.Proofs.YtfipdoofgbjbjaaGreat
open Go.RowKit
end Go.Proofs.YtfipdoofgbjbjaaGreat

/- afterglowref13: Drain. No condition but sizes. -/
namespace Go.Proofs.YtfipdoofgbjbjaaGreat
open Go.RowKit
def RdPost (W : World) (r : Int × List Cb × List Int × Int) (e : Ending) (W' : World) : Prop :=
  ∃ A n c B m d, e = .returned (.tuple #[qv A n c r.1, .slice B m d]) ∧ Qown W' W.heap.size A n r.2.1 ∧ Ow u64v W' W.heap.size 35 B m d r.2.2.1 ∧ Below W.heap.size W W' ∧ n ≤ c
theorem Ow.grownN {α : Type} {enc : α → Value} {W W' : World} {row : Option Nat} {lo : Nat} {e : TypeId} {A : Option Addr} {n c : Nat} {xs : List α} (h : Ow enc W lo e A n c xs) (hg : W.grownBy W' row) (hr : ∀ k, row = some k → ∀ a, A = some a → a.block ≠ k) : Ow enc W' lo e A n c xs := by
  refine ⟨h.len, h.own.1, ?_⟩
  rcases h.own.2 with hh | ⟨g, cap, cur, hv, hb1, hgg, r⟩
  · exact .inl hh
  · refine .inr ⟨g, cap, cur, hv, hb1, (hg.block g (Array.getElem?_eq_some_iff.1 hgg).1 (fun e => ?_)).trans hgg, r⟩
    simp only [Value.slice.injEq] at hv
    exact hr g e.symm _ hv.1 rfl
theorem qdone_iff {o : Int} {xs : List Cb} {most : Int} (hg : QGood o xs) (hm : 0 ≤ most) {j : Nat} (hj : j < xs.length) :
    j < min (doneN o xs) most.toNat ↔ (perAt xs j ≤ o ∧ ((min j (min (doneN o xs) most.toNat) : Nat) : Int) < most) := by
  constructor
  · intro h
    exact ⟨doneN_lt (by omega), by omega⟩
  · rintro ⟨h1, h2⟩
    by_cases hj1 : j < doneN o xs
    · omega
    · exfalso
      have hup : ∀ d k, k + d < xs.length → perAt xs k ≤ perAt xs (k + d) := by
        intro d
        induction d with
        | zero => intro k _; exact Int.le_refl _
        | succ d ih =>
          intro k hk
          have h1 := ih k (by omega)
          have h2 := hg.2.2.1 (k + (d + 1)) hk (by omega)
          rw [show k + (d + 1) - 1 = k + d by omega] at h2
          omega
      have h3 := hup (j - doneN o xs) (doneN o xs) (by omega)
      rw [show doneN o xs + (j - doneN o xs) = j by omega] at h3
      exact doneN_stop (o := o) (xs := xs) ⟨by omega, by omega⟩
set_option maxHeartbeats 4000000 in
theorem qrdrain_any (A : Option Addr) (n c : Nat) (o : Int) (xs : List Cb) (most : Int) (w : World) (h : Sm 2 encC (0, 0) w 0 w.heap.size A n xs) (hn : n ≤ 1000000) (hm : 0 ≤ most) (hg : QGood o xs) :
    Calls Tryz.prog 38 #[qv A n c o, .int .i64 most] w (RdPost w (drainF o xs most)) := by
  have HE := hid (show drainF o xs most = (o, xs.drop (min (doneN o xs) most.toNat), (xs.take (min (doneN o xs) most.toNat)).map (·.2), 0) by rw [drainF, if_neg (not_not_intro hg), if_neg (by omega)])
  have hl := hid h.len
  have HI := hid (show ∀ j : Nat, j < xs.length → (j < min (doneN o xs) most.toNat ↔ (perAt xs j ≤ o ∧ ((min j (min (doneN o xs) most.toNat) : Nat) : Int) < most)) from fun j => qdone_iff (j := j) hg hm)
  have hkn := hid (show min (doneN o xs) most.toNat ≤ n by have := doneN_le o xs; have := h.len; omega)
  obtain ⟨K0, hK0⟩ : ∃ k, k = min (doneN o xs) most.toNat := ⟨_, rfl⟩
  rw [← hK0] at HE HI hkn
  have HG := hid hg; have HM := hid hm
  clear hg hK0 hm
  obtain ⟨i0, hi0, hz00, hz01, hz02⟩ := info_parts info_u64
  have HI0 := hid hi0; have HZ0 := hid hz00; have HZ1 := hid hz01; have HZ2 := hid hz02
  clear hi0 hz00 hz01 hz02
  obtain ⟨i0', hi0, hz00, hz01, hz02⟩ := info_parts info_cb
  have HJ0 := hid hi0; have HY0 := hid hz00; have HY1 := hid hz01; have HY2 := hid hz02
  clear hi0 hz00 hz01 hz02
  have HR := hid h; have HB := hid (Below.refl w.heap.size w)
  clear h
  have bx := below_box w (.cells (qcs A n c o) 58)
  replace HR := hid (HR.out.step bx); replace HB := hid (below_then HB.out bx)
  clear bx
  have PQ := hid (Blk.new w 58 (qcs A n c o))
  have bx := below_box (w.alloc (.cells (qcs A n c o) 58)) (.cells (qcs none 0 0 0) 58)
  replace HR := hid (HR.out.step bx); replace PQ := hid (PQ.out.step bx); replace HB := hid (below_then HB.out bx)
  clear bx
  have PZ := hid (Blk.new2 w 58 (qcs none 0 0 0) (.cells (qcs A n c o) 58))
  obtain ⟨y00, y01, yf0⟩ := PQ.out.cells2
  go_enter Tryz.func38, Tryz.ntmps38
  go_wp2_with fail
  clear y00 y01 yf0
  generalize (w.alloc (.cells (qcs A n c o) 58)).alloc (.cells (qcs none 0 0 0) 58) = W0 at *
  have XB := HB; have XQ := PQ; have XZ := PZ; have XR := HR; have H0 := hid (Below.refl W0.heap.size W0)
  have hz0 := hid PZ.out.lt
  go_loopw [6, 7, 13] (fun s6 s7 i wr => ∃ j m cg p cb : Nat, ∃ G B : Option Addr, ∃ K : Nat, j ≤ n ∧ i = .int .i64 j ∧ s6 = .slice G m cg ∧ s7 = .slice B p cb ∧ Om 2 encC wr K 60 G m cg ((xs.take j).drop K0) ∧ Ow u64v wr W0.heap.size 35 B p cb ((xs.take (min j K0)).map (·.2)) ∧ (j ≤ K0 → G = none ∧ cg = 0) ∧ W0.heap.size ≤ K ∧ K ≤ wr.heap.size ∧ (K0 < j → ∀ a, B = some a → a.block < K) ∧ Below W0.heap.size W0 wr) (fun _ _ i _ => n - (intOf i).toNat)
  case atStart => exact ⟨0, 0, 0, 0, 0, none, none, W0.heap.size, Nat.zero_le _, rfl, rfl, rfl, by rw [List.take_zero, List.drop_nil]; exact Om.nil _ _ _, by rw [Nat.zero_min, List.take_zero]; exact Ow.nil _ _ _, fun _ => ⟨rfl, rfl⟩, Nat.le_refl _, Nat.le_refl _, fun _ a e => (by cases e), H0.out⟩
  case round =>
    clear HB PQ PZ HR H0
    obtain ⟨j, m, cg, p, cb, G, B, K, hj, rfl, rfl, rfl, ho, hw, hG, hK1, hK2, hK3, hbr⟩ := hrel
    have HB := hid (below_then XB.out hbr); have PQ := hid (XQ.out.step hbr); have PZ := hid (XZ.out.step hbr); have HR := hid (XR.out.step hbr); have HBr := hid hbr
    have HO := hid ho; have HW := hid hw; have HGn := hid hG; have hk1 := hid hK1; have hk2 := hid hK2; have hk3 := hid hK3; have hs0 := hid hbr.size
    have hmL := hid ho.len; have hpL := hid hw.len
    clear ho hw hG hK1 hK2 hK3 hbr
    by_cases hjn : j < n
    · obtain ⟨b, off, rfl, _, hbh, hc⟩ := HR.out.row (by omega)
      obtain ⟨f0, f1⟩ := Sm.cb (lo := 0) (hi := wr.heap.size) hc hjn
      obtain ⟨⟨v0, v1⟩, hx⟩ : ∃ x, x = xs[j]?.getD (0, 0) := ⟨_, rfl⟩
      rw [← hx] at f0 f1
      have hjc : (j : Int) < (n : Int) := by omega
      have HX : Hid (perAt xs j = v0) := hid (by show (xs[j]?.getD (0, 0)).1 = v0; rw [← hx])
      have HTK : Hid (xs.take (j + 1) = xs.take j ++ [(v0, v1)]) := hid (by rw [hx, List.take_add_one, List.getElem?_eq_getElem (by rw [hl.out]; exact hjn)]; rfl)
      have HJ := hid (HI.out j (by rw [hl.out]; exact hjn))
      clear hx hc
      go_upto_region 6 with fail
      clear f0 f1
      have bx := below_box wr (.cells #[.int .u64 v0, .int .u64 v1] 60)
      replace PQ := hid (PQ.out.step bx); replace PZ := hid (PZ.out.step bx); replace HR := hid (HR.out.step bx); replace HO := hid (HO.out.step bx); replace HW := hid (HW.out.step bx); replace HB := hid (below_then HB.out bx); replace HBr := hid (below_then HBr.out bx)
      clear bx
      have PC := hid (Blk.new wr 60 #[.int .u64 v0, .int .u64 v1])
      have hz1 := hid (show (wr.alloc (.cells #[.int .u64 v0, .int .u64 v1] 60)).heap.size = wr.heap.size + 1 by simp)
      generalize wr.alloc (.cells #[.int .u64 v0, .int .u64 v1] 60) = W1 at *
      have hk2' := hid (show K ≤ W1.heap.size by have := hk2.out; have := hz1.out; omega)
      by_cases hjk : j < K0
      · have hle : v0 ≤ o := by have := (HJ.out.1 hjk).1; rwa [HX.out] at this
        have hpj : p = j := by rw [← hpL.out, List.length_map, List.length_take]; have := hl.out; omega
        have hlt : (p : Int) < most := by have := (HJ.out.1 hjk).2; omega
        have HPJ := hid hpj
        have hpb : p ≤ 1000000 := by omega
        clear hpj
        obtain ⟨rfl, rfl⟩ := HGn.out (by omega)
        have hi0 := HI0.out; have hz00 := HZ0.out; have hz01 := HZ1.out; have hz02 := HZ2.out
        obtain ⟨y00, y01, yf0⟩ := PQ.out.cells2
        obtain ⟨y10, y11, yf1⟩ := PC.out.cells2
        go_wp2_with (at_builtin; refine wpList_app u64v 0 _ rfl _ _ 40 rfl W0.heap.size 35 i0 _ 8 Tryz.underlying40 hi0 hz00 hz01 hz02 rfl B p cb _ rfl (HW.out.alloc _) W1.heap.size (W1.heap.size + 1) _ 1 _ [v1] rfl (Sl.one' (by simp)) (fun _ => rfl) (by simp only [maxLen]; omega) (by omega) (by have := hs0.out; have := hz1.out; simp; omega) ?_; intro B' cb' w7 own7 hg7 hat7; have hrow := hid HW.out.row_ge; have hb7 := hid (((Below.refl W0.heap.size W1).alloc (by have := hs0.out; have := hz1.out; omega) (.cells #[.int .u64 v1] 35)).grown hg7 (by have := hs0.out; have := hz1.out; simp; omega) (fun r e => hrow.out r e)); have OWN7 := hid own7; have HG7 := hid hg7; clear own7 hg7 hat7 hrow)
        clear hi0 hz00 hz01 hz02 hle hlt y00 y01 yf0 y10 y11 yf1
        go_roundw
        case rel =>
          have hs7 := HG7.out.size
          refine ⟨j + 1, m, 0, p + 1, cb', none, B', w7.heap.size, by omega, by go_num, rfl, rfl, ?_, ?_, fun _ => ⟨rfl, rfl⟩, by have := hb7.out.size; have := hs0.out; have := hz1.out; simp at hs7; omega, Nat.le_refl _, fun h => absurd h (by omega), HBr.out.trans hb7.out⟩
          · have e0 : m = 0 := by rw [← hmL.out, List.length_drop, List.length_take]; omega
            subst e0
            have e1 : (xs.take (j + 1)).drop K0 = [] := List.drop_eq_nil_of_le (by rw [List.length_take]; omega)
            rw [e1]
            exact Om.nil _ _ _
          · have := OWN7.out
            rwa [show ((xs.take (min j K0)).map (·.2)) ++ [v1] = (xs.take (min (j + 1) K0)).map (·.2) by
              rw [Nat.min_eq_left (by omega), Nat.min_eq_left (by omega), HTK.out]; simp] at this
        case measure => simp [intOf]; omega
      · have hi0 := HJ0.out; have hz00 := HY0.out; have hz01 := HY1.out; have hz02 := HY2.out
        have hmj : m = j - K0 := by rw [← hmL.out, List.length_drop, List.length_take]; have := hl.out; omega
        have hK3 := hid (show ∀ a, B = some a → a.block < W1.heap.size from fun a ha => by subst ha; exact (HW.out.own.lt a.block rfl).2)
        have HC2 : Hid (∀ q, q < 2 → (#[.int .u64 v0, .int .u64 v1] : Array Value)[q]? = some (encC (v0, v1) q)) := hid (by intro q hq; match q, hq with | 0, _ => rfl | 1, _ => rfl)
        obtain ⟨K2, hK2⟩ : ∃ K2, Hid (Om 2 encC W1 K2 60 G m cg ((xs.take j).drop K0) ∧ W0.heap.size ≤ K2 ∧ K2 ≤ W1.heap.size ∧ ∀ a, B = some a → a.block < K2) := by
          by_cases hjk2 : K0 < j
          · exact ⟨K, hid ⟨HO.out, hk1.out, hk2'.out, hk3.out hjk2⟩⟩
          · obtain ⟨rfl, rfl⟩ := HGn.out (by omega)
            obtain rfl : m = 0 := by omega
            exact ⟨W1.heap.size, hid ⟨by have := HO.out.len; rw [List.eq_nil_of_length_eq_zero this]; exact Om.nil _ _ _, by have := hs0.out; have := hz1.out; omega, Nat.le_refl _, hK3.out⟩⟩
        have hO2 := hid hK2.out.1; have hK21 := hid hK2.out.2.1; have hK22 := hid hK2.out.2.2.1; have hK23 := hid hK2.out.2.2.2
        have HMJ := hid hmj
        have hmb : m ≤ 1000000 := by omega
        clear hmj
        have hnle : v0 ≤ o → ¬ (p : Int) < most := fun h1 h2 => hjk (HJ.out.2 ⟨by rw [HX.out]; exact h1, by rw [← hpL.out, List.length_map, List.length_take] at h2; have := hl.out; omega⟩)
        have HNLE := hid hnle
        clear hnle
        by_cases hle : v0 ≤ o
        · have hlt := HNLE.out hle
          obtain ⟨y00, y01, yf0⟩ := PQ.out.cells2
          obtain ⟨y10, y11, yf1⟩ := PC.out.cells2
          go_wp2_with (at_builtin; refine wpList_appm 2 encC (0, 0) _ rfl _ _ 56 rfl K2 60 i0' _ 16 Tryz.underlying56 hi0 hz00 hz01 hz02 rfl (by omega) G m cg _ rfl (hO2.out.alloc _) 0 (W1.alloc (.cells #[.int .u64 v0, .int .u64 v1] 60)).heap.size _ 1 _ [(v0, v1)] rfl (Sm.one (v0, v1) rfl HC2.out) encC_one (by simp only [maxLen]; omega) (by omega) (by have := hK22.out; simp; omega) ?_; intro G' cg' w7 own7 hg7 hat7; have hrow := hid hO2.out.row_ge; have hb7 := hid (((Below.refl W0.heap.size W1).alloc (by have := hs0.out; have := hz1.out; omega) (.cells #[.int .u64 v0, .int .u64 v1] 60)).grown hg7 (by have := hs0.out; have := hz1.out; simp; omega) (fun r e => Nat.le_trans hK21.out (hrow.out r e))); have OWN7 := hid own7; have HG7 := hid hg7; have HW7 := hid ((HW.out.alloc (.cells #[.int .u64 v0, .int .u64 v1] 60)).grownN hg7 (fun k hk a ha => by have := hrow.out k hk; have := hK23.out a ha; omega)); clear own7 hg7 hat7 hrow)
          clear hi0 hz00 hz01 hz02 hle hlt y00 y01 yf0 y10 y11 yf1
          go_roundw
          case rel =>
            have hs7 := HG7.out.size
            refine ⟨j + 1, m + 1, cg', p, cb, G', B, K2, by omega, by go_num, rfl, rfl, ?_, ?_, fun h => absurd h (by omega), hK21.out, by have := hK22.out; simp at hs7; omega, fun _ => hK23.out, HBr.out.trans hb7.out⟩
            · have := OWN7.out
              rwa [show (xs.take j).drop K0 ++ [(v0, v1)] = (xs.take (j + 1)).drop K0 by
                rw [HTK.out, List.drop_append_of_le_length (by rw [List.length_take]; have := hl.out; omega)]] at this
            · have := HW7.out
              rwa [show min j K0 = min (j + 1) K0 by omega] at this
          case measure => simp [intOf]; omega
        · skip
          obtain ⟨y00, y01, yf0⟩ := PQ.out.cells2
          obtain ⟨y10, y11, yf1⟩ := PC.out.cells2
          go_wp2_with (at_builtin; refine wpList_appm 2 encC (0, 0) _ rfl _ _ 56 rfl K2 60 i0' _ 16 Tryz.underlying56 hi0 hz00 hz01 hz02 rfl (by omega) G m cg _ rfl (hO2.out.alloc _) 0 (W1.alloc (.cells #[.int .u64 v0, .int .u64 v1] 60)).heap.size _ 1 _ [(v0, v1)] rfl (Sm.one (v0, v1) rfl HC2.out) encC_one (by simp only [maxLen]; omega) (by omega) (by have := hK22.out; simp; omega) ?_; intro G' cg' w7 own7 hg7 hat7; have hrow := hid hO2.out.row_ge; have hb7 := hid (((Below.refl W0.heap.size W1).alloc (by have := hs0.out; have := hz1.out; omega) (.cells #[.int .u64 v0, .int .u64 v1] 60)).grown hg7 (by have := hs0.out; have := hz1.out; simp; omega) (fun r e => Nat.le_trans hK21.out (hrow.out r e))); have OWN7 := hid own7; have HG7 := hid hg7; have HW7 := hid ((HW.out.alloc (.cells #[.int .u64 v0, .int .u64 v1] 60)).grownN hg7 (fun k hk a ha => by have := hrow.out k hk; have := hK23.out a ha; omega)); clear own7 hg7 hat7 hrow)
          clear hi0 hz00 hz01 hz02 hle y00 y01 yf0 y10 y11 yf1
          go_roundw
          case rel =>
            have hs7 := HG7.out.size
            refine ⟨j + 1, m + 1, cg', p, cb, G', B, K2, by omega, by go_num, rfl, rfl, ?_, ?_, fun h => absurd h (by omega), hK21.out, by have := hK22.out; simp at hs7; omega, fun _ => hK23.out, HBr.out.trans hb7.out⟩
            · have := OWN7.out
              rwa [show (xs.take j).drop K0 ++ [(v0, v1)] = (xs.take (j + 1)).drop K0 by
                rw [HTK.out, List.drop_append_of_le_length (by rw [List.length_take]; have := hl.out; omega)]] at this
            · have := HW7.out
              rwa [show min j K0 = min (j + 1) K0 by omega] at this
          case measure => simp [intOf]; omega
    · obtain rfl : j = n := by omega
      obtain ⟨u0, u1, uf⟩ := PQ.out.cells2
      obtain ⟨v0, v1, vf⟩ := (PQ.out.setCell 0 (.slice G m cg)).cells2
      obtain ⟨z0, z1, zf⟩ := PZ.out.cells2
      obtain ⟨q0, q1, qf⟩ := (((PZ.out.far (p := ⟨w.heap.size, 0, none⟩) (by simp) (.slice G m cg)).setCell 0 (.slice G m cg)).setCell 1 (.int .u64 o)).cells2
      go_wp2_with fail
      refine bodyPost_ret (v := .tuple #[qv G m cg o, .slice B p cb]) (by simp [results, Tryz.results38, go_sem, q0, q1]) rfl ?_
      rw [HE.out]
      have hz0' := hz0.out
      have hk1' := hk1.out
      refine ⟨G, m, cg, B, p, cb, rfl, ?_, ?_, ?_, HO.out.cap.1⟩
      · have o2 := HO.out
        rw [List.take_of_length_le (by rw [hl.out]; exact Nat.le_refl _)] at o2
        exact ((((Qown.ofOm o2).setCell (p := ⟨w.heap.size, 0, none⟩) (by show w.heap.size < K; omega) _).setCell (p := ⟨w.heap.size + 1, 0, none⟩) (by show w.heap.size + 1 < K; omega) _).setCell (p := ⟨w.heap.size + 1, 1, none⟩) (by show w.heap.size + 1 < K; omega) _).mono (by omega)
      · have o2 := HW.out
        rw [Nat.min_eq_right hkn.out] at o2
        exact (((o2.setCell (p := ⟨w.heap.size, 0, none⟩) (by show w.heap.size < _; omega) _).setCell (p := ⟨w.heap.size + 1, 0, none⟩) (by show w.heap.size + 1 < _; omega) _).setCell (p := ⟨w.heap.size + 1, 1, none⟩) (by show w.heap.size + 1 < _; omega) _).mono (by omega)
      · exact ((HB.out.setCell (Nat.le_refl _) _).setCell (by simp) _).setCell (by simp) _
end Go.Proofs.YtfipdoofgbjbjaaGreat

/- afterglowref14: Step, a run. No condition but sizes. -/
namespace Go.Proofs.YtfipdoofgbjbjaaGreat
open Go.RowKit
attribute [local go_sem] Oper.semAt_some
def zSt : St := (0, [], [])
def zRa : Ra := ⟨none, 0, 0, none, 0, 0, none, 0, none, 0, 0⟩
theorem RcP.zero (p : Nat → Prop) (w : World) : RcP p w zSt zGr [] zRa := fun w' _ =>
  ⟨⟨Sl.nil _ _ _ _, Sl.nil _ _ _ _, Nat.le_refl _, Nat.le_refl _, by show 0 ≤ 1000; omega, by show 0 ≤ 1000; omega⟩, Sl.nil _ _ _ _, by show 0 ≤ 1000; omega, ⟨by show (0 : Int) ≤ _; omega, by show (0 : Int) ≤ _; omega⟩, Sm.nil _ _ _ _, by show 0 ≤ 1000; omega, fun x hx => by cases hx⟩
/-- what Step hands back -/
def RS14 (p : Nat → Prop) (w : World) (s : St) (g : Gr) (qs : Qs) (what : Int) (ran : Bool) (c : Int) (x : Ending) (w' : World) : Prop :=
  ∃ a es, x = .returned (.tuple #[rcv s g a, .int .u64 what, .bool ran, .int .i64 c]) ∧ ql es = qs ∧ a.nq = es.length ∧ RcP p w' s g es a ∧ Below w.heap.size w w'
/-- what a run hands back -/
def RunP (p : Nat → Prop) (w : World) (s : St) (g : Gr) (qs : Qs) (cp : Nat) (x : Ending) (w' : World) : Prop :=
  if 0 < drN qs cp then RS14 p w s g (drQ qs cp 1) ((drR qs cp 1)[0]?.getD 0) true 0 x w' else RS14 p w zSt zGr [] 0 false 4 x w'
theorem RunP.yes {p : Nat → Prop} {w : World} {s : St} {g : Gr} {qs : Qs} {cp : Nat} {x : Ending} {w' : World} (h : 0 < drN qs cp) (k : RS14 p w s g (drQ qs cp 1) ((drR qs cp 1)[0]?.getD 0) true 0 x w') : RunP p w s g qs cp x w' := by unfold RunP; rw [if_pos h]; exact k
theorem RunP.no {p : Nat → Prop} {w : World} {s : St} {g : Gr} {qs : Qs} {cp : Nat} {x : Ending} {w' : World} (h : ¬ 0 < drN qs cp) (k : RS14 p w zSt zGr [] 0 false 4 x w') : RunP p w s g qs cp x w' := by unfold RunP; rw [if_neg h]; exact k
theorem Qown.forP {w : World} {lo n : Nat} {A : Option Addr} {xs : List Cb} {p : Nat → Prop} (h : Qown w lo A n xs) (hp : ∀ i, p i → i < lo) : ∀ w', GrownP p w w' → Sm 2 encC (0, 0) w' 0 w'.heap.size A n xs := fun w' k =>
  (h.keptP k (fun hn a ha hq => by
    obtain ⟨b, off, e, h1, _, _⟩ := h.sm.row hn
    rw [e] at ha; cases ha
    have := hp _ hq
    dsimp only at this
    omega)).sm.mono (Nat.zero_le _) (Nat.le_refl _)
set_option maxRecDepth 100000 in
set_option maxHeartbeats 8000000 in
theorem rstep14_run (p : Nat → Prop) (s : St) (g : Gr) (es : List Qe) (a : Ra) (cp : Nat) (what : Int) (w : World) (h : RcP p w s g es a) (hp : ∀ i, p i → i < w.heap.size) (hcp : cp < es.length) (hnq : a.nq = es.length) (hq : QGood (qAt (ql es) cp).2 (qAt (ql es) cp).1) :
    Calls Tryz.prog 11 #[rcv s g a, .agg #[.int .i64 5, .int .i64 cp, .int .u64 what]] w (RunP p w s g (ql es) cp) := by
  have HB := hid (Below.refl w.heap.size w); have HR := hid h.fresh; have HP := hid hp; have HC := hid hcp; have HNQ := hid hnq
  have HLQ := hid h.rcr.ql
  obtain ⟨x, hx⟩ : ∃ x, x = es[cp]?.getD zQe := ⟨_, rfl⟩
  have hxm : x ∈ es := by rw [hx, List.getElem?_eq_getElem hcp]; exact List.getElem_mem _
  have hqa : qAt (ql es) cp = (x.l, x.o) := by rw [hx]; unfold qAt ql; rw [List.getElem?_map, List.getElem?_eq_getElem hcp]; rfl
  have HX := hid (h.q_mem hxm).fresh
  have HQA := hid hqa
  rw [hqa] at hq
  have HQ0 := hid hq; have HXE := hid hx
  obtain ⟨xl, xo, xA, xn, xc⟩ := x
  have HCN := hid (show cp < a.nq by omega)
  obtain ⟨K, hK⟩ : ∃ K, K = min (doneN xo xl) (1 : Int).toNat := ⟨_, rfl⟩
  have HK := hid hK
  clear h hp hcp hnq hq hqa hxm hx hK
  have bx := below_box w (.cells (rcells s g a) 30)
  replace HR := hid (HR.out.step bx); replace HX := hid (HX.out.step bx); replace HB := hid (below_then HB.out bx)
  clear bx
  have P := hid (Blk.new w 30 (rcells s g a))
  have bx := below_box (w.alloc (.cells (rcells s g a) 30)) (.cells #[.int .i64 5, .int .i64 cp, .int .u64 what] 37)
  replace HR := hid (HR.out.step bx); replace HX := hid (HX.out.step bx); replace P := hid (P.out.step bx); replace HB := hid (below_then HB.out bx)
  clear bx
  have PO := hid (Blk.new2 w 37 #[.int .i64 5, .int .i64 cp, .int .u64 what] (.cells (rcells s g a) 30))
  have bx := below_box ((w.alloc (.cells (rcells s g a) 30)).alloc (.cells #[.int .i64 5, .int .i64 cp, .int .u64 what] 37)) (.cells #[.int .i64 0, .slice none 0 0, .slice none 0 0, .int .i64 0, .int .i64 0, .bool false, .slice none 0 0, .slice none 0 0] 30)
  replace HR := hid (HR.out.step bx); replace HX := hid (HX.out.step bx); replace P := hid (P.out.step bx); replace PO := hid (PO.out.step bx); replace HB := hid (below_then HB.out bx)
  clear bx
  have PZ := hid (Blk.new3 w 30 #[.int .i64 0, .slice none 0 0, .slice none 0 0, .int .i64 0, .int .i64 0, .bool false, .slice none 0 0, .slice none 0 0] (.cells (rcells s g a) 30) (.cells #[.int .i64 5, .int .i64 cp, .int .u64 what] 37))
  go_enter Tryz.func11, Tryz.ntmps11
  obtain ⟨y00, y01, y02, y03, y04, y05, y06, y07, yf0⟩ := P.out.cells8
  obtain ⟨y10, y11, y12, yf1⟩ := PO.out.cells3
  obtain ⟨y20, y21, y22, y23, y24, y25, y26, y27, yf2⟩ := PZ.out.cells8
  go_upto_region 1 with fail
  clear y00 y01 y02 y03 y04 y05 y06 y07 yf0 y20 y21 y22 y23 y24 y25 y26 y27 yf2 y10 y11 y12 yf1
  have hz0 := hid (show (((w.alloc (.cells (rcells s g a) 30)).alloc (.cells #[.int .i64 5, .int .i64 cp, .int .u64 what] 37)).alloc (.cells #[.int .i64 0, .slice none 0 0, .slice none 0 0, .int .i64 0, .int .i64 0, .bool false, .slice none 0 0, .slice none 0 0] 30)).heap.size = w.heap.size + 3 by simp)
  generalize ((w.alloc (.cells (rcells s g a) 30)).alloc (.cells #[.int .i64 5, .int .i64 cp, .int .u64 what] 37)).alloc (.cells #[.int .i64 0, .slice none 0 0, .slice none 0 0, .int .i64 0, .int .i64 0, .bool false, .slice none 0 0, .slice none 0 0] 30) = W0 at *
  obtain ⟨b, off, hQ, _, hbh, hc⟩ := HR.out.rcr.qs.row (by have := HCN.out; omega)
  have f0 := hc cp HCN.out 0 (by omega)
  have f1 := hc cp HCN.out 1 (by omega)
  rw [← HXE.out] at f0 f1
  replace f0 : W0.cell? ⟨b, off + cp * 2, none⟩ = some (.slice xA xn xc) := f0
  replace f1 : W0.cell? ⟨b, off + cp * 2 + 1, none⟩ = some (.int .u64 xo) := f1
  clear hc hbh
  have hci : (cp : Int) < (a.nq : Int) := by have := HCN.out; omega
  have hci2 : ¬ ((a.nq : Int) ≤ (cp : Int)) := by omega
  have hci3 : ¬ ((cp : Int) < 0) := by omega
  have P0 := hid (show Blk W0 w.heap.size 30 #[.int .i64 s.1, .slice a.A a.n a.k, .slice a.B a.m a.d, .int .i64 g.dn, .int .i64 g.ak, .bool g.on, .slice a.D g.nd.length a.kd, .slice (some ⟨b, off, none⟩) a.nq a.kq] by have h := P.out; unfold rcells at h; rw [hQ] at h; exact h)
  obtain ⟨y00, y01, y02, y03, y04, y05, y06, y07, yf0⟩ := P0.out.cells8
  obtain ⟨y10, y11, y12, yf1⟩ := PO.out.cells3
  go_wp2_with fail
  clear y10 y11 y12 yf1 f0 f1 hci hci2 hci3 P0 y00 y01 y02 y03 y04 y05 y06 y07 yf0
  have HE := hid (show drainF xo xl 1 = (xo, xl.drop K, (xl.take K).map (·.2), 0) by rw [drainF, if_neg (not_not_intro HQ0.out), if_neg (by omega), ← HK.out])
  obtain ⟨x1, x2, x3, x4⟩ := HX.out W0 (.refl _ _)
  dsimp only at x1 x3 x4
  have HXM := hid x3; have HXO := hid x4; have HXL := hid x1.len; have hxm : xn ≤ 1000 := x3
  refine (show Calls Tryz.prog 38 #[qv xA xn xc xo, .int .i64 1] W0 (RdPost W0 (xo, xl.drop K, (xl.take K).map (·.2), 0)) from HE.out ▸ qrdrain_any xA xn xc xo xl 1 W0 x1 (by omega) (by omega) HQ0.out).mono ?_
  clear HE x1 x2 x3 x4 hxm HQ0
  rintro e w1 ⟨A2, n2, c2, B2, m2, d2, rfl, hq2, hout, hb, hn2⟩
  dsimp only at hq2 hout ⊢
  have HO := hid hq2; have HU := hid hout; have HN2 := hid hn2
  clear hq2 hout hn2 hQ HX
  replace HR := hid (HR.out.step hb); replace P := hid (P.out.step hb); replace PO := hid (PO.out.step hb); replace PZ := hid (PZ.out.step hb); replace HB := hid (below_then HB.out hb)
  have HS1 := hid (show w.heap.size + 3 ≤ W0.heap.size by have := hz0.out; omega); have HS2 := hid hb.size
  have HK1 := hid (show K ≤ 1 by rw [HK.out]; exact Nat.min_le_right _ _); have HKL := hid (show K ≤ xl.length by rw [HK.out]; exact Nat.le_trans (Nat.min_le_left _ _) (doneN_le _ _))
  have HM2 := hid (show m2 = K by have := HU.out.len; rw [List.length_map, List.length_take] at this; have := HKL.out; omega)
  clear hb hz0
  have bx := below_box w1 (.cells #[.slice A2 n2 c2, .int .u64 xo] 58)
  replace HR := hid (HR.out.step bx); replace P := hid (P.out.step bx); replace PO := hid (PO.out.step bx); replace PZ := hid (PZ.out.step bx); replace HO := hid (HO.out.step bx); replace HU := hid (HU.out.step bx); replace HB := hid (below_then HB.out bx)
  clear bx
  have PT := hid (Blk.new w1 58 #[.slice A2 n2 c2, .int .u64 xo])
  rcases Nat.lt_or_ge 0 K with hk | hk
  rotate_left
  ·skip
   obtain rfl : K = 0 := by omega
   obtain rfl := HM2.out
   obtain ⟨y00, y01, y02, y03, y04, y05, y06, y07, yf0⟩ := PZ.out.cells8
   go_wp2_with fail
   clear y00 y01 y02 y03 y04 y05 y06 y07 yf0
   generalize w1.alloc (.cells #[.slice A2 n2 c2, .int .u64 xo] 58) = W2 at *
   have hbk0 : Blk (W2.setCell ⟨w.heap.size + 1 + 1, 0, none⟩ (.int .i64 0)) (w.heap.size + 1 + 1) 30 #[.int .i64 0, .slice none 0 0, .slice none 0 0, .int .i64 0, .int .i64 0, .bool false, .slice none 0 0, .slice none 0 0] := PZ.out.setCell 0 (.int .i64 0)
   have hbk1 : Blk ((W2.setCell ⟨w.heap.size + 1 + 1, 0, none⟩ (.int .i64 0)).setCell ⟨w.heap.size + 1 + 1, 1, none⟩ (.slice none 0 0)) (w.heap.size + 1 + 1) 30 #[.int .i64 0, .slice none 0 0, .slice none 0 0, .int .i64 0, .int .i64 0, .bool false, .slice none 0 0, .slice none 0 0] := hbk0.setCell 1 (.slice none 0 0)
   have hbk2 : Blk (((W2.setCell ⟨w.heap.size + 1 + 1, 0, none⟩ (.int .i64 0)).setCell ⟨w.heap.size + 1 + 1, 1, none⟩ (.slice none 0 0)).setCell ⟨w.heap.size + 1 + 1, 2, none⟩ (.slice none 0 0)) (w.heap.size + 1 + 1) 30 #[.int .i64 0, .slice none 0 0, .slice none 0 0, .int .i64 0, .int .i64 0, .bool false, .slice none 0 0, .slice none 0 0] := hbk1.setCell 2 (.slice none 0 0)
   have hbk3 : Blk ((((W2.setCell ⟨w.heap.size + 1 + 1, 0, none⟩ (.int .i64 0)).setCell ⟨w.heap.size + 1 + 1, 1, none⟩ (.slice none 0 0)).setCell ⟨w.heap.size + 1 + 1, 2, none⟩ (.slice none 0 0)).setCell ⟨w.heap.size + 1 + 1, 3, none⟩ (.int .i64 0)) (w.heap.size + 1 + 1) 30 #[.int .i64 0, .slice none 0 0, .slice none 0 0, .int .i64 0, .int .i64 0, .bool false, .slice none 0 0, .slice none 0 0] := hbk2.setCell 3 (.int .i64 0)
   have hbk4 : Blk (((((W2.setCell ⟨w.heap.size + 1 + 1, 0, none⟩ (.int .i64 0)).setCell ⟨w.heap.size + 1 + 1, 1, none⟩ (.slice none 0 0)).setCell ⟨w.heap.size + 1 + 1, 2, none⟩ (.slice none 0 0)).setCell ⟨w.heap.size + 1 + 1, 3, none⟩ (.int .i64 0)).setCell ⟨w.heap.size + 1 + 1, 4, none⟩ (.int .i64 0)) (w.heap.size + 1 + 1) 30 #[.int .i64 0, .slice none 0 0, .slice none 0 0, .int .i64 0, .int .i64 0, .bool false, .slice none 0 0, .slice none 0 0] := hbk3.setCell 4 (.int .i64 0)
   have hbk5 : Blk ((((((W2.setCell ⟨w.heap.size + 1 + 1, 0, none⟩ (.int .i64 0)).setCell ⟨w.heap.size + 1 + 1, 1, none⟩ (.slice none 0 0)).setCell ⟨w.heap.size + 1 + 1, 2, none⟩ (.slice none 0 0)).setCell ⟨w.heap.size + 1 + 1, 3, none⟩ (.int .i64 0)).setCell ⟨w.heap.size + 1 + 1, 4, none⟩ (.int .i64 0)).setCell ⟨w.heap.size + 1 + 1, 5, none⟩ (.bool false)) (w.heap.size + 1 + 1) 30 #[.int .i64 0, .slice none 0 0, .slice none 0 0, .int .i64 0, .int .i64 0, .bool false, .slice none 0 0, .slice none 0 0] := hbk4.setCell 5 (.bool false)
   have hbk6 : Blk (((((((W2.setCell ⟨w.heap.size + 1 + 1, 0, none⟩ (.int .i64 0)).setCell ⟨w.heap.size + 1 + 1, 1, none⟩ (.slice none 0 0)).setCell ⟨w.heap.size + 1 + 1, 2, none⟩ (.slice none 0 0)).setCell ⟨w.heap.size + 1 + 1, 3, none⟩ (.int .i64 0)).setCell ⟨w.heap.size + 1 + 1, 4, none⟩ (.int .i64 0)).setCell ⟨w.heap.size + 1 + 1, 5, none⟩ (.bool false)).setCell ⟨w.heap.size + 1 + 1, 6, none⟩ (.slice none 0 0)) (w.heap.size + 1 + 1) 30 #[.int .i64 0, .slice none 0 0, .slice none 0 0, .int .i64 0, .int .i64 0, .bool false, .slice none 0 0, .slice none 0 0] := hbk5.setCell 6 (.slice none 0 0)
   have hbk7 : Blk ((((((((W2.setCell ⟨w.heap.size + 1 + 1, 0, none⟩ (.int .i64 0)).setCell ⟨w.heap.size + 1 + 1, 1, none⟩ (.slice none 0 0)).setCell ⟨w.heap.size + 1 + 1, 2, none⟩ (.slice none 0 0)).setCell ⟨w.heap.size + 1 + 1, 3, none⟩ (.int .i64 0)).setCell ⟨w.heap.size + 1 + 1, 4, none⟩ (.int .i64 0)).setCell ⟨w.heap.size + 1 + 1, 5, none⟩ (.bool false)).setCell ⟨w.heap.size + 1 + 1, 6, none⟩ (.slice none 0 0)).setCell ⟨w.heap.size + 1 + 1, 7, none⟩ (.slice none 0 0)) (w.heap.size + 1 + 1) 30 #[.int .i64 0, .slice none 0 0, .slice none 0 0, .int .i64 0, .int .i64 0, .bool false, .slice none 0 0, .slice none 0 0] := hbk6.setCell 7 (.slice none 0 0)
   have hgr : W2.grownBy ((((((((W2.setCell ⟨w.heap.size + 1 + 1, 0, none⟩ (.int .i64 0)).setCell ⟨w.heap.size + 1 + 1, 1, none⟩ (.slice none 0 0)).setCell ⟨w.heap.size + 1 + 1, 2, none⟩ (.slice none 0 0)).setCell ⟨w.heap.size + 1 + 1, 3, none⟩ (.int .i64 0)).setCell ⟨w.heap.size + 1 + 1, 4, none⟩ (.int .i64 0)).setCell ⟨w.heap.size + 1 + 1, 5, none⟩ (.bool false)).setCell ⟨w.heap.size + 1 + 1, 6, none⟩ (.slice none 0 0)).setCell ⟨w.heap.size + 1 + 1, 7, none⟩ (.slice none 0 0)) (some (w.heap.size + 1 + 1)) := (grown_set (grown_set (grown_set (grown_set (grown_set (grown_set (grown_set (grown_set (World.grownBy.refl W2 (some (w.heap.size + 1 + 1))) 0 (.int .i64 0)) 1 (.slice none 0 0)) 2 (.slice none 0 0)) 3 (.int .i64 0)) 4 (.int .i64 0)) 5 (.bool false)) 6 (.slice none 0 0)) 7 (.slice none 0 0))
   replace PZ := hid hbk7
   clear hbk0 hbk1 hbk2 hbk3 hbk4 hbk5 hbk6 hbk7
   generalize (((((((W2.setCell ⟨w.heap.size + 1 + 1, 0, none⟩ (.int .i64 0)).setCell ⟨w.heap.size + 1 + 1, 1, none⟩ (.slice none 0 0)).setCell ⟨w.heap.size + 1 + 1, 2, none⟩ (.slice none 0 0)).setCell ⟨w.heap.size + 1 + 1, 3, none⟩ (.int .i64 0)).setCell ⟨w.heap.size + 1 + 1, 4, none⟩ (.int .i64 0)).setCell ⟨w.heap.size + 1 + 1, 5, none⟩ (.bool false)).setCell ⟨w.heap.size + 1 + 1, 6, none⟩ (.slice none 0 0)).setCell ⟨w.heap.size + 1 + 1, 7, none⟩ (.slice none 0 0) = W3 at *
   replace HB := hid (HB.out.grown hgr HB.out.size (fun r e => by cases e; omega))
   clear hgr
   obtain ⟨q0, q1, q2, q3, q4, q5, q6, q7, qf⟩ := PZ.out.cells8
   have HNO := hid (show ¬ 0 < drN (ql es) cp by unfold drN; rw [HQA.out]; dsimp only; have := HK.out; have h1 : Int.toNat 1 = 1 := rfl; omega)
   refine bodyPost_ret (v := .tuple #[rcv zSt zGr zRa, .int .u64 0, .bool false, .int .i64 4]) (by simp [results, Tryz.results11, go_sem, q0, q1, q2, q3, q4, q5, q6, q7, zSt, zGr, zRa]) rfl (RunP.no HNO.out ⟨zRa, [], rfl, rfl, rfl, RcP.zero _ _, HB.out⟩)
  ·skip
   obtain rfl : K = 1 := by have := HK1.out; omega
   obtain rfl := HM2.out
   go_upto_region 15 with fail
   have HS3 := hid (show (w1.alloc (.cells #[.slice A2 n2 c2, .int .u64 xo] 58)).heap.size = w1.heap.size + 1 by simp)
   generalize w1.alloc (.cells #[.slice A2 n2 c2, .int .u64 xo] 58) = W2 at *
   obtain ⟨p3, hp3⟩ : ∃ p3 : Nat → Prop, p3 = fun i => p i ∨ (w.heap.size ≤ i ∧ i < w.heap.size + 3) := ⟨_, rfl⟩
   have HP3 := hid (show ∀ i, w.heap.size ≤ i → i < w.heap.size + 3 → p3 i by rw [hp3]; exact fun i h1 h2 => .inr ⟨h1, h2⟩)
   have HPP := hid (show ∀ i, p i → p3 i by rw [hp3]; exact fun i h1 => .inl h1)
   have HLT := hid (show ∀ i, p3 i → i < W0.heap.size by rw [hp3]; exact fun i hi => by have := HS1.out; rcases hi with hi | hi; have := HP.out i hi; omega; omega)
   replace HR := hid (HR.out.mono (q := p3) (fun i hi => by rw [hp3] at hi; exact hi.elim .inl (fun h => .inr h.1)))
   have HX := hid (show QeP p3 W2 ⟨xl.drop 1, xo, A2, n2, c2⟩ from fun w' k => ⟨HO.out.forP HLT.out w' k, HN2.out, by have h1 := HO.out.sm.len; have h2 := HXL.out; have h3 := HXM.out; rw [List.length_drop] at h1; dsimp only at h2 h3 ⊢; omega, HXO.out⟩)
   have HG := hid (GrownP.refl p3 W2)
   clear hp3 HXM HXL HXO HN2 HO
   obtain ⟨y, hy⟩ : ∃ y, y = ((xl.take 1).map (·.2))[0]?.getD 0 := ⟨_, rfl⟩
   obtain ⟨b3, o3, hB3, _, _, hc3⟩ := ((HU.out.forP (d := 0) HLT.out) W2 (.refl _ _)).row (by omega)
   have HROW := hid (show ∀ W', GrownP p3 W2 W' → W'.cell? ⟨b3, o3, none⟩ = some (.int .u64 y) from fun W' k => by
     obtain ⟨b4, o4, hB4, _, _, hc4⟩ := ((HU.out.forP (d := 0) HLT.out) W' k).row (by omega)
     rw [hB3] at hB4; cases hB4
     have := hc4 0 (by omega); rw [← hy] at this; exact this)
   have HY := hid hy
   clear hc3 hy HU
   subst hB3
   have bx := (Below.refl W2.heap.size W2).drew
   replace HR := hid (HR.out.step bx); replace HX := hid (HX.out.step bx); replace HG := hid (HG.out.step bx); replace P := hid (P.out.step bx); replace PO := hid (PO.out.step bx); replace PT := hid (PT.out.step bx); replace PZ := hid (PZ.out.step bx); replace HB := hid (below_then HB.out bx)
   clear bx
   have hszd := hid (show W2.drew.heap.size = W2.heap.size from rfl)
   refine wp_region_noPanic ?_
   refine wp_region_held_drew (S := (fun W' : World => W'.cell? ⟨w.heap.size, 0, none⟩ = some (.int .i64 s.1) ∧ W'.cell? ⟨w.heap.size, 1, none⟩ = some (.slice a.A a.n a.k) ∧ W'.cell? ⟨w.heap.size, 2, none⟩ = some (.slice a.B a.m a.d) ∧ W'.cell? ⟨w.heap.size, 3, none⟩ = some (.int .i64 g.dn) ∧ W'.cell? ⟨w.heap.size, 4, none⟩ = some (.int .i64 g.ak) ∧ W'.cell? ⟨w.heap.size, 5, none⟩ = some (.bool g.on) ∧ W'.cell? ⟨w.heap.size, 6, none⟩ = some (.slice a.D g.nd.length a.kd) ∧ W'.cell? ⟨w.heap.size, 7, none⟩ = some (.slice a.Q a.nq a.kq) ∧ W'.cell? ⟨w.heap.size + 1, 0, none⟩ = some (.int .i64 5) ∧ W'.cell? ⟨w.heap.size + 1, 1, none⟩ = some (.int .i64 cp) ∧ W'.cell? ⟨w1.heap.size, 0, none⟩ = some (.slice A2 n2 c2) ∧ W'.cell? ⟨w1.heap.size, 1, none⟩ = some (.int .u64 xo) ∧ W'.cell? ⟨b3, o3, none⟩ = some (.int .u64 y))) (by kernel_rfl) ⟨P.out.cells8.1, P.out.cells8.2.1, P.out.cells8.2.2.1, P.out.cells8.2.2.2.1, P.out.cells8.2.2.2.2.1, P.out.cells8.2.2.2.2.2.1, P.out.cells8.2.2.2.2.2.2.1, P.out.cells8.2.2.2.2.2.2.2.1, PO.out.cells3.1, PO.out.cells3.2.1, PT.out.cells2.1, PT.out.cells2.2.1, (HROW.out _ HG.out)⟩ (fun hS => ?_)
   generalize W2.drew = Wd at *
   refine tk 0 hS ?_
   refine tk 1 hS ?_
   refine tk 2 hS ?_
   refine tk 3 hS ?_
   refine tk 5 hS ?_
   refine tk 6 hS ?_
   refine tk 7 hS ?_
   refine rdy [4] (csy (fun K hK => ?_) AllReadyH.nil)
   go_simp
   refine (rwith14_any p3 s g es a cp ⟨xl.drop 1, xo, A2, n2, c2⟩ _ HR.out (fun i hi => by have := HLT.out i hi; have := HS2.out; have := HS3.out; have := hszd.out; omega) HX.out HC.out HNQ.out).mono ?_
   rintro e w4 ⟨a2, es2, rfl, hqs, hnq, hR, hb⟩
   have hsz0 := hid (show Wd.heap.size ≤ w4.heap.size from hb.size)
   replace HR := hid (HR.out.step hb); replace HX := hid (HX.out.step hb); replace HG := hid (HG.out.step hb); replace P := hid (P.out.step hb); replace PO := hid (PO.out.step hb); replace PT := hid (PT.out.step hb); replace PZ := hid (PZ.out.step hb); replace HB := hid (below_then HB.out hb)
   clear hb
   have HR3 := hid hR; have HQS := hid hqs; have HN3 := hid hnq
   clear hR hqs hnq
   go_wp2_with fail
   clear hS
   refine ky hK ⟨P.out.cells8.1, P.out.cells8.2.1, P.out.cells8.2.2.1, P.out.cells8.2.2.2.1, P.out.cells8.2.2.2.2.1, P.out.cells8.2.2.2.2.2.1, P.out.cells8.2.2.2.2.2.2.1, P.out.cells8.2.2.2.2.2.2.2.1, PO.out.cells3.1, PO.out.cells3.2.1, PT.out.cells2.1, PT.out.cells2.2.1, (HROW.out _ HG.out)⟩ fun hS => ?_
   clear hK K
   refine rdy [8] (csy (fun K hK => ?_) AllReadyH.nil)
   obtain ⟨y00, y01, y02, y03, y04, y05, y06, y07, yf0⟩ := PZ.out.cells8
   go_simp
   clear y00 y01 y02 y03 y04 y05 y06 y07 yf0
   refine named_store_8_8_0 PZ.out ?_
   intro Ws8 hbk hgr hsz
   have hsz1 := hid hsz
   clear hsz
   replace P := hid (P.out.grown hgr (by simp <;> omega)); replace PO := hid (PO.out.grown hgr (by simp)); replace PT := hid (PT.out.grown hgr (by have := HS1.out; have := HS2.out; simp; omega))
   replace HR := hid (HR.out.turn hgr (HP3.out _ (by omega) (by omega))); replace HX := hid (HX.out.turn hgr (HP3.out _ (by omega) (by omega))); replace HR3 := hid (HR3.out.turn hgr (HP3.out _ (by omega) (by omega)))
   replace HG := hid (HG.out.trans (GrownP.ofGrown hgr (HP3.out _ (by omega) (by omega))))
   replace HB := hid (HB.out.grown hgr HB.out.size (fun r e => by cases e; omega))
   replace PZ := hid hbk
   clear hbk hgr
   clear hS
   refine ky hK ⟨P.out.cells8.1, P.out.cells8.2.1, P.out.cells8.2.2.1, P.out.cells8.2.2.2.1, P.out.cells8.2.2.2.2.1, P.out.cells8.2.2.2.2.2.1, P.out.cells8.2.2.2.2.2.2.1, P.out.cells8.2.2.2.2.2.2.2.1, PO.out.cells3.1, PO.out.cells3.2.1, PT.out.cells2.1, PT.out.cells2.2.1, (HROW.out _ HG.out)⟩ fun hS => ?_
   clear hK K
   refine tk 9 hS ?_
   refine tk 10 hS ?_
   refine tk 11 hS ?_
   refine wpAnyH_done (by kernel_rfl) ?_ _
   refine NoPanic.normal ?_
   clear hS
   go_wp2_with fail
   obtain ⟨q0, q1, q2, q3, q4, q5, q6, q7, qf⟩ := PZ.out.cells8
   have HYES := hid (show 0 < drN (ql es) cp by unfold drN; rw [HQA.out]; dsimp only; have := HK.out; have h1 : Int.toNat 1 = 1 := rfl; omega)
   have hyy : (drR (ql es) cp 1)[0]?.getD 0 = y := by unfold drR; rw [HQA.out]; exact HY.out.symm
   have hdq : drQ (ql es) cp 1 = (ql es).set cp (xl.drop 1, xo) := by unfold drQ; rw [HQA.out]
   refine bodyPost_ret (v := .tuple #[rcv s g a2, .int .u64 y, .bool true, .int .i64 0]) (by simp [results, Tryz.results11, go_sem, q0, q1, q2, q3, q4, q5, q6, q7]) rfl (RunP.yes HYES.out ⟨a2, es2, by rw [hyy], by rw [hdq]; exact HQS.out, HN3.out, HR3.out.mono HPP.out, HB.out⟩)
end Go.Proofs.YtfipdoofgbjbjaaGreat

/- package rcu: what settling ran: all that waited, each CPU's in its order. No condition. -/
namespace Go.Proofs.YtfipdoofgbjbjaaGreat
open Go.RowKit
/-- the words of all that waits -/
def wAll (qs : Qs) : List Int := (qs.map fun q => q.1.map Prod.snd).flatten
theorem wAll_len : ∀ qs : Qs, (wAll qs).length = wN qs
  | [] => rfl
  | q :: qs => by
    have ih := wAll_len qs
    unfold wAll wN at ih ⊢
    simp only [List.map_cons, List.flatten_cons, List.length_append, List.length_map, List.sum_cons, ih]
theorem wAll_overs (d d' : Int) (qs : Qs) : wAll (overs d d' qs) = wAll qs := by
  unfold overs wAll
  split
  · rw [List.map_map]; rfl
  · rfl
theorem at_overs (d d' : Int) (qs : Qs) (j : Nat) : (qAt (overs d d' qs) j).1 = (qAt qs j).1 := by
  unfold overs qAt
  split
  · rw [List.getElem?_map]; cases qs[j]? <;> rfl
  · rfl
theorem wAll_drain : ∀ (qs : Qs) (k j : Nat), k < qs.length → (drR qs k j ++ wAll (drQ qs k j)).Perm (wAll qs)
  | q :: qs, 0, j, _ => by
    show ((q.1.take j).map Prod.snd ++ ((q.1.drop j).map Prod.snd ++ wAll qs)).Perm (q.1.map Prod.snd ++ wAll qs)
    rw [← List.append_assoc, ← List.map_append, List.take_append_drop]
  | q :: qs, k + 1, j, h => by
    have ih := wAll_drain qs k j (by simpa using h)
    show (drR qs k j ++ (q.1.map Prod.snd ++ wAll (drQ qs k j))).Perm (q.1.map Prod.snd ++ wAll qs)
    exact (List.perm_append_comm_assoc _ _ _).trans (ih.append_left _)
/-- what was run, and what waits still -/
structure RanInv (q0 : Qs) (t : Sv) : Prop where
  perm : (t.ran ++ wAll t.qs).Perm (wAll q0)
  sub : ∀ j, ∃ d, (qAt t.qs j).1 = (qAt q0 j).1.drop d ∧ (((qAt q0 j).1.take d).map Prod.snd).Sublist t.ran
theorem ran_first (g : Gr) (q0 : Qs) (k : Nat) : RanInv q0 ⟨g, q0, [], k⟩ :=
  ⟨List.Perm.refl _, fun j => ⟨0, rfl, List.Sublist.refl _⟩⟩
theorem ran_turn {s : St} {q0 : Qs} {t : Sv} (h : SvOk s t) (hr : RanInv q0 t) : RanInv q0 (turnF t) := by
  have hk : t.k < (pkQ t).length := by rw [pk_len]; exact h.2.2
  have hat : ∀ j, (qAt (pkQ t) j).1 = (qAt t.qs j).1 := fun j => at_overs _ _ _ _
  refine ⟨?_, fun j => ?_⟩
  · show ((t.ran ++ drR (pkQ t) t.k _) ++ wAll (drQ (pkQ t) t.k _)).Perm _
    rw [List.append_assoc]
    refine ((wAll_drain (pkQ t) t.k _ hk).append_left _).trans ?_
    show (t.ran ++ wAll (overs _ _ _)).Perm _
    rw [wAll_overs]
    exact hr.perm
  · obtain ⟨d, h1, h2⟩ := hr.sub j
    show ∃ e, (qAt (drQ (pkQ t) t.k (drN (pkQ t) t.k)) j).1 = _ ∧ List.Sublist _ (t.ran ++ drR (pkQ t) t.k _)
    by_cases e : j = t.k
    · subst e
      refine ⟨d + drN (pkQ t) t.k, ?_, ?_⟩
      · unfold drQ
        show (((pkQ t).set t.k _)[t.k]?.getD ([], 0)).1 = _
        rw [List.getElem?_set_self hk]
        show (qAt (pkQ t) t.k).1.drop _ = _
        rw [hat, h1, List.drop_drop]
      · unfold drR
        rw [hat, h1, List.take_add, List.map_append]
        exact h2.append (List.Sublist.refl _)
    · refine ⟨d, ?_, h2.trans (List.sublist_append_left _ _)⟩
      unfold drQ
      show (((pkQ t).set t.k _)[j]?.getD ([], 0)).1 = _
      rw [List.getElem?_set_ne (Ne.symm e)]
      exact (hat j).trans h1
theorem wN_zero : ∀ {qs : Qs}, wN qs = 0 → wAll qs = [] ∧ ∀ j, (qAt qs j).1 = []
  | [], _ => ⟨rfl, fun j => rfl⟩
  | q :: qs, h => by
    unfold wN at h
    rw [List.map_cons, List.sum_cons] at h
    obtain ⟨h1, h2⟩ := wN_zero (qs := qs) (by unfold wN; omega)
    have hq : q.1 = [] := List.eq_nil_of_length_eq_zero (by omega)
    refine ⟨?_, fun j => ?_⟩
    · show q.1.map Prod.snd ++ wAll qs = []
      rw [hq, h1]; rfl
    · cases j with
      | zero => exact hq
      | succ j => exact h2 j
theorem idle_wN {s : St} {g : Gr} {qs : Qs} (h : idleB s g qs = true) : wN qs = 0 := by
  unfold idleB at h
  simp only [Bool.and_eq_true, decide_eq_true_eq] at h
  exact h.2.1
/-- what is settled is idle, may be, and has run all that waited -/
theorem settled {s : St} {t : Sv} (h : SvOk s t) (hr : t.ran = []) :
    SvOk s (setF s t) ∧ idleB s (setF s t).g (setF s t).qs = true ∧ (setF s t).ran.Perm (wAll t.qs) ∧ ∀ j, ((qAt t.qs j).1.map Prod.snd).Sublist (setF s t).ran := by
  obtain ⟨h1, h2, h3⟩ := setF_ind (s := s) (RanInv t.qs) (fun u hu hp _ => ran_turn hu hp) (mu t) t (Nat.le_refl _) h (by
    obtain ⟨g, qs, ran, k⟩ := t
    dsimp only at hr
    subst hr
    exact ran_first g qs k)
  obtain ⟨h4, h5⟩ := wN_zero (idle_wN h3)
  refine ⟨h2, h3, ?_, fun j => ?_⟩
  · have := h1.perm
    rw [h4, List.append_nil] at this
    exact this
  · obtain ⟨d, e1, e2⟩ := h1.sub j
    rw [h5 j] at e1
    rw [List.take_of_length_le (List.drop_eq_nil_iff.1 e1.symm)] at e2
    exact e2
/-- a row gone through beside another -/
def eatF : List Int → List Int → List Int
  | xs, [] => xs
  | [], _ => []
  | x :: xs, y :: l => if x = y then eatF xs l else eatF (x :: xs) l
end Go.Proofs.YtfipdoofgbjbjaaGreat

/- A range over a function whose iterator writes nothing old, and reads what its caller tells of: what its caller owes; a function with a label, by what each round starts with; marks among deferred calls. No condition. -/
namespace Go.Proofs.YtfipdoofgbjbjaaGreat
open Go.RowKit
/-- what the caller says abides new blocks -/
def StepsB (J : Nat → World → Prop) : Prop := ∀ k A B, J k A → Below A.heap.size A B → J k B
/-- the contract of an iterator that reads Rd k ahead of its k-th element -/
def ReadSeq (F : Fence) (m : Nat) (P : Program) (gf : Nat) (lb : Array Value) (vs : Nat → Array Value) (N : Nat) (Rd : Nat → World → Prop) : Prop :=
  ∀ (l : Nat) (J Jx : Nat → World → Prop) (W : World), StepsB J → (∀ k W1, k ≤ N → J k W1 → Rd k W1) →
    (∀ k W1, k < N → J k W1 → YieldAt F (m - 1) P l (vs k) W1 fun e W' => (e = .returned (.bool true) ∧ J (k + 1) W') ∨ (e = .returned (.bool false) ∧ Jx (k + 1) W')) →
    J 0 W → CallsIn F m P gf (#[.func (.yield l) #[] #[]] ++ lb) W fun e W' => (∃ v, e = .returned v) ∧ (J N W' ∨ ∃ k, Jx k W')
set_option maxHeartbeats 2000000 in
theorem wpIn_rangeFunc_read {F : Fence} {n : Nat} {P : Program} {g : Operand} {ps : Array Tmp} {assign body : Code} {Q : Exit → Act → World → Prop} {a : Act} {w : World} (hround : F.round = none) (h1 : 1 ≤ n)
    {gf : Nat} {lb : Array Value} (hg : a.eval g = .func (.func gf) #[] lb) (hin : F.fn gf) (eg : ∀ args w, (callFunc gf args).run P w = .ok (.enter gf args) w)
    {vs : Nat → Array Value} {N : Nat} {Rd : Nat → World → Prop} (hseq : ReadSeq F (n - 1) P gf lb vs N Rd) (hvs : ∀ k, (vs k).size = ps.size)
    (I : Nat → World → Prop) (Ix : Code → Nat → World → Prop) (hI : Books w.heap.size I) (hX : ∀ c, Books w.heap.size (Ix c)) (hID : StepsB I) (hRd : ∀ k W1, k ≤ N → I k W1 → Rd k W1) (h0 : I 0 w) (after : Nat → Act)
    (hassign : ∀ (l k : Nat) (W : World) (K : Act → World → Prop), K (after k) W → assign.wpIn (F.inRound l) (n - 1 - 1) P (Exit.then K (fun _ _ _ => False)) { tmps := (ps.zip (vs k)).foldl (fun t (q, v) => t.setIfInBounds q v) a.tmps, defers := [] } W)
    (hbody : ∀ (l k : Nat) (W : World), k < N → I k W → body.wpIn (F.inRound l) (n - 1 - 1) P (roundEnd w.heap.size I (fun _ _ => True) Ix (k + 1) W) (after k) W)
    (hdone : ∀ (b : Nat) (W : World), w.heap.size ≤ b → I N W → W.heap[b]? = some (.deferred (some [])) → Q .normal { a with defers := { target := .collected b, args := #[] } :: a.defers } W)
    (hstop : ∀ (b k : Nat) (c : Code) (W : World), w.heap.size ≤ b → Ix c k W → W.heap[b]? = some (.deferred (some [])) → c.wpIn F n P Q { a with defers := { target := .collected b, args := #[] } :: a.defers } W) :
    (Code.rangeFunc g ps assign body).wpIn F n P Q a w := by
  refine wpIn_rangeFunc fun fn hfn => ?_
  rw [hround]
  -- the record, by its state and the jump that is pending
  let mk : LoopState → Option Code → Obj := fun st pe => .loop { state := st, pending := pe, fn, tmps := a.tmps, params := ps, assign, body, defers := w.heap.size }
  have hmk : ∀ st pe, (mk st pe).isCells = false := fun _ _ => rfl
  generalize hW1 : (w.alloc (.deferred (some []))).alloc (mk .ready none) = W1
  have rec1 : W1.heap[w.heap.size + 1]? = some (mk .ready none) := by
    have := World.alloc_heap_new (w.alloc (.deferred (some []))) (mk .ready none)
    rw [World.size_alloc] at this
    rw [← hW1]; exact this
  have def1 : W1.heap[w.heap.size]? = some (.deferred (some [])) := by
    rw [← hW1]; exact (Below.heap_alloc _ _ _ (by simp)).trans (World.alloc_heap_new w _)
  have keepD : ∀ {A B : World} {k : Nat} {o : Obj}, Below A.heap.size A B → A.heap[k]? = some o → B.heap[k]? = some o := fun hg hk =>
    (hg.block _ (Array.getElem?_eq_some_iff.1 hk).1).trans hk
  refine ⟨w.heap.size + 1, [{ target := .collected w.heap.size, args := #[] }], W1, { target := .fn (.func gf) lb, args := #[.func (.yield (w.heap.size + 1)) #[] #[]] }, W1, gf, #[.func (.yield (w.heap.size + 1)) #[] #[]] ++ lb, W1,
    by rw [← hW1]; exact run_enterLoop_outer _ _ _ _ _, by simp only [resolve, hg]; simp [go_sem], fun f' hf' => by simp [Target.leads] at hf'; subst hf'; exact hin, by simp [invoke, go_sem, eg _ _], fun _ => h1, ?_⟩
  refine (hseq (w.heap.size + 1) (fun k W => I k W ∧ W.heap[w.heap.size + 1]? = some (mk .ready none) ∧ W.heap[w.heap.size]? = some (.deferred (some [])))
    (fun k W => ∃ c, Ix c k W ∧ W.heap[w.heap.size + 1]? = some (mk .done (some c)) ∧ W.heap[w.heap.size]? = some (.deferred (some []))) W1 ?_ ?_ ?_
    ⟨by rw [← hW1]; exact hI.alloc _ (hI.alloc _ h0), rec1, def1⟩).mono ?_
  · exact fun k A B hs hgr => ⟨hID k A B hs.1 hgr, keepD hgr hs.2.1, keepD hgr hs.2.2⟩
  · exact fun k W1 hk hs => hRd k W1 hk hs.1
  · -- a round
    rintro k W hk ⟨hi, hl, hd⟩
    refine ⟨fn, _, assign, body, run_yield (P := P) (args := vs k) hl (by rw [hvs k]), roundIn_of_wpIn hfn (hassign _ k W _ ?_)⟩
    refine ⟨_, run_beginRound hl rfl, ?_⟩
    have hlt : w.heap.size + 1 < W.heap.size := (Array.getElem?_eq_some_iff.1 hl).1
    have hl2 : (W.putObj (w.heap.size + 1) (mk .busy none)).heap[w.heap.size + 1]? = some (mk .busy none) := World.putObj_heap_same hlt
    have hd2 : (W.putObj (w.heap.size + 1) (mk .busy none)).heap[w.heap.size]? = some (.deferred (some [])) := (World.putObj_heap_other (by omega)).trans hd
    refine wpIn_mono (hbody _ k _ hk (hI.put _ hi (by omega) hl rfl)) ?_
    have over : ∀ (jump : Option Code) (W3 : World), KeepsFrom w.heap.size (W.putObj (w.heap.size + 1) (mk .busy none)) W3 →
        W3.heap[w.heap.size + 1]? = some (mk .busy none) ∧ (Instr.endRound (w.heap.size + 1) jump).run P W3 = .ok (.bool jump.isNone) (W3.putObj (w.heap.size + 1) (mk (if jump.isNone then .ready else .done) jump)) ∧
        (W3.putObj (w.heap.size + 1) (mk (if jump.isNone then .ready else .done) jump)).heap[w.heap.size + 1]? = some (mk (if jump.isNone then .ready else .done) jump) ∧
        (W3.putObj (w.heap.size + 1) (mk (if jump.isNone then .ready else .done) jump)).heap[w.heap.size]? = some (.deferred (some [])) := fun jump W3 hk3 => by
      have hl3 := hk3.same _ _ (by omega) hl2 rfl
      exact ⟨hl3, run_endRound jump hl3, World.putObj_heap_same (Array.getElem?_eq_some_iff.1 hl3).1, (World.putObj_heap_other (by omega)).trans (hk3.same _ _ (Nat.le_refl _) hd2 rfl)⟩
    intro e a3 W3 hp
    cases e with
    | normal =>
      obtain ⟨hk3, hi3, _⟩ := hp
      obtain ⟨hl3, hr, hl4, hd4⟩ := over none W3 hk3
      exact ⟨_, _, hr, .inl ⟨rfl, hI.put _ hi3 (by omega) hl3 rfl, hl4, hd4⟩⟩
    | ret =>
      obtain ⟨hl3, hr, hl4, hd4⟩ := over (some .ret) W3 hp.1
      exact ⟨_, _, hr, .inr ⟨rfl, _, (hX _).put _ hp.2 (by omega) hl3 rfl, hl4, hd4⟩⟩
    | exit id =>
      obtain ⟨hl3, hr, hl4, hd4⟩ := over (some (.exit id)) W3 hp.1
      exact ⟨_, _, hr, .inr ⟨rfl, _, (hX _).put _ hp.2 (by omega) hl3 rfl, hl4, hd4⟩⟩
    | goto t =>
      obtain ⟨hl3, hr, hl4, hd4⟩ := over (some (.goto t)) W3 hp.1
      exact ⟨_, _, hr, .inr ⟨rfl, _, (hX _).put _ hp.2 (by omega) hl3 rfl, hl4, hd4⟩⟩
    | panic _ => exact hp.elim
    | outgrown => exact hp.elim
  · -- behind the iterator
    rintro e W2 ⟨⟨v, rfl⟩, ⟨hi, hl, hd⟩ | ⟨k, c, hx, hl, hd⟩⟩
    · exact ⟨none, _, run_endLoop hl (by simp), hdone _ _ (Nat.le_refl _) (hI.put _ hi (by omega) hl rfl) ((World.putObj_heap_other (by omega)).trans hd)⟩
    · exact ⟨some c, _, run_endLoop hl (by simp), hstop _ k c _ (Nat.le_refl _) ((hX c).put _ hx (by omega) hl rfl) ((World.putObj_heap_other (by omega)).trans hd)⟩
/-- the least of those -/
theorem least_of (p : Nat → Prop) : (∃ n, p n) → ∃ n, p n ∧ ∀ m, p m → n ≤ m := by
  rintro ⟨n, hn⟩
  induction n using Nat.strongRecOn with
  | ind n ih =>
    by_cases h : ∃ m, m < n ∧ p m
    · obtain ⟨m, hm, hpm⟩ := h
      exact ih m hm hpm
    · exact ⟨n, hn, fun m hm => Nat.le_of_not_lt fun hlt => h ⟨m, hlt, hm⟩⟩
open Classical in
noncomputable def leastN (p : Nat → Prop) : Nat := if h : ∃ n, p n then Classical.choose (least_of p h) else 0
theorem leastN_spec {p : Nat → Prop} (h : ∃ n, p n) : p (leastN p) ∧ ∀ m, p m → leastN p ≤ m := by
  unfold leastN
  rw [dif_pos h]
  exact Classical.choose_spec (least_of p h)
/-- a function with a label to which it jumps back: what each round starts with is said by t, which comes nearer its end -/
theorem wp_scope_label_t {P : Program} {a : Act} {w : World} {Q : Exit → Act → World → Prop} {T : Type} {c X : Code} (l : Nat) (J : T → Act → World → Prop) (mu : T → Nat) (hf : findLabel c l = some (Code.skip.seq X))
    (first : Hid (∀ t a w, J t a w → X.wp P (Exit.jump l (fun a w => ∃ t, J t a w) Q) a w) → c.wp P (Exit.jump l (fun a w => ∃ t, J t a w) Q) a w)
    (pass : ∀ t a w, J t a w → X.wp P (Exit.jump l (fun a' w' => ∃ t', J t' a' w' ∧ mu t' < mu t) Q) a w) : (Code.scope c).wp P Q a w := by
  refine wp_scope_label l (fun a w => ∃ t, J t a w) (fun a w => leastN fun n => ∃ t, J t a w ∧ mu t = n) hf (fun h => first (hid fun t a w hj => h.out a w ⟨t, hj⟩)) ?_
  rintro a w ⟨t0, ht0⟩
  obtain ⟨⟨t, ht, e⟩, _⟩ := leastN_spec (p := fun n => ∃ t, J t a w ∧ mu t = n) ⟨_, t0, ht0, rfl⟩
  refine wp_mono (pass t a w ht) (fun x a' w' hq => ?_)
  cases x with
  | goto l' =>
    refine ⟨hq.1, ?_⟩
    obtain ⟨t', ht', hlt⟩ := hq.2
    refine ⟨⟨t', ht'⟩, ?_⟩
    have h2 := (leastN_spec (p := fun n => ∃ t, J t a' w' ∧ mu t = n) ⟨_, t', ht', rfl⟩).2 _ ⟨t', ht', rfl⟩
    have e' : mu t = leastN (fun n => ∃ t, J t a w ∧ mu t = n) := e
    omega
  | _ => exact hq
/-- marks of blocks of rounds' deferred calls, none of which was made -/
def Marks (lo : Nat) (W : World) (bs : List Nat) : Prop := bs.Nodup ∧ ∀ b ∈ bs, lo ≤ b ∧ b < W.heap.size ∧ W.heap[b]? = some (.deferred (some []))
def markD (b : Nat) : Deferred := { target := .collected b, args := #[] }
theorem Marks.nil (lo : Nat) (W : World) : Marks lo W [] := ⟨List.nodup_nil, fun _ h => (by cases h)⟩
theorem Marks.keep {lo : Nat} {W W' : World} {bs : List Nat} (h : Marks lo W bs) (hk : ∀ (b : Nat) (o : Obj), W.heap[b]? = some o → o.isCells = false → W'.heap[b]? = some o) : Marks lo W' bs :=
  ⟨h.1, fun b hb => by
    obtain ⟨h1, h2, h3⟩ := h.2 b hb
    have h4 := hk b _ h3 rfl
    exact ⟨h1, (Array.getElem?_eq_some_iff.1 h4).1, h4⟩⟩
theorem Marks.cons {lo b : Nat} {W : World} {bs : List Nat} (h : Marks lo W bs) (hn : b ∉ bs) (hl : lo ≤ b) (hb : W.heap[b]? = some (.deferred (some []))) : Marks lo W (b :: bs) :=
  ⟨List.nodup_cons.2 ⟨hn, h.1⟩, fun c hc => by
    rcases List.mem_cons.1 hc with rfl | hc
    · exact ⟨hl, (Array.getElem?_eq_some_iff.1 hb).1, hb⟩
    · exact h.2 c hc⟩
/-- a function leaves with marks: they are taken one by one -/
theorem leaves_marks {F : Fence} {n : Nat} {P : Program} {fn : Func} {tmps : Array Value} {R : Ending → World → Prop} {lo : Nat} (K : World → Prop)
    (hK : ∀ (A B : World) (b : Nat) (o : Obj), K A → A.grownBy B (some b) → lo ≤ b → A.heap[b]? = some o → o.isCells = false → K B) (hR : ∀ W, K W → LeavesIn F n P fn tmps R [] .returning W) :
    ∀ (bs : List Nat) (W : World), Marks lo W bs → K W → LeavesInM F n P fn tmps R (bs.map markD) .returning W
  | [], W, _, h => hR W h
  | b :: bs, W, hm, h => by
    obtain ⟨h1, h2, h3⟩ := hm.2 b List.mem_cons_self
    have hg := grownBy_putObj' W b (.deferred none)
    refine ⟨by simp, .inl ⟨b, _, rfl, run_takeDeferred h3, ?_⟩⟩
    refine leaves_marks K hK hR bs _ ⟨(List.nodup_cons.1 hm.1).2, fun c hc => ?_⟩ (hK _ _ b _ h hg h1 h3 rfl)
    obtain ⟨k1, k2, k3⟩ := hm.2 c (List.mem_cons_of_mem _ hc)
    have hne : c ≠ b := fun e => (List.nodup_cons.1 hm.1).1 (e ▸ hc)
    exact ⟨k1, Nat.lt_of_lt_of_le k2 hg.size, (hg.block c k2 (fun e => hne (Option.some.inj e))).trans k3⟩
end Go.Proofs.YtfipdoofgbjbjaaGreat

/- package rcu: what Settle's closure goes through: a pick, and a callback that is run. No condition but sizes. -/
namespace Go.Proofs.YtfipdoofgbjbjaaGreat
open Go.RowKit
theorem Blk.notOther {w : World} {b : Nat} {t : TypeId} {cs : Array Value} (h : Blk w b t cs) {o : Obj} (ho : w.heap[b]? = some o) : o.isCells = true := by
  unfold Blk at h
  rw [h] at ho
  cases ho
  rfl
theorem cell_isCells {w : World} {b i : Nat} {v : Value} (h : w.cell? ⟨b, i, none⟩ = some v) {o : Obj} (ho : w.heap[b]? = some o) : o.isCells = true := by
  unfold World.cell? at h
  cases o <;> simp [ho, Obj.isCells] at h ⊢
section
variable {w w' : World} {l gc : Nat} {s : St} {g : Gr} {es : List Qe} {is what : Int} {ran : List Int} {a : Ra} {R : Option Addr} {nr kr : Nat}
/-- a block that is no cells is turned -/
theorem CA.abides (h : CA w l gc s g es is what ran a R nr kr) {row : Option Nat} (hg : w.grownBy w' row) (hr : ∀ r, row = some r → ∃ o : Obj, w.heap[r]? = some o ∧ o.isCells = false) : CA w' l gc s g es is what ran a R nr kr := by
  have ne : ∀ b t cs, Blk w b t cs → some b ≠ row := fun b t cs hb e => by
    obtain ⟨o, ho, hc⟩ := hr b e.symm
    rw [hb.notOther ho] at hc; cases hc
  refine ⟨h.box.abides hg hr, ⟨h.ro.oa.abides hg hr, h.ro.ob.abides hg hr, h.ro.apart, h.ro.hn, h.ro.hm⟩, h.gd.abides hg hr, h.qs.keptG hg (fun b hb => ?_), h.rn.abides hg hr, fun x hx => ?_, h.lg⟩
  · obtain ⟨_, cs, hk⟩ := h.qs.blk b hb
    exact ne _ _ _ hk
  · obtain ⟨k1, k2⟩ := h.qe x hx
    refine ⟨k1.keptP (p := fun i => some i = row) ⟨hg.os, hg.tape, hg.output, hg.size, fun i hi hp => hg.block i hi hp⟩ (fun hn b hb e => ?_), k2⟩
    obtain ⟨b', off, e2, _, _, hc⟩ := k1.sm.row hn
    rw [hb] at e2
    cases e2
    obtain ⟨o, ho, hoc⟩ := hr _ e.symm
    rw [cell_isCells (hc 0 hn 0 (by omega)) ho] at hoc
    cases hoc
/-- what is no cells is left as it is -/
theorem CA.others (h : CA w l gc s g es is what ran a R nr kr) (hg : GrownP (CS gc a.Q R) w w') : KeepsOthers w w' :=
  ⟨hg.size, fun k o hk hc => by
    refine (hg.block k (Array.getElem?_eq_some_iff.1 hk).1 ?_).trans hk
    rintro (rfl | ⟨b, hb, rfl⟩ | ⟨b, hb, rfl⟩)
    · rw [h.box.notOther hk] at hc; cases hc
    · obtain ⟨_, cs, q⟩ := h.qs.blk b hb
      rw [q.notOther hk] at hc; cases hc
    · obtain ⟨_, cs, q⟩ := h.rn.blk b hb
      rw [q.notOther hk] at hc; cases hc⟩
theorem CA.boxes (h : CA w l gc s g es is what ran a R nr kr) (hg : GrownP (CS gc a.Q R) w w') : ∀ b cs, Blk w b 72 cs → Blk w' b 72 cs := fun b cs hb => by
  refine (hg.block b hb.lt ?_).trans hb
  rintro (rfl | ⟨c, hc, rfl⟩ | ⟨c, hc, rfl⟩)
  · exact h.box.neT hb (by decide) rfl
  · obtain ⟨_, ds, q⟩ := h.qs.blk c hc
    exact q.neT hb (by decide) rfl
  · obtain ⟨_, ds, q⟩ := h.rn.blk c hc
    exact q.neT hb (by decide) rfl
end
/-- what a cpu holds, in settling -/
def SA (w : World) (l gc : Nat) (s : St) (t : Sv) : Prop := ∃ a es what R kr, ql es = t.qs ∧ CA w l gc s t.g es t.k what t.ran a R t.ran.length kr
theorem SA.step {w w' : World} {l gc : Nat} {s : St} {t : Sv} (h : SA w l gc s t) (hb : Below w.heap.size w w') : SA w' l gc s t := by
  obtain ⟨a, es, what, R, kr, h1, h2⟩ := h
  exact ⟨a, es, what, R, kr, h1, h2.step hb⟩
theorem SA.abides {w w' : World} {l gc : Nat} {s : St} {t : Sv} (h : SA w l gc s t) {row : Option Nat} (hg : w.grownBy w' row) (hr : ∀ r, row = some r → ∃ o : Obj, w.heap[r]? = some o ∧ o.isCells = false) : SA w' l gc s t := by
  obtain ⟨a, es, what, R, kr, h1, h2⟩ := h
  exact ⟨a, es, what, R, kr, h1, h2.abides hg hr⟩
def SPost (w : World) (l gc : Nat) (s : St) (t : Sv) (x : Ending) (w' : World) : Prop := x = .returned (.tuple #[]) ∧ SA w' l gc s t ∧ GrownP (fun i => l ≤ i) w w' ∧ KeepsOthers w w' ∧ ∀ b cs, Blk w b 72 cs → Blk w' b 72 cs
theorem s_pick {w : World} {l gc : Nat} {s : St} {t : Sv} (h : SA w l gc s t) (ho : SvOk s t) : Calls Tryz.prog 49 #[ptr gc] w (SPost w l gc s ⟨gPick t.g t.k true, pkQ t, t.ran, t.k⟩) := by
  obtain ⟨a, es, what, R, kr, h1, h2⟩ := h
  obtain ⟨hg, hqt, hk⟩ := ho
  have hlen : a.nq = es.length := h2.qs.len.symm
  have h8 := hg.1.2.1.2.1
  have hql := hg.2.1
  have hql2 : es.length = t.qs.length := by rw [← h1, ql_len]
  refine (rpick_any l gc s t.g es t.k what t.ran a R _ kr w h2 (by omega) (by omega) (by omega) hg.1.2.1 true ?_ (fun x hx => by
    have := hg.2.2 _ (h1 ▸ ql_mem hx)
    exact ⟨this.1, this.2.1⟩)).mono ?_
  · refine decide_eq_true ⟨hg.1.1, by omega, by rw [hg.1.2.2]; omega, ?_⟩
    rw [Int.toNat_natCast]
    exact of_decide_eq_true (quiet_at hqt t.k)
  · rintro y w' ⟨rfl, ⟨a', k1, k2, k3, es', k6, k4⟩, k5⟩
    exact ⟨rfl, ⟨a', es', what, R, kr, by rw [k6, h1]; rfl, k4⟩, k5.mono h2.ge, h2.others k5, h2.boxes k5⟩
theorem drQ_at (qs : Qs) (k j : Nat) (hk : k < qs.length) : qAt (drQ qs k j) k = ((qAt qs k).1.drop j, (qAt qs k).2) := by
  unfold drQ
  show ((qs.set k _)[k]?.getD ([], 0)) = _
  rw [List.getElem?_set_self hk]; rfl
theorem drQ_drQ (qs : Qs) (k i j : Nat) (hk : k < qs.length) : drQ (drQ qs k i) k j = drQ qs k (i + j) := by
  show (drQ qs k i).set k ((qAt (drQ qs k i) k).1.drop j, (qAt (drQ qs k i) k).2) = _
  rw [drQ_at qs k i hk]
  unfold drQ
  rw [List.set_set, List.drop_drop]
theorem drR_drQ (qs : Qs) (k i j : Nat) (hk : k < qs.length) : drR qs k i ++ drR (drQ qs k i) k j = drR qs k (i + j) := by
  unfold drR
  rw [drQ_at qs k i hk, ← List.map_append, List.take_add]
theorem doneN_drop {o : Int} : ∀ (xs : List Cb) (j : Nat), j ≤ doneN o xs → doneN o (xs.drop j) = doneN o xs - j
  | xs, 0, _ => by rw [List.drop_zero, Nat.sub_zero]
  | [], j + 1, h => absurd h (by simp [doneN])
  | x :: xs, j + 1, h => by
    unfold doneN at h ⊢
    rw [List.takeWhile_cons] at h ⊢
    by_cases e : decide (x.1 ≤ o) = true
    · rw [if_pos e, List.length_cons] at h ⊢
      rw [List.drop_succ_cons]
      have := doneN_drop (o := o) xs j (by unfold doneN; omega)
      unfold doneN at this
      rw [this]; omega
    · rw [if_neg e] at h
      exact absurd h (by simp)
theorem drN_drQ (qs : Qs) (k j : Nat) (hk : k < qs.length) (hj : j ≤ drN qs k) : drN (drQ qs k j) k = drN qs k - j := by
  unfold drN
  rw [drQ_at qs k j hk]
  exact doneN_drop _ _ hj
theorem s_run {w : World} {l gc : Nat} {s : St} {t : Sv} (h : SA w l gc s t) (hg : RcGood s t.g t.qs) (hk : t.k < t.qs.length) (hd : 0 < drN t.qs t.k) (hran : t.ran.length ≤ 100000) :
    Calls Tryz.prog 51 #[ptr gc] w (SPost w l gc s ⟨t.g, drQ t.qs t.k 1, t.ran ++ drR t.qs t.k 1, t.k⟩) := by
  obtain ⟨a, es, what, R, kr, h1, h2⟩ := h
  have hlen : a.nq = es.length := h2.qs.len.symm
  have h8 := hg.1.2.1.2.1
  have hql := hg.2.1
  have hql2 : es.length = t.qs.length := by rw [← h1, ql_len]
  have hke : t.k < es.length := by omega
  have hat : qAt t.qs t.k = ((es[t.k]?.getD zQe).l, (es[t.k]?.getD zQe).o) := by unfold qAt; rw [← h1, ql_at es hke]
  obtain ⟨q1, q2, q3⟩ := hg.2.2 _ (qAt_mem hk)
  unfold drN at hd
  rw [hat] at q1 q2 q3 hd
  dsimp only at q1 q2 q3 hd
  have ht : takeF (es[t.k]?.getD zQe).o (es[t.k]?.getD zQe).l = ((es[t.k]?.getD zQe).o, (es[t.k]?.getD zQe).l.drop 1, ((es[t.k]?.getD zQe).l[0]?.getD (0, 0)).2, 0) := by
    unfold takeF
    rw [if_neg (not_not_intro q1), if_neg (by omega)]
  refine (rrun_yes l gc s t.g es t.k what t.ran a R _ kr w h2 (by omega) (by omega) _ rfl _ _ _ ht (by have := hg.1.2.1.small; omega) (by rw [List.length_drop]; have := q1.2.1; omega) (by omega)).mono ?_
  rintro y w' ⟨rfl, ⟨R', kr', A, n, c, k4⟩, k5⟩
  have hne : (es[t.k]?.getD zQe).l ≠ [] := fun e => by rw [e] at hd; exact absurd hd (by simp [doneN])
  have hdr : drR t.qs t.k 1 = [((es[t.k]?.getD zQe).l[0]?.getD (0, 0)).2] := by
    unfold drR
    rw [hat]
    dsimp only
    cases e : (es[t.k]?.getD zQe).l with
    | nil => exact absurd e hne
    | cons x xs => rfl
  have hdq : drQ t.qs t.k 1 = (ql es).set t.k ((es[t.k]?.getD zQe).l.drop 1, (es[t.k]?.getD zQe).o) := by
    unfold drQ
    rw [hat, h1]
  refine ⟨rfl, ⟨a, es.set t.k ⟨(es[t.k]?.getD zQe).l.drop 1, (es[t.k]?.getD zQe).o, A, n, c⟩, what, R', kr', (ql_set _ _ _).trans hdq.symm, ?_⟩, k5.mono h2.ge, h2.others k5, h2.boxes k5⟩
  rw [hdr]
  have hn : (t.ran ++ [((es[t.k]?.getD zQe).l[0]?.getD (0, 0)).2]).length = t.ran.length + 1 := by simp
  show CA w' l gc s t.g _ t.k what (t.ran ++ [_]) a R' (t.ran ++ [_]).length kr'
  rw [hn]
  exact k4
end Go.Proofs.YtfipdoofgbjbjaaGreat

/- afterglowref14: turn. No condition but sizes. -/
namespace Go.Proofs.YtfipdoofgbjbjaaGreat
open Go.RowKit
attribute [local go_sem] Oper.semAt_some
def lenOf : Value → Nat
  | .slice _ n _ => n
  | _ => 0
/-- those blocks, and that of a row -/
def pOut (p : Nat → Prop) (B : Option Addr) : Nat → Prop := fun i => p i ∨ ∃ b, B = some b ∧ b.block = i
theorem RcP.appended {p : Nat → Prop} {w w' : World} {s : St} {g : Gr} {es : List Qe} {a : Ra} {B A' : Option Addr} {n c n' c' : Nat} (h : RcP (pOut p B) w s g es a) (hg : w.grownBy w' (Value.slice B n c).ownBlock)
    (hat : (Value.slice A' n' c').ownBlock = (Value.slice B n c).ownBlock ∨ (Value.slice A' n' c').ownBlock = some w.heap.size) : RcP (pOut p A') w' s g es a := fun w2 k =>
  h.fresh w2 (((GrownP.refl _ _).thenG hg (fun r e => .inr (.inl (.inr (own_addr e))))).trans (k.mono (fun i hi => by
    rcases hi with hi | ⟨b, hb, rfl⟩
    · exact .inl (.inl hi)
    · have e1 : (Value.slice A' n' c').ownBlock = some b.block := by rw [hb]; rfl
      rcases hat with e2 | e2
      · rw [e1] at e2
        exact .inl (.inr (own_addr e2.symm))
      · rw [e1] at e2
        exact .inr (by have := Option.some.inj e2; omega))))
/-- what turn hands back -/
def TuP (p : Nat → Prop) (w : World) (s : St) (g : Gr) (qs : Qs) (ran : List Int) (x : Ending) (w' : World) : Prop :=
  ∃ a es B m d, x = .returned (.tuple #[rcv s g a, .slice B m d]) ∧ ql es = qs ∧ a.nq = es.length ∧ RcP p w' s g es a ∧ Ow u64v w' w.heap.size 35 B m d ran ∧ Below w.heap.size w w'
theorem drQ_zero (qs : Qs) {k : Nat} (hk : k < qs.length) : drQ qs k 0 = qs := by
  unfold drQ qAt
  rw [List.drop_zero, List.getElem?_eq_getElem hk]
  exact List.set_getElem_self hk
theorem drR_len (qs : Qs) (k j : Nat) (h : j ≤ drN qs k) : (drR qs k j).length = j := by
  unfold drR drN at *
  rw [List.length_map, List.length_take]
  have := doneN_le (qAt qs k).2 (qAt qs k).1
  omega
set_option maxRecDepth 100000 in
set_option maxHeartbeats 8000000 in
theorem rturn14_any (p : Nat → Prop) (s : St) (g : Gr) (es : List Qe) (a : Ra) (cp : Nat) (g2 : Gr) (q1 : Qs) (w : World) (h : RcP p w s g es a) (hp : ∀ i, p i → i < w.heap.size) (hcp : cp < g.nd.length) (hcn : cp < s.2.1.length) (hnq : a.nq = es.length) (hdn : 0 ≤ g.dn ∧ g.dn ≤ 2147483645) (hak : g.ak ≤ 2147483645)
    (hg2 : g2 = gPick g cp (decide (s.2.1[cp]?.getD 0 = 0))) (hq1 : q1 = (ql es).map fun x => (x.1, g2.dn)) (hgd : RcGood s g2 q1) (hce : cp < es.length) :
    Calls Tryz.prog 53 #[rcv s g a, .int .i64 cp] w (TuP p w s g2 (drQ q1 cp (drN q1 cp)) (drR q1 cp (drN q1 cp))) := by
  have HB := hid (Below.refl w.heap.size w); have HR := hid h.fresh; have HP := hid hp
  have HCQ := hid (show cp < q1.length by rw [hq1, List.length_map, ql_len]; exact hce)
  have HGD := hid hgd
  obtain ⟨N, hN⟩ : ∃ N, N = drN q1 cp := ⟨_, rfl⟩
  have HN := hid hN
  have HN16 := hid (show N ≤ 1000 by
    rw [hN]
    obtain ⟨k1, _⟩ := hgd.2.2 _ (qAt_mem HCQ.out)
    have h1 := k1.2.1
    have h2 := doneN_le (qAt q1 cp).2 (qAt q1 cp).1
    unfold drN
    omega)
  have HPK := hid (show ∀ (p3 : Nat → Prop) (W : World), RcP p3 W s g es a → (∀ i, p3 i → i < W.heap.size) → Calls Tryz.prog 37 #[rcv s g a, .int .i64 cp] W (R14 p3 W s g2 q1) from fun p3 W k1 k2 => by rw [hq1, hg2]; exact rpick14_any p3 s g es a cp W k1 k2 hcp hcn hnq hdn hak)
  obtain ⟨i0, hi0, hz00, hz01, hz02⟩ := info_parts info_u64
  rw [← hN]
  clear h hp hcp hcn hnq hdn hak hg2 hq1 hgd hN hce
  have bx := below_box w (.cells (rcells s g a) 30)
  replace HR := hid (HR.out.step bx); replace HB := hid (below_then HB.out bx)
  clear bx
  have P := hid (Blk.new w 30 (rcells s g a))
  have bx := below_box (w.alloc (.cells (rcells s g a) 30)) (.cells #[.int .i64 0, .slice none 0 0, .slice none 0 0, .int .i64 0, .int .i64 0, .bool false, .slice none 0 0, .slice none 0 0] 30)
  replace HR := hid (HR.out.step bx); replace P := hid (P.out.step bx); replace HB := hid (below_then HB.out bx)
  clear bx
  have PZ := hid (Blk.new2 w 30 #[.int .i64 0, .slice none 0 0, .slice none 0 0, .int .i64 0, .int .i64 0, .bool false, .slice none 0 0, .slice none 0 0] (.cells (rcells s g a) 30))
  go_enter Tryz.func53, Tryz.ntmps53
  obtain ⟨y00, y01, y02, y03, y04, y05, y06, y07, yf0⟩ := P.out.cells8
  obtain ⟨y10, y11, y12, y13, y14, y15, y16, y17, yf1⟩ := PZ.out.cells8
  go_upto_region 2 with fail
  clear y00 y01 y02 y03 y04 y05 y06 y07 yf0 y10 y11 y12 y13 y14 y15 y16 y17 yf1
  have hz0 := hid (show ((w.alloc (.cells (rcells s g a) 30)).alloc (.cells #[.int .i64 0, .slice none 0 0, .slice none 0 0, .int .i64 0, .int .i64 0, .bool false, .slice none 0 0, .slice none 0 0] 30)).heap.size = w.heap.size + 2 by simp)
  generalize (w.alloc (.cells (rcells s g a) 30)).alloc (.cells #[.int .i64 0, .slice none 0 0, .slice none 0 0, .int .i64 0, .int .i64 0, .bool false, .slice none 0 0, .slice none 0 0] 30) = W0 at *
  obtain ⟨y00, y01, y02, y03, y04, y05, y06, y07, yf0⟩ := P.out.cells8
  go_wp2_with fail
  clear y00 y01 y02 y03 y04 y05 y06 y07 yf0
  obtain ⟨pp, hpp⟩ : ∃ pp : Nat → Prop, pp = fun i => p i ∨ (w.heap.size ≤ i ∧ i < w.heap.size + 2) := ⟨_, rfl⟩
  have HP2 := hid (show pp w.heap.size ∧ pp (w.heap.size + 1) by rw [hpp]; exact ⟨.inr (by omega), .inr (by omega)⟩)
  have HLT := hid (show ∀ i, pp i → i < w.heap.size + 2 by rw [hpp]; exact fun i hi => hi.elim (fun h => by have := HP.out i h; omega) (fun h => h.2))
  have HPI := hid (show ∀ i, p i → pp i by rw [hpp]; exact fun i hi => .inl hi)
  replace HR := hid (HR.out.mono (q := pp) (fun i hi => by rw [hpp] at hi; exact hi.elim .inl (fun h => .inr h.1)))
  clear hpp
  refine (HPK.out pp W0 HR.out (fun i hi => by have := HLT.out i hi; have := hz0.out; omega)).mono ?_
  rintro e W1 ⟨a1, es1, rfl, hqs, hnq, hR, hb⟩
  have HR1 := hid hR; have HQS := hid hqs; have HN1 := hid hnq
  have HS1 := hid (show w.heap.size + 2 ≤ W1.heap.size by have := hb.size; have := hz0.out; omega)
  clear hR hqs hnq HR hz0
  replace P := hid (P.out.step hb); replace PZ := hid (PZ.out.step hb); replace HB := hid (below_then HB.out hb)
  clear hb HPK
  obtain ⟨y00, y01, y02, y03, y04, y05, y06, y07, yf0⟩ := P.out.cells8
  go_wp2_with fail
  clear y00 y01 y02 y03 y04 y05 y06 y07 yf0
  have hbk0 : Blk (W1.setCell ⟨w.heap.size, 0, none⟩ (.int .i64 s.1)) (w.heap.size) 30 #[.int .i64 s.1, .slice a.A a.n a.k, .slice a.B a.m a.d, .int .i64 g.dn, .int .i64 g.ak, .bool g.on, .slice a.D g.nd.length a.kd, .slice a.Q a.nq a.kq] := P.out.setCell 0 (.int .i64 s.1)
  have hbk1 : Blk ((W1.setCell ⟨w.heap.size, 0, none⟩ (.int .i64 s.1)).setCell ⟨w.heap.size, 1, none⟩ (.slice a1.A a1.n a1.k)) (w.heap.size) 30 #[.int .i64 s.1, .slice a1.A a1.n a1.k, .slice a.B a.m a.d, .int .i64 g.dn, .int .i64 g.ak, .bool g.on, .slice a.D g.nd.length a.kd, .slice a.Q a.nq a.kq] := hbk0.setCell 1 (.slice a1.A a1.n a1.k)
  have hbk2 : Blk (((W1.setCell ⟨w.heap.size, 0, none⟩ (.int .i64 s.1)).setCell ⟨w.heap.size, 1, none⟩ (.slice a1.A a1.n a1.k)).setCell ⟨w.heap.size, 2, none⟩ (.slice a1.B a1.m a1.d)) (w.heap.size) 30 #[.int .i64 s.1, .slice a1.A a1.n a1.k, .slice a1.B a1.m a1.d, .int .i64 g.dn, .int .i64 g.ak, .bool g.on, .slice a.D g.nd.length a.kd, .slice a.Q a.nq a.kq] := hbk1.setCell 2 (.slice a1.B a1.m a1.d)
  have hbk3 : Blk ((((W1.setCell ⟨w.heap.size, 0, none⟩ (.int .i64 s.1)).setCell ⟨w.heap.size, 1, none⟩ (.slice a1.A a1.n a1.k)).setCell ⟨w.heap.size, 2, none⟩ (.slice a1.B a1.m a1.d)).setCell ⟨w.heap.size, 3, none⟩ (.int .i64 g2.dn)) (w.heap.size) 30 #[.int .i64 s.1, .slice a1.A a1.n a1.k, .slice a1.B a1.m a1.d, .int .i64 g2.dn, .int .i64 g.ak, .bool g.on, .slice a.D g.nd.length a.kd, .slice a.Q a.nq a.kq] := hbk2.setCell 3 (.int .i64 g2.dn)
  have hbk4 : Blk (((((W1.setCell ⟨w.heap.size, 0, none⟩ (.int .i64 s.1)).setCell ⟨w.heap.size, 1, none⟩ (.slice a1.A a1.n a1.k)).setCell ⟨w.heap.size, 2, none⟩ (.slice a1.B a1.m a1.d)).setCell ⟨w.heap.size, 3, none⟩ (.int .i64 g2.dn)).setCell ⟨w.heap.size, 4, none⟩ (.int .i64 g2.ak)) (w.heap.size) 30 #[.int .i64 s.1, .slice a1.A a1.n a1.k, .slice a1.B a1.m a1.d, .int .i64 g2.dn, .int .i64 g2.ak, .bool g.on, .slice a.D g.nd.length a.kd, .slice a.Q a.nq a.kq] := hbk3.setCell 4 (.int .i64 g2.ak)
  have hbk5 : Blk ((((((W1.setCell ⟨w.heap.size, 0, none⟩ (.int .i64 s.1)).setCell ⟨w.heap.size, 1, none⟩ (.slice a1.A a1.n a1.k)).setCell ⟨w.heap.size, 2, none⟩ (.slice a1.B a1.m a1.d)).setCell ⟨w.heap.size, 3, none⟩ (.int .i64 g2.dn)).setCell ⟨w.heap.size, 4, none⟩ (.int .i64 g2.ak)).setCell ⟨w.heap.size, 5, none⟩ (.bool g2.on)) (w.heap.size) 30 #[.int .i64 s.1, .slice a1.A a1.n a1.k, .slice a1.B a1.m a1.d, .int .i64 g2.dn, .int .i64 g2.ak, .bool g2.on, .slice a.D g.nd.length a.kd, .slice a.Q a.nq a.kq] := hbk4.setCell 5 (.bool g2.on)
  have hbk6 : Blk (((((((W1.setCell ⟨w.heap.size, 0, none⟩ (.int .i64 s.1)).setCell ⟨w.heap.size, 1, none⟩ (.slice a1.A a1.n a1.k)).setCell ⟨w.heap.size, 2, none⟩ (.slice a1.B a1.m a1.d)).setCell ⟨w.heap.size, 3, none⟩ (.int .i64 g2.dn)).setCell ⟨w.heap.size, 4, none⟩ (.int .i64 g2.ak)).setCell ⟨w.heap.size, 5, none⟩ (.bool g2.on)).setCell ⟨w.heap.size, 6, none⟩ (.slice a1.D g2.nd.length a1.kd)) (w.heap.size) 30 #[.int .i64 s.1, .slice a1.A a1.n a1.k, .slice a1.B a1.m a1.d, .int .i64 g2.dn, .int .i64 g2.ak, .bool g2.on, .slice a1.D g2.nd.length a1.kd, .slice a.Q a.nq a.kq] := hbk5.setCell 6 (.slice a1.D g2.nd.length a1.kd)
  have hbk7 : Blk ((((((((W1.setCell ⟨w.heap.size, 0, none⟩ (.int .i64 s.1)).setCell ⟨w.heap.size, 1, none⟩ (.slice a1.A a1.n a1.k)).setCell ⟨w.heap.size, 2, none⟩ (.slice a1.B a1.m a1.d)).setCell ⟨w.heap.size, 3, none⟩ (.int .i64 g2.dn)).setCell ⟨w.heap.size, 4, none⟩ (.int .i64 g2.ak)).setCell ⟨w.heap.size, 5, none⟩ (.bool g2.on)).setCell ⟨w.heap.size, 6, none⟩ (.slice a1.D g2.nd.length a1.kd)).setCell ⟨w.heap.size, 7, none⟩ (.slice a1.Q a1.nq a1.kq)) (w.heap.size) 30 #[.int .i64 s.1, .slice a1.A a1.n a1.k, .slice a1.B a1.m a1.d, .int .i64 g2.dn, .int .i64 g2.ak, .bool g2.on, .slice a1.D g2.nd.length a1.kd, .slice a1.Q a1.nq a1.kq] := hbk6.setCell 7 (.slice a1.Q a1.nq a1.kq)
  have hgr : W1.grownBy ((((((((W1.setCell ⟨w.heap.size, 0, none⟩ (.int .i64 s.1)).setCell ⟨w.heap.size, 1, none⟩ (.slice a1.A a1.n a1.k)).setCell ⟨w.heap.size, 2, none⟩ (.slice a1.B a1.m a1.d)).setCell ⟨w.heap.size, 3, none⟩ (.int .i64 g2.dn)).setCell ⟨w.heap.size, 4, none⟩ (.int .i64 g2.ak)).setCell ⟨w.heap.size, 5, none⟩ (.bool g2.on)).setCell ⟨w.heap.size, 6, none⟩ (.slice a1.D g2.nd.length a1.kd)).setCell ⟨w.heap.size, 7, none⟩ (.slice a1.Q a1.nq a1.kq)) (some (w.heap.size)) := (grown_set (grown_set (grown_set (grown_set (grown_set (grown_set (grown_set (grown_set (World.grownBy.refl W1 (some (w.heap.size))) 0 (.int .i64 s.1)) 1 (.slice a1.A a1.n a1.k)) 2 (.slice a1.B a1.m a1.d)) 3 (.int .i64 g2.dn)) 4 (.int .i64 g2.ak)) 5 (.bool g2.on)) 6 (.slice a1.D g2.nd.length a1.kd)) 7 (.slice a1.Q a1.nq a1.kq))
  replace P := hid hbk7
  clear hbk0 hbk1 hbk2 hbk3 hbk4 hbk5 hbk6 hbk7
  generalize (((((((W1.setCell ⟨w.heap.size, 0, none⟩ (.int .i64 s.1)).setCell ⟨w.heap.size, 1, none⟩ (.slice a1.A a1.n a1.k)).setCell ⟨w.heap.size, 2, none⟩ (.slice a1.B a1.m a1.d)).setCell ⟨w.heap.size, 3, none⟩ (.int .i64 g2.dn)).setCell ⟨w.heap.size, 4, none⟩ (.int .i64 g2.ak)).setCell ⟨w.heap.size, 5, none⟩ (.bool g2.on)).setCell ⟨w.heap.size, 6, none⟩ (.slice a1.D g2.nd.length a1.kd)).setCell ⟨w.heap.size, 7, none⟩ (.slice a1.Q a1.nq a1.kq) = W2 at *
  replace PZ := hid (PZ.out.grown hgr (by simp)); replace HR1 := hid (HR1.out.turn hgr HP2.out.1)
  replace HB := hid (HB.out.grown hgr HB.out.size (fun r e => by cases e; exact Nat.le_refl _))
  have HS2 := hid (show w.heap.size + 2 ≤ W2.heap.size by have := hgr.size; have := HS1.out; omega)
  clear hgr HS1
  go_loopw [6] (fun o wr => ∃ (j : Nat) (a' : Ra) (es' : List Qe) (B : Option Addr) (d : Nat), o = .slice B j d ∧ j ≤ N ∧ ql es' = drQ q1 cp j ∧ a'.nq = es'.length ∧ Blk wr w.heap.size 30 (rcells s g2 a') ∧ Blk wr (w.heap.size + 1) 30 #[.int .i64 0, .slice none 0 0, .slice none 0 0, .int .i64 0, .int .i64 0, .bool false, .slice none 0 0, .slice none 0 0] ∧ RcP (pOut pp B) wr s g2 es' a' ∧ Ow u64v wr (w.heap.size + 2) 35 B j d (drR q1 cp j) ∧ Below w.heap.size w wr ∧ w.heap.size + 2 ≤ wr.heap.size) (fun o _ => N - lenOf o)
  case atStart => exact ⟨0, a1, es1, none, 0, rfl, Nat.zero_le _, by rw [drQ_zero _ HCQ.out]; exact HQS.out, HN1.out, P.out, PZ.out, HR1.out.mono (fun i hi => hi.elim id (fun ⟨b, hb, _⟩ => by cases hb)), Ow.nil _ _ _, HB.out, HS2.out⟩
  case round =>
    obtain ⟨j, a', es', B, d, rfl, hj, hqs, hnq, hP, hZ, hR, hO, hB, hsz⟩ := hrel
    have HQJ := hid hqs; have HNJ := hid hnq; have HPP := hid hP; have HZZ := hid hZ; have HRR := hid hR; have HO := hid hO; have HBB := hid hB; have HSZ := hid hsz; have HJ := hid hj
    clear hqs hnq hP hZ hR hO hB hsz P PZ HR1 HB HS2 HQS HN1 hj
    have HLR := hid (show ∀ i, pOut pp B i → i < wr.heap.size from fun i hi => by
      rcases hi with hi | ⟨b, hb, rfl⟩
      · have := HLT.out i hi; have := HSZ.out; omega
      · obtain ⟨_, cs, hk⟩ := HO.out.blk b hb; exact Blk.lt hk)
    have HGQ := hid (show QGood (qAt (ql es') cp).2 (qAt (ql es') cp).1 by rw [HQJ.out, drQ_at _ _ _ HCQ.out]; obtain ⟨k1, _⟩ := HGD.out.2.2 _ (qAt_mem HCQ.out); exact qg_drop k1 j)
    have HCE := hid (show cp < es'.length by rw [← ql_len, HQJ.out, drQ_len]; exact HCQ.out)
    have HDN := hid (show drN (ql es') cp = N - j by rw [HQJ.out, drN_drQ _ _ _ HCQ.out (by rw [← HN.out]; exact HJ.out), ← HN.out])
    obtain ⟨y00, y01, y02, y03, y04, y05, y06, y07, yf0⟩ := HPP.out.cells8
    go_wp2_with fail
    clear y00 y01 y02 y03 y04 y05 y06 y07 yf0
    refine (rstep14_run (pOut pp B) s g2 es' a' cp 0 wr HRR.out HLR.out HCE.out HNJ.out HGQ.out).mono ?_
    by_cases hjn : j < N
    ·skip
     rintro e w3 hrun
     unfold RunP at hrun
     rw [if_pos (by rw [HDN.out]; omega)] at hrun
     obtain ⟨a2, es2, rfl, hqs, hnq, hR, hb⟩ := hrun
     have HR2 := hid hR; have HN2 := hid hnq
     have HQ2 := hid (show ql es2 = drQ q1 cp (j + 1) by rw [hqs, HQJ.out, drQ_drQ _ _ _ _ HCQ.out])
     obtain ⟨v, hv⟩ : ∃ v, v = (drR (ql es') cp 1)[0]?.getD 0 := ⟨_, rfl⟩
     rw [← hv]
     have HV := hid (show drR q1 cp j ++ [v] = drR q1 cp (j + 1) by
       rw [← drR_drQ _ _ _ _ HCQ.out, hv, HQJ.out]
       have h1 : (drR (drQ q1 cp j) cp 1).length = 1 := drR_len _ _ _ (by rw [← HQJ.out, HDN.out]; omega)
       match hh : drR (drQ q1 cp j) cp 1, h1 with
       | [x], _ => rfl)
     clear hR hqs hnq hv HRR HQJ HNJ HGQ
     have HW3 := hid hb.size
     replace HPP := hid (HPP.out.step hb); replace HZZ := hid (HZZ.out.step hb); replace HO := hid (HO.out.step hb); replace HBB := hid (below_then HBB.out hb)
     clear hb
     have bx := below_box w3 (.cells (rcells s g2 a2) 30)
     replace HPP := hid (HPP.out.step bx); replace HZZ := hid (HZZ.out.step bx); replace HO := hid (HO.out.step bx); replace HR2 := hid (HR2.out.step bx); replace HBB := hid (below_then HBB.out bx)
     clear bx
     have PN := hid (Blk.new w3 30 (rcells s g2 a2))
     go_upto_region 6 with fail
     generalize w3.alloc (.cells (rcells s g2 a2) 30) = W4 at *
     have bx := (Below.refl W4.heap.size W4).drew
     replace HPP := hid (HPP.out.step bx); replace HZZ := hid (HZZ.out.step bx); replace HO := hid (HO.out.step bx); replace HR2 := hid (HR2.out.step bx); replace PN := hid (PN.out.step bx); replace HBB := hid (below_then HBB.out bx)
     clear bx
     have hszd := hid (show W4.drew.heap.size = W4.heap.size from rfl)
     refine wp_region_noPanic ?_
     refine wp_region_held_tail 5 (fun W' : World => W'.cell? ⟨w3.heap.size, 0, none⟩ = some (.int .i64 s.1) ∧ W'.cell? ⟨w3.heap.size, 1, none⟩ = some (.slice a2.A a2.n a2.k) ∧ W'.cell? ⟨w3.heap.size, 2, none⟩ = some (.slice a2.B a2.m a2.d) ∧ W'.cell? ⟨w3.heap.size, 3, none⟩ = some (.int .i64 g2.dn) ∧ W'.cell? ⟨w3.heap.size, 4, none⟩ = some (.int .i64 g2.ak) ∧ W'.cell? ⟨w3.heap.size, 5, none⟩ = some (.bool g2.on) ∧ W'.cell? ⟨w3.heap.size, 6, none⟩ = some (.slice a2.D g2.nd.length a2.kd) ∧ W'.cell? ⟨w3.heap.size, 7, none⟩ = some (.slice a2.Q a2.nq a2.kq)) #[false, false, false, false, false, false, false] (by kernel_rfl) ⟨PN.out.cells8.1, PN.out.cells8.2.1, PN.out.cells8.2.2.1, PN.out.cells8.2.2.2.1, PN.out.cells8.2.2.2.2.1, PN.out.cells8.2.2.2.2.2.1, PN.out.cells8.2.2.2.2.2.2.1, PN.out.cells8.2.2.2.2.2.2.2.1⟩ (by kernel_rfl) (by kernel_rfl) (fun hS => ?_)
     generalize W4.drew = Wd at *
     refine tkT 0 hS ?_
     refine tkT 1 hS ?_
     refine tkT 2 hS ?_
     refine rdyT [3] (csyT (fun K hK => ?_) AllReadyT.nil)
     go_simp
     refine named_alloc ?_
     intro Wa3 hbk hb hsz
     have hsz0 := hid hsz
     obtain ⟨gv, hgv⟩ : ∃ z, z = Wd.heap.size := ⟨_, rfl⟩
     rw [← hgv] at hbk ⊢
     clear hgv
     replace HPP := hid (HPP.out.step hb); replace HZZ := hid (HZZ.out.step hb); replace HO := hid (HO.out.step hb); replace HR2 := hid (HR2.out.step hb); replace PN := hid (PN.out.step hb); replace HBB := hid (below_then HBB.out hb)
     have PV := hid hbk
     clear hb hbk hsz
     clear hS
     refine kyT hK ⟨PN.out.cells8.1, PN.out.cells8.2.1, PN.out.cells8.2.2.1, PN.out.cells8.2.2.2.1, PN.out.cells8.2.2.2.2.1, PN.out.cells8.2.2.2.2.2.1, PN.out.cells8.2.2.2.2.2.2.1, PN.out.cells8.2.2.2.2.2.2.2.1⟩ fun hS => ?_
     clear hK K
     refine rdyT [4] (csyT (fun K hK => ?_) AllReadyT.nil)
     refine step_app u64v 0 _ rfl _ _ 40 rfl (w.heap.size + 2) 35 i0 _ 8 Tryz.underlying40 hi0 hz00 hz01 hz02 rfl B j d _ rfl HO.out 0 _ (some ⟨gv, 0, none⟩) 1 1 [v] rfl ((PV.out.ow (enc := u64v) (xs := [v]) (lo := 0) rfl rfl (Nat.zero_le _) (by simp [maxLen])).sl (d := 0)) (fun _ => rfl) (by have := HN16.out; have := HJ.out; simp only [maxLen]; omega) (by have := HN16.out; have := HJ.out; omega) (by have := PN.out.lt; have := HW3.out; have := HSZ.out; omega) ?_
     intro B2 d2 Wc4 hown hgr hat
     replace HPP := hid (HPP.out.keptO HO.out (by decide) hgr); replace HZZ := hid (HZZ.out.keptO HO.out (by decide) hgr); replace PN := hid (PN.out.keptO HO.out (by decide) hgr)
     replace HR2 := hid (HR2.out.appended hgr hat)
     replace HBB := hid (HBB.out.grown hgr HBB.out.size (fun r e => by obtain ⟨b, hb, hbb⟩ := own_addr e; have := (HO.out.blk b hb).1; omega))
     have HO2 := hid hown
     rw [HV.out] at HO2
     clear hown hgr hat PV HO
     clear hS
     refine kyT hK ⟨PN.out.cells8.1, PN.out.cells8.2.1, PN.out.cells8.2.2.1, PN.out.cells8.2.2.2.1, PN.out.cells8.2.2.2.2.1, PN.out.cells8.2.2.2.2.2.1, PN.out.cells8.2.2.2.2.2.2.1, PN.out.cells8.2.2.2.2.2.2.2.1⟩ fun hS => ?_
     clear hK K
     refine wpAnyT_done (by kernel_rfl) ?_
     simp only [List.drop_succ_cons, List.drop_zero]
     clear hS
     obtain ⟨y00, y01, y02, y03, y04, y05, y06, y07, yf0⟩ := HPP.out.cells8
     obtain ⟨y10, y11, y12, y13, y14, y15, y16, y17, yf1⟩ := PN.out.cells8
     go_wp2_with fail
     refine NoPanic.normal ?_
     clear y00 y01 y02 y03 y04 y05 y06 y07 yf0 y10 y11 y12 y13 y14 y15 y16 y17 yf1
     have hbk0 : Blk (Wc4.setCell ⟨w.heap.size, 0, none⟩ (.int .i64 s.1)) (w.heap.size) 30 #[.int .i64 s.1, .slice a'.A a'.n a'.k, .slice a'.B a'.m a'.d, .int .i64 g2.dn, .int .i64 g2.ak, .bool g2.on, .slice a'.D g2.nd.length a'.kd, .slice a'.Q a'.nq a'.kq] := HPP.out.setCell 0 (.int .i64 s.1)
     have hbk1 : Blk ((Wc4.setCell ⟨w.heap.size, 0, none⟩ (.int .i64 s.1)).setCell ⟨w.heap.size, 1, none⟩ (.slice a2.A a2.n a2.k)) (w.heap.size) 30 #[.int .i64 s.1, .slice a2.A a2.n a2.k, .slice a'.B a'.m a'.d, .int .i64 g2.dn, .int .i64 g2.ak, .bool g2.on, .slice a'.D g2.nd.length a'.kd, .slice a'.Q a'.nq a'.kq] := hbk0.setCell 1 (.slice a2.A a2.n a2.k)
     have hbk2 : Blk (((Wc4.setCell ⟨w.heap.size, 0, none⟩ (.int .i64 s.1)).setCell ⟨w.heap.size, 1, none⟩ (.slice a2.A a2.n a2.k)).setCell ⟨w.heap.size, 2, none⟩ (.slice a2.B a2.m a2.d)) (w.heap.size) 30 #[.int .i64 s.1, .slice a2.A a2.n a2.k, .slice a2.B a2.m a2.d, .int .i64 g2.dn, .int .i64 g2.ak, .bool g2.on, .slice a'.D g2.nd.length a'.kd, .slice a'.Q a'.nq a'.kq] := hbk1.setCell 2 (.slice a2.B a2.m a2.d)
     have hbk3 : Blk ((((Wc4.setCell ⟨w.heap.size, 0, none⟩ (.int .i64 s.1)).setCell ⟨w.heap.size, 1, none⟩ (.slice a2.A a2.n a2.k)).setCell ⟨w.heap.size, 2, none⟩ (.slice a2.B a2.m a2.d)).setCell ⟨w.heap.size, 3, none⟩ (.int .i64 g2.dn)) (w.heap.size) 30 #[.int .i64 s.1, .slice a2.A a2.n a2.k, .slice a2.B a2.m a2.d, .int .i64 g2.dn, .int .i64 g2.ak, .bool g2.on, .slice a'.D g2.nd.length a'.kd, .slice a'.Q a'.nq a'.kq] := hbk2.setCell 3 (.int .i64 g2.dn)
     have hbk4 : Blk (((((Wc4.setCell ⟨w.heap.size, 0, none⟩ (.int .i64 s.1)).setCell ⟨w.heap.size, 1, none⟩ (.slice a2.A a2.n a2.k)).setCell ⟨w.heap.size, 2, none⟩ (.slice a2.B a2.m a2.d)).setCell ⟨w.heap.size, 3, none⟩ (.int .i64 g2.dn)).setCell ⟨w.heap.size, 4, none⟩ (.int .i64 g2.ak)) (w.heap.size) 30 #[.int .i64 s.1, .slice a2.A a2.n a2.k, .slice a2.B a2.m a2.d, .int .i64 g2.dn, .int .i64 g2.ak, .bool g2.on, .slice a'.D g2.nd.length a'.kd, .slice a'.Q a'.nq a'.kq] := hbk3.setCell 4 (.int .i64 g2.ak)
     have hbk5 : Blk ((((((Wc4.setCell ⟨w.heap.size, 0, none⟩ (.int .i64 s.1)).setCell ⟨w.heap.size, 1, none⟩ (.slice a2.A a2.n a2.k)).setCell ⟨w.heap.size, 2, none⟩ (.slice a2.B a2.m a2.d)).setCell ⟨w.heap.size, 3, none⟩ (.int .i64 g2.dn)).setCell ⟨w.heap.size, 4, none⟩ (.int .i64 g2.ak)).setCell ⟨w.heap.size, 5, none⟩ (.bool g2.on)) (w.heap.size) 30 #[.int .i64 s.1, .slice a2.A a2.n a2.k, .slice a2.B a2.m a2.d, .int .i64 g2.dn, .int .i64 g2.ak, .bool g2.on, .slice a'.D g2.nd.length a'.kd, .slice a'.Q a'.nq a'.kq] := hbk4.setCell 5 (.bool g2.on)
     have hbk6 : Blk (((((((Wc4.setCell ⟨w.heap.size, 0, none⟩ (.int .i64 s.1)).setCell ⟨w.heap.size, 1, none⟩ (.slice a2.A a2.n a2.k)).setCell ⟨w.heap.size, 2, none⟩ (.slice a2.B a2.m a2.d)).setCell ⟨w.heap.size, 3, none⟩ (.int .i64 g2.dn)).setCell ⟨w.heap.size, 4, none⟩ (.int .i64 g2.ak)).setCell ⟨w.heap.size, 5, none⟩ (.bool g2.on)).setCell ⟨w.heap.size, 6, none⟩ (.slice a2.D g2.nd.length a2.kd)) (w.heap.size) 30 #[.int .i64 s.1, .slice a2.A a2.n a2.k, .slice a2.B a2.m a2.d, .int .i64 g2.dn, .int .i64 g2.ak, .bool g2.on, .slice a2.D g2.nd.length a2.kd, .slice a'.Q a'.nq a'.kq] := hbk5.setCell 6 (.slice a2.D g2.nd.length a2.kd)
     have hbk7 : Blk ((((((((Wc4.setCell ⟨w.heap.size, 0, none⟩ (.int .i64 s.1)).setCell ⟨w.heap.size, 1, none⟩ (.slice a2.A a2.n a2.k)).setCell ⟨w.heap.size, 2, none⟩ (.slice a2.B a2.m a2.d)).setCell ⟨w.heap.size, 3, none⟩ (.int .i64 g2.dn)).setCell ⟨w.heap.size, 4, none⟩ (.int .i64 g2.ak)).setCell ⟨w.heap.size, 5, none⟩ (.bool g2.on)).setCell ⟨w.heap.size, 6, none⟩ (.slice a2.D g2.nd.length a2.kd)).setCell ⟨w.heap.size, 7, none⟩ (.slice a2.Q a2.nq a2.kq)) (w.heap.size) 30 #[.int .i64 s.1, .slice a2.A a2.n a2.k, .slice a2.B a2.m a2.d, .int .i64 g2.dn, .int .i64 g2.ak, .bool g2.on, .slice a2.D g2.nd.length a2.kd, .slice a2.Q a2.nq a2.kq] := hbk6.setCell 7 (.slice a2.Q a2.nq a2.kq)
     have hgr : Wc4.grownBy ((((((((Wc4.setCell ⟨w.heap.size, 0, none⟩ (.int .i64 s.1)).setCell ⟨w.heap.size, 1, none⟩ (.slice a2.A a2.n a2.k)).setCell ⟨w.heap.size, 2, none⟩ (.slice a2.B a2.m a2.d)).setCell ⟨w.heap.size, 3, none⟩ (.int .i64 g2.dn)).setCell ⟨w.heap.size, 4, none⟩ (.int .i64 g2.ak)).setCell ⟨w.heap.size, 5, none⟩ (.bool g2.on)).setCell ⟨w.heap.size, 6, none⟩ (.slice a2.D g2.nd.length a2.kd)).setCell ⟨w.heap.size, 7, none⟩ (.slice a2.Q a2.nq a2.kq)) (some (w.heap.size)) := (grown_set (grown_set (grown_set (grown_set (grown_set (grown_set (grown_set (grown_set (World.grownBy.refl Wc4 (some (w.heap.size))) 0 (.int .i64 s.1)) 1 (.slice a2.A a2.n a2.k)) 2 (.slice a2.B a2.m a2.d)) 3 (.int .i64 g2.dn)) 4 (.int .i64 g2.ak)) 5 (.bool g2.on)) 6 (.slice a2.D g2.nd.length a2.kd)) 7 (.slice a2.Q a2.nq a2.kq))
     replace HPP := hid hbk7
     clear hbk0 hbk1 hbk2 hbk3 hbk4 hbk5 hbk6 hbk7
     generalize (((((((Wc4.setCell ⟨w.heap.size, 0, none⟩ (.int .i64 s.1)).setCell ⟨w.heap.size, 1, none⟩ (.slice a2.A a2.n a2.k)).setCell ⟨w.heap.size, 2, none⟩ (.slice a2.B a2.m a2.d)).setCell ⟨w.heap.size, 3, none⟩ (.int .i64 g2.dn)).setCell ⟨w.heap.size, 4, none⟩ (.int .i64 g2.ak)).setCell ⟨w.heap.size, 5, none⟩ (.bool g2.on)).setCell ⟨w.heap.size, 6, none⟩ (.slice a2.D g2.nd.length a2.kd)).setCell ⟨w.heap.size, 7, none⟩ (.slice a2.Q a2.nq a2.kq) = W6 at *
     replace HZZ := hid (HZZ.out.grown hgr (by simp)); replace HR2 := hid (HR2.out.turn hgr (.inl HP2.out.1))
     replace HO2 := hid (HO2.out.keptG hgr (fun a ha e => by have h1 := (HO2.out.blk a ha).1; have := Option.some.inj e; omega))
     replace HBB := hid (HBB.out.grown hgr HBB.out.size (fun r e => by cases e; exact Nat.le_refl _))
     have HS6 := hid (show w.heap.size + 2 ≤ W6.heap.size from HZZ.out.lt)
     clear hgr
     go_wp2_with fail
     refine ⟨⟨j + 1, a2, es2, B2, d2, rfl, by omega, HQ2.out, HN2.out, HPP.out, HZZ.out, HR2.out, HO2.out, HBB.out, HS6.out⟩, ?_⟩
     show N - (j + 1) < N - j
     omega
    ·skip
     obtain rfl : j = N := by have := HJ.out; omega
     rintro e w3 hrun
     unfold RunP at hrun
     rw [if_neg (by rw [HDN.out]; omega)] at hrun
     obtain ⟨a2, es2, rfl, hqs, hnq, hR, hb⟩ := hrun
     replace HPP := hid (HPP.out.step hb); replace HZZ := hid (HZZ.out.step hb); replace HO := hid (HO.out.step hb); replace HRR := hid (HRR.out.step hb); replace HBB := hid (below_then HBB.out hb)
     clear hb hqs hnq hR
     have bx := below_box w3 (.cells (rcells zSt zGr a2) 30)
     replace HPP := hid (HPP.out.step bx); replace HZZ := hid (HZZ.out.step bx); replace HO := hid (HO.out.step bx); replace HRR := hid (HRR.out.step bx); replace HBB := hid (below_then HBB.out bx)
     clear bx
     have PN := hid (Blk.new w3 30 (rcells zSt zGr a2))
     obtain ⟨y00, y01, y02, y03, y04, y05, y06, y07, yf0⟩ := HPP.out.cells8
     obtain ⟨y10, y11, y12, y13, y14, y15, y16, y17, yf1⟩ := HZZ.out.cells8
     go_wp2_with fail
     clear y00 y01 y02 y03 y04 y05 y06 y07 yf0 y10 y11 y12 y13 y14 y15 y16 y17 yf1
     generalize w3.alloc (.cells (rcells zSt zGr a2) 30) = W4 at *
     have hbk0 : Blk (W4.setCell ⟨w.heap.size + 1, 0, none⟩ (.int .i64 s.1)) (w.heap.size + 1) 30 #[.int .i64 s.1, .slice none 0 0, .slice none 0 0, .int .i64 0, .int .i64 0, .bool false, .slice none 0 0, .slice none 0 0] := HZZ.out.setCell 0 (.int .i64 s.1)
     have hbk1 : Blk ((W4.setCell ⟨w.heap.size + 1, 0, none⟩ (.int .i64 s.1)).setCell ⟨w.heap.size + 1, 1, none⟩ (.slice a'.A a'.n a'.k)) (w.heap.size + 1) 30 #[.int .i64 s.1, .slice a'.A a'.n a'.k, .slice none 0 0, .int .i64 0, .int .i64 0, .bool false, .slice none 0 0, .slice none 0 0] := hbk0.setCell 1 (.slice a'.A a'.n a'.k)
     have hbk2 : Blk (((W4.setCell ⟨w.heap.size + 1, 0, none⟩ (.int .i64 s.1)).setCell ⟨w.heap.size + 1, 1, none⟩ (.slice a'.A a'.n a'.k)).setCell ⟨w.heap.size + 1, 2, none⟩ (.slice a'.B a'.m a'.d)) (w.heap.size + 1) 30 #[.int .i64 s.1, .slice a'.A a'.n a'.k, .slice a'.B a'.m a'.d, .int .i64 0, .int .i64 0, .bool false, .slice none 0 0, .slice none 0 0] := hbk1.setCell 2 (.slice a'.B a'.m a'.d)
     have hbk3 : Blk ((((W4.setCell ⟨w.heap.size + 1, 0, none⟩ (.int .i64 s.1)).setCell ⟨w.heap.size + 1, 1, none⟩ (.slice a'.A a'.n a'.k)).setCell ⟨w.heap.size + 1, 2, none⟩ (.slice a'.B a'.m a'.d)).setCell ⟨w.heap.size + 1, 3, none⟩ (.int .i64 g2.dn)) (w.heap.size + 1) 30 #[.int .i64 s.1, .slice a'.A a'.n a'.k, .slice a'.B a'.m a'.d, .int .i64 g2.dn, .int .i64 0, .bool false, .slice none 0 0, .slice none 0 0] := hbk2.setCell 3 (.int .i64 g2.dn)
     have hbk4 : Blk (((((W4.setCell ⟨w.heap.size + 1, 0, none⟩ (.int .i64 s.1)).setCell ⟨w.heap.size + 1, 1, none⟩ (.slice a'.A a'.n a'.k)).setCell ⟨w.heap.size + 1, 2, none⟩ (.slice a'.B a'.m a'.d)).setCell ⟨w.heap.size + 1, 3, none⟩ (.int .i64 g2.dn)).setCell ⟨w.heap.size + 1, 4, none⟩ (.int .i64 g2.ak)) (w.heap.size + 1) 30 #[.int .i64 s.1, .slice a'.A a'.n a'.k, .slice a'.B a'.m a'.d, .int .i64 g2.dn, .int .i64 g2.ak, .bool false, .slice none 0 0, .slice none 0 0] := hbk3.setCell 4 (.int .i64 g2.ak)
     have hbk5 : Blk ((((((W4.setCell ⟨w.heap.size + 1, 0, none⟩ (.int .i64 s.1)).setCell ⟨w.heap.size + 1, 1, none⟩ (.slice a'.A a'.n a'.k)).setCell ⟨w.heap.size + 1, 2, none⟩ (.slice a'.B a'.m a'.d)).setCell ⟨w.heap.size + 1, 3, none⟩ (.int .i64 g2.dn)).setCell ⟨w.heap.size + 1, 4, none⟩ (.int .i64 g2.ak)).setCell ⟨w.heap.size + 1, 5, none⟩ (.bool g2.on)) (w.heap.size + 1) 30 #[.int .i64 s.1, .slice a'.A a'.n a'.k, .slice a'.B a'.m a'.d, .int .i64 g2.dn, .int .i64 g2.ak, .bool g2.on, .slice none 0 0, .slice none 0 0] := hbk4.setCell 5 (.bool g2.on)
     have hbk6 : Blk (((((((W4.setCell ⟨w.heap.size + 1, 0, none⟩ (.int .i64 s.1)).setCell ⟨w.heap.size + 1, 1, none⟩ (.slice a'.A a'.n a'.k)).setCell ⟨w.heap.size + 1, 2, none⟩ (.slice a'.B a'.m a'.d)).setCell ⟨w.heap.size + 1, 3, none⟩ (.int .i64 g2.dn)).setCell ⟨w.heap.size + 1, 4, none⟩ (.int .i64 g2.ak)).setCell ⟨w.heap.size + 1, 5, none⟩ (.bool g2.on)).setCell ⟨w.heap.size + 1, 6, none⟩ (.slice a'.D g2.nd.length a'.kd)) (w.heap.size + 1) 30 #[.int .i64 s.1, .slice a'.A a'.n a'.k, .slice a'.B a'.m a'.d, .int .i64 g2.dn, .int .i64 g2.ak, .bool g2.on, .slice a'.D g2.nd.length a'.kd, .slice none 0 0] := hbk5.setCell 6 (.slice a'.D g2.nd.length a'.kd)
     have hbk7 : Blk ((((((((W4.setCell ⟨w.heap.size + 1, 0, none⟩ (.int .i64 s.1)).setCell ⟨w.heap.size + 1, 1, none⟩ (.slice a'.A a'.n a'.k)).setCell ⟨w.heap.size + 1, 2, none⟩ (.slice a'.B a'.m a'.d)).setCell ⟨w.heap.size + 1, 3, none⟩ (.int .i64 g2.dn)).setCell ⟨w.heap.size + 1, 4, none⟩ (.int .i64 g2.ak)).setCell ⟨w.heap.size + 1, 5, none⟩ (.bool g2.on)).setCell ⟨w.heap.size + 1, 6, none⟩ (.slice a'.D g2.nd.length a'.kd)).setCell ⟨w.heap.size + 1, 7, none⟩ (.slice a'.Q a'.nq a'.kq)) (w.heap.size + 1) 30 #[.int .i64 s.1, .slice a'.A a'.n a'.k, .slice a'.B a'.m a'.d, .int .i64 g2.dn, .int .i64 g2.ak, .bool g2.on, .slice a'.D g2.nd.length a'.kd, .slice a'.Q a'.nq a'.kq] := hbk6.setCell 7 (.slice a'.Q a'.nq a'.kq)
     have hgr : W4.grownBy ((((((((W4.setCell ⟨w.heap.size + 1, 0, none⟩ (.int .i64 s.1)).setCell ⟨w.heap.size + 1, 1, none⟩ (.slice a'.A a'.n a'.k)).setCell ⟨w.heap.size + 1, 2, none⟩ (.slice a'.B a'.m a'.d)).setCell ⟨w.heap.size + 1, 3, none⟩ (.int .i64 g2.dn)).setCell ⟨w.heap.size + 1, 4, none⟩ (.int .i64 g2.ak)).setCell ⟨w.heap.size + 1, 5, none⟩ (.bool g2.on)).setCell ⟨w.heap.size + 1, 6, none⟩ (.slice a'.D g2.nd.length a'.kd)).setCell ⟨w.heap.size + 1, 7, none⟩ (.slice a'.Q a'.nq a'.kq)) (some (w.heap.size + 1)) := (grown_set (grown_set (grown_set (grown_set (grown_set (grown_set (grown_set (grown_set (World.grownBy.refl W4 (some (w.heap.size + 1))) 0 (.int .i64 s.1)) 1 (.slice a'.A a'.n a'.k)) 2 (.slice a'.B a'.m a'.d)) 3 (.int .i64 g2.dn)) 4 (.int .i64 g2.ak)) 5 (.bool g2.on)) 6 (.slice a'.D g2.nd.length a'.kd)) 7 (.slice a'.Q a'.nq a'.kq))
     replace HZZ := hid hbk7
     clear hbk0 hbk1 hbk2 hbk3 hbk4 hbk5 hbk6 hbk7
     generalize (((((((W4.setCell ⟨w.heap.size + 1, 0, none⟩ (.int .i64 s.1)).setCell ⟨w.heap.size + 1, 1, none⟩ (.slice a'.A a'.n a'.k)).setCell ⟨w.heap.size + 1, 2, none⟩ (.slice a'.B a'.m a'.d)).setCell ⟨w.heap.size + 1, 3, none⟩ (.int .i64 g2.dn)).setCell ⟨w.heap.size + 1, 4, none⟩ (.int .i64 g2.ak)).setCell ⟨w.heap.size + 1, 5, none⟩ (.bool g2.on)).setCell ⟨w.heap.size + 1, 6, none⟩ (.slice a'.D g2.nd.length a'.kd)).setCell ⟨w.heap.size + 1, 7, none⟩ (.slice a'.Q a'.nq a'.kq) = W5 at *
     replace HRR := hid (HRR.out.turn hgr (.inl HP2.out.2))
     replace HO := hid (HO.out.keptG hgr (fun a ha e => by have h1 := (HO.out.blk a ha).1; have := Option.some.inj e; omega))
     replace HBB := hid (HBB.out.grown hgr HBB.out.size (fun r e => by cases e; omega))
     clear hgr
     obtain ⟨q0, q1', q2, q3, q4, q5, q6, q7, qf⟩ := HZZ.out.cells8
     refine bodyPost_ret (v := .tuple #[rcv s g2 a', .slice B j d]) (by simp [results, Tryz.results53, go_sem, q0, q1', q2, q3, q4, q5, q6, q7]) rfl ⟨a', es', B, j, d, rfl, HQJ.out, HNJ.out, HRR.out.mono (fun i hi => .inl (HPI.out i hi)), HO.out.mono (by omega), HBB.out⟩
end Go.Proofs.YtfipdoofgbjbjaaGreat
