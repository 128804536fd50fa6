/- Walks and plain laws for this claim, part 8. No condition but sizes. -/
import Derived.Test.YtfipdoofgbjbjaaGreatM4
import Derived.BigQuiet
import Derived.Laws.StructEq
import Derived.ChangeKeysEq
import Derived.Test.YtfipdoofgbjbjaaGreatM7
import Derived.Test.YtfipdoofgbjbjaaGreatM6
/- afterglowref13: Right, Same. No condition but sizes. -/
namespace Go.Proofs.YtfipdoofgbjbjaaGreat
open Go.RowKit
theorem qup_last {l : List Cb} (h : QUp l) : ∀ k, k < l.length → perAt l k ≤ perAt l (l.length - 1) := by
  have : ∀ d k, k + d < l.length → perAt l k ≤ perAt l (k + d) := by
    intro d
    induction d with
    | zero => intro k _; exact Int.le_refl _
    | succ d ih =>
      intro k hk
      have h1 := ih k (by omega)
      have h2 := h (k + (d + 1)) hk (by omega)
      rw [show k + (d + 1) - 1 = k + d by omega] at h2
      omega
  intro k hk
  have := this (l.length - 1 - k) k (by omega)
  rwa [show k + (l.length - 1 - k) = l.length - 1 by omega] at this
theorem qsoon_last {l : List Cb} {o : Int} (h : QUp l) : QSoon o l ↔ (l.length = 0 ∨ perAt l (l.length - 1) ≤ o + 2) := by
  constructor
  · intro hs
    rcases Nat.eq_zero_or_pos l.length with h0 | h0
    · exact .inl h0
    · exact .inr (hs _ (by omega))
  · rintro (h0 | h0) k hk
    · omega
    · have := qup_last h k hk
      omega
set_option maxHeartbeats 2000000 in
theorem qright_any (A : Option Addr) (n c : Nat) (o : Int) (xs : List Cb) (w : World) (h : Sm 2 encC (0, 0) w 0 w.heap.size A n xs) (hn : n ≤ 1000000) (hnc : n ≤ c) (h0 : 0 ≤ o) :
    Calls Tryz.prog 32 #[qv A n c o] w fun e w' => e = .returned (.bool (decide (QGood o xs))) ∧ Below w.heap.size w w' := by
  have HR := hid h; have HB := hid (Below.refl w.heap.size w)
  have hl := hid h.len
  clear h
  have bx := below_box w (.cells (qcs A n c o) 58)
  replace HR := hid (HR.out.step bx); replace HB := hid (below_then HB.out bx)
  clear bx
  have PQ := hid (Blk.new w 58 (qcs A n c o))
  obtain ⟨y00, y01, yf0⟩ := PQ.out.cells2
  go_enter Tryz.func32, Tryz.ntmps32
  go_wp2_with fail
  clear y00 y01 yf0
  generalize w.alloc (.cells (qcs A n c o) 58) = W0 at *
  have HB0 := hid (Below.refl W0.heap.size W0)
  go_loopw [8] (fun i wr => ∃ j : Nat, j ≤ n ∧ i = .int .i64 j ∧ Below W0.heap.size W0 wr ∧ ∀ k, k < j → 1 ≤ k → perAt xs (k - 1) ≤ perAt xs k) (fun i _ => n - (intOf i).toNat)
  case atStart => exact ⟨0, Nat.zero_le _, rfl, HB0.out, fun k hk => absurd hk (Nat.not_lt_zero _)⟩
  case round =>
    obtain ⟨j, hj, rfl, hbr, hall⟩ := hrel
    have HA := hid hall
    clear hall HB0
    replace HR := hid (HR.out.step hbr); replace PQ := hid (PQ.out.step hbr); replace HB := hid (below_then HB.out hbr)
    have HBr := hid hbr
    clear hbr
    by_cases hjn : j < n
    · obtain ⟨b, off, rfl, _, hbh, hc⟩ := HR.out.row (by omega)
      obtain ⟨f0, f1⟩ := Sm.cb (lo := 0) (hi := wr.heap.size) hc hjn
      obtain ⟨x, hx⟩ : ∃ x, x = xs[j]?.getD (0, 0) := ⟨_, rfl⟩
      rw [← hx] at f0 f1
      have HX : Hid (perAt xs j = x.1) := hid (by rw [hx]; rfl)
      have hjc : (j : Int) < (n : Int) := by omega
      clear hx hc
      go_upto_region 4 with fail
      clear f0 f1
      have bx := below_box wr (.cells #[.int .u64 x.1, .int .u64 x.2] 60)
      replace HR := hid (HR.out.step bx); replace PQ := hid (PQ.out.step bx); replace HB := hid (below_then HB.out bx); replace HBr := hid (below_then HBr.out bx)
      clear bx
      have PC := hid (Blk.new wr 60 #[.int .u64 x.1, .int .u64 x.2])
      generalize wr.alloc (.cells #[.int .u64 x.1, .int .u64 x.2] 60) = W1 at *
      obtain ⟨y0, y1, yf⟩ := PQ.out.cells2
      obtain ⟨z0, z1, zf⟩ := PC.out.cells2
      rcases Nat.eq_zero_or_pos j with hj0 | hj0
      · have hj0i : (j : Int) = 0 := by omega
        go_quiet (fail)
        clear y0 y1 yf z0 z1 zf
        go_wp2
        clear hj0i
        go_roundw
        case rel => exact ⟨j + 1, by omega, by go_num, below_drewN HBr.out _, fun k hk h1 => by omega⟩
        case measure => simp [intOf]; omega
      · have hj0i : (0 : Int) < (j : Int) := by omega
        obtain ⟨q, hq⟩ : ∃ q : Nat, j = q + 1 := ⟨j - 1, by omega⟩
        have hw3 : IntKind.i64.wrap ((j : Int) - 1) = (q : Int) := by rw [IntKind.wrap_i64]; omega
        have hqn : (q : Int) < (n : Int) := by omega
        obtain ⟨b', off', hA', _, hbh', hc⟩ := HR.out.row (by omega)
        cases hA'
        obtain ⟨f0, f1⟩ := Sm.cb (lo := 0) (hi := W1.heap.size) hc (show q < n by omega)
        obtain ⟨y, hy⟩ : ∃ y, y = xs[q]?.getD (0, 0) := ⟨_, rfl⟩
        rw [← hy] at f0 f1
        have HY : Hid (perAt xs q = y.1) := hid (by rw [hy]; rfl)
        have HQ := hid hq
        clear hy hc hq
        go_quiet (fail)
        clear y0 y1 yf z0 z1 zf f0 f1
        by_cases hgt : x.1 < y.1
        · have E := hid (show decide (QGood o xs) = false from decide_eq_false (fun h => by
            have := h.2.2.1 j (by rw [hl.out]; omega) (by omega)
            rw [show j - 1 = q by have := HQ.out; omega, HX.out, HY.out] at this
            omega))
          go_wp2
          go_ret
          exact ⟨ret_bool E.out.symm, below_drewN HB.out _⟩
        · go_wp2
          clear hj0i
          go_roundw
          case rel =>
            refine ⟨j + 1, by omega, by go_num, below_drewN HBr.out _, fun k hk h1 => ?_⟩
            by_cases hkj : k = j
            · subst hkj; rw [show k - 1 = q by have := HQ.out; omega, HX.out, HY.out]; omega
            · exact HA.out k (by omega) h1
          case measure => simp [intOf]; omega
    · obtain rfl : j = n := by omega
      have HU := hid (show QUp xs from fun k hk h1 => HA.out k (by rw [← hl.out]; exact hk) h1)
      have HS := hid (qsoon_last (o := o) HU.out)
      obtain ⟨y0, y1, yf⟩ := PQ.out.cells2
      by_cases h1 : 9223372036854775806 < o
      · have E := hid (show decide (QGood o xs) = false from decide_eq_false (fun h => by have := h.1; omega))
        go_wp2
        go_ret
        exact ⟨ret_bool E.out.symm, HB.out⟩
      · by_cases h2 : 16 < j
        · have h2i : (16 : Int) < (j : Int) := by omega
          have E := hid (show decide (QGood o xs) = false from decide_eq_false (fun h => by have := h.2.1; have := hl.out; omega))
          go_wp2
          go_ret
          exact ⟨ret_bool E.out.symm, HB.out⟩
        · have h2i : ¬ (16 : Int) < (j : Int) := by omega
          have hw2 : IntKind.u64.wrap (o + 2) = o + 2 := by rw [IntKind.wrap_u64]; omega
          rcases Nat.eq_zero_or_pos j with hj0 | hj0
          · have hj0i : (j : Int) = 0 := by omega
            have E := hid (show decide (QGood o xs) = true from decide_eq_true ⟨by omega, by have := hl.out; omega, HU.out, HS.out.2 (.inl (hl.out.trans hj0))⟩)
            go_wp2_with fail
            go_quiet (fail)
            go_wp2
            go_ret
            exact ⟨ret_bool E.out.symm, below_drewN HB.out _⟩
          · have hj0i : ((j : Int) == 0) = false := by simp; omega
            obtain ⟨q, hq⟩ : ∃ q : Nat, j = q + 1 := ⟨j - 1, by omega⟩
            have hw3 : IntKind.i64.wrap ((j : Int) - 1) = (q : Int) := by rw [IntKind.wrap_i64]; omega
            have hqn : (q : Int) < (j : Int) := by omega
            obtain ⟨b, off, rfl, _, hbh, hc⟩ := HR.out.row (by omega)
            obtain ⟨f0, f1⟩ := Sm.cb (lo := 0) (hi := wr.heap.size) hc (show q < j by omega)
            obtain ⟨y, hy⟩ : ∃ y, y = xs[q]?.getD (0, 0) := ⟨_, rfl⟩
            rw [← hy] at f0 f1
            have E := hid (show decide (QGood o xs) = decide (y.1 ≤ o + 2) from decide_eq_decide.2 ⟨fun h => by
                have := (h.2.2.2) q (by rw [hl.out]; omega)
                rw [show perAt xs q = y.1 by rw [hy]; rfl] at this
                exact this, fun h => ⟨by omega, by have := hl.out; omega, HU.out, HS.out.2 (.inr (by rw [hl.out, show j - 1 = q by omega, show perAt xs q = y.1 by rw [hy]; rfl]; exact h))⟩⟩)
            clear hy hc hq
            go_wp2_with fail
            go_quiet (fail)
            go_wp2
            go_ret
            exact ⟨ret_bool E.out.symm, below_drewN HB.out _⟩
theorem neq_cb (a b c d : Int) : ∀ W, (binOp .neq 60 (.agg #[.int .u64 a, .int .u64 b]) (.agg #[.int .u64 c, .int .u64 d])).run Tryz.prog W = .ok (.bool (decide (¬ (a, b) = (c, d)))) W := by
  intro W
  have u3 := Tryz.underlying35
  have a3 := Tryz.isAgg35
  have z3 := Tryz.sizeOf35
  have hS : Tryz.prog.underlying 60 = some (.struct (Tryz.prog.fieldsOf 60)) := by kernel_rfl
  have hp : Tryz.prog.stoodInHeld 60 = false := by kernel_rfl
  rw [run_neq_struct, show (10000 : Nat) = 9999 + 1 from rfl, run_equalIn_agg W 9999 60 _ _ hS hp]
  simp only [Program.fieldsOf, Tryz.underlying60]
  go_simp
  by_cases h1 : a = c <;> by_cases h2 : b = d <;> simp [h1, h2]
def sameQ (o : Int) (xs : List Cb) (o' : Int) (ys : List Cb) : Bool := decide (o = o' ∧ xs = ys)
set_option maxHeartbeats 2000000 in
theorem qrsame_any (A : Option Addr) (n c : Nat) (o : Int) (xs : List Cb) (B : Option Addr) (m d : Nat) (o' : Int) (ys : List Cb) (w : World) (h : Sm 2 encC (0, 0) w 0 w.heap.size A n xs) (h' : Sm 2 encC (0, 0) w 0 w.heap.size B m ys) (hn : n ≤ 1000000) (hm : m ≤ 1000000) :
    Calls Tryz.prog 43 #[qv A n c o, qv B m d o'] w fun e w' => e = .returned (.bool (sameQ o xs o' ys)) ∧ Below w.heap.size w w' := by
  have HR := hid h; have HT := hid h'; have HB := hid (Below.refl w.heap.size w)
  have hl := hid h.len; have hl' := hid h'.len
  clear h h'
  have bx := below_box w (.cells (qcs A n c o) 58)
  replace HR := hid (HR.out.step bx); replace HT := hid (HT.out.step bx); replace HB := hid (below_then HB.out bx)
  clear bx
  have PQ := hid (Blk.new w 58 (qcs A n c o))
  have bx := below_box (w.alloc (.cells (qcs A n c o) 58)) (.cells (qcs B m d o') 58)
  replace HR := hid (HR.out.step bx); replace HT := hid (HT.out.step bx); replace PQ := hid (PQ.out.step bx); replace HB := hid (below_then HB.out bx)
  clear bx
  have PR := hid (Blk.new2 w 58 (qcs B m d o') (.cells (qcs A n c o) 58))
  by_cases h1 : o = o'
  · subst h1
    by_cases h2 : n = m
    · subst h2
      have hno : (o != o) = false := by simp
      have hnn : ((n : Int) != (n : Int)) = false := by simp
      obtain ⟨y00, y01, yf0⟩ := PQ.out.cells2
      obtain ⟨y10, y11, yf1⟩ := PR.out.cells2
      go_enter Tryz.func43, Tryz.ntmps43
      go_wp2_with fail
      clear y00 y01 yf0 y10 y11 yf1
      generalize (w.alloc (.cells (qcs A n c o) 58)).alloc (.cells (qcs B n d o) 58) = W0 at *
      have HB0 := hid (Below.refl W0.heap.size W0)
      clear hno hnn
      go_loopw [24] (fun i wr => ∃ j : Nat, j ≤ n ∧ i = .int .i64 j ∧ Below W0.heap.size W0 wr ∧ ∀ k, k < j → xs[k]?.getD (0, 0) = ys[k]?.getD (0, 0)) (fun i _ => n - (intOf i).toNat)
      case atStart => exact ⟨0, Nat.zero_le _, rfl, HB0.out, fun k hk => absurd hk (Nat.not_lt_zero _)⟩
      case round =>
        obtain ⟨j, hj, rfl, hbr, hall⟩ := hrel
        have HA := hid hall
        clear hall HB0
        replace HR := hid (HR.out.step hbr); replace HT := hid (HT.out.step hbr); replace PQ := hid (PQ.out.step hbr); replace PR := hid (PR.out.step hbr); replace HB := hid (below_then HB.out hbr)
        have HBr := hid hbr
        clear hbr
        by_cases hjn : j < n
        · obtain ⟨b, off, rfl, _, hbh, hc⟩ := HR.out.row (by omega)
          obtain ⟨f0, f1⟩ := Sm.cb (lo := 0) (hi := wr.heap.size) hc hjn
          obtain ⟨⟨x0, x1⟩, hx⟩ : ∃ x, x = xs[j]?.getD (0, 0) := ⟨_, rfl⟩
          rw [← hx] at f0 f1
          have hjc : (j : Int) < (n : Int) := by omega
          have HX := hid hx
          clear hx hc
          go_upto_region 6 with fail
          clear f0 f1
          have bx := below_box wr (.cells #[.int .u64 x0, .int .u64 x1] 60)
          replace HR := hid (HR.out.step bx); replace HT := hid (HT.out.step bx); replace PQ := hid (PQ.out.step bx); replace PR := hid (PR.out.step bx); replace HB := hid (below_then HB.out bx); replace HBr := hid (below_then HBr.out bx)
          clear bx
          have PC := hid (Blk.new wr 60 #[.int .u64 x0, .int .u64 x1])
          generalize wr.alloc (.cells #[.int .u64 x0, .int .u64 x1] 60) = W1 at *
          obtain ⟨y0, y1, yf⟩ := PR.out.cells2
          obtain ⟨z0, z1, zf⟩ := PC.out.cells2
          obtain ⟨b', off', rfl, _, hbh', hc⟩ := HT.out.row (by omega)
          obtain ⟨f0, f1⟩ := Sm.cb (lo := 0) (hi := W1.heap.size) hc hjn
          obtain ⟨⟨v0, v1⟩, hy⟩ : ∃ y, y = ys[j]?.getD (0, 0) := ⟨_, rfl⟩
          rw [← hy] at f0 f1
          have HY := hid hy
          clear hy hc
          have hne := neq_cb x0 x1 v0 v1
          go_quiet (fail)
          clear y0 y1 yf z0 z1 zf f0 f1 hne
          by_cases he : (x0, x1) = (v0, v1)
          · have e1 : (!decide (x0 = v0) || !decide (x1 = v1)) = false := by simp at he; simp [he]
            rw [e1]
            clear e1
            go_wp2
            go_roundw
            case rel =>
              refine ⟨j + 1, by omega, by go_num, below_drewN HBr.out _, fun k hk => ?_⟩
              by_cases hkj : k = j
              · subst hkj; rw [← HX.out, ← HY.out]; exact he
              · exact HA.out k (by omega)
            case measure => simp [intOf]; omega
          · have e1 : (!decide (x0 = v0) || !decide (x1 = v1)) = true := by
              simp at he
              by_cases h9 : x0 = v0
              · simp [h9, he h9]
              · simp [h9]
            have E := hid (show sameQ o xs o ys = false from decide_eq_false (fun h => he (by rw [HX.out, HY.out, h.2])))
            rw [e1]
            clear e1 he
            go_wp2
            go_ret
            exact ⟨ret_bool E.out.symm, below_drewN HB.out _⟩
        · obtain rfl : j = n := by omega
          have E := hid (show sameQ o xs o ys = true from decide_eq_true ⟨rfl, ext_getDg (0, 0) hl.out hl'.out HA.out⟩)
          go_wp2
          go_ret
          exact ⟨ret_bool E.out.symm, HB.out⟩
    · have hno : (o != o) = false := by simp
      have hnn : ((n : Int) != (m : Int)) = true := by simp; omega
      have E := hid (show sameQ o xs o ys = false from decide_eq_false (fun h => h2 (by rw [← hl.out, ← hl'.out, h.2])))
      clear h2
      obtain ⟨y00, y01, yf0⟩ := PQ.out.cells2
      obtain ⟨y10, y11, yf1⟩ := PR.out.cells2
      go_enter Tryz.func43, Tryz.ntmps43
      go_wp2
      go_ret
      exact ⟨ret_bool E.out.symm, HB.out⟩
  · have hno : (o != o') = true := by simpa using h1
    have E := hid (show sameQ o xs o' ys = false from decide_eq_false (fun h => h1 h.1))
    clear h1
    obtain ⟨y00, y01, yf0⟩ := PQ.out.cells2
    obtain ⟨y10, y11, yf1⟩ := PR.out.cells2
    go_enter Tryz.func43, Tryz.ntmps43
    go_wp2
    go_ret
    exact ⟨ret_bool E.out.symm, HB.out⟩
end Go.Proofs.YtfipdoofgbjbjaaGreat

/- afterglowref13: Put. No condition but sizes. -/
namespace Go.Proofs.YtfipdoofgbjbjaaGreat
open Go.RowKit
set_option maxRecDepth 100000 in
set_option maxHeartbeats 4000000 in
theorem qrput_any (A : Option Addr) (n c : Nat) (o : Int) (xs : List Cb) (x a : Int) (w : World) (h : Sm 2 encC (0, 0) w 0 w.heap.size A n xs) (hn : n ≤ 1000000) (h0 : 0 ≤ o) (hnc : n ≤ c) (hg : QGood o xs) :
    Calls Tryz.prog 76 #[qv A n c o, .int .u64 x, .int .i64 a] w (QPost w (putF o xs x a)) := by
  have HE := hid (show putF o xs x a = if a < 1 ∨ 2 < a then (0, [], 2) else if 0 < xs.length ∧ o + a < perAt xs (xs.length - 1) then (0, [], 2) else if xs.length = 16 then (0, [], 6) else (o, xs ++ [(o + a, x)], 0) by rw [putF, if_neg (not_not_intro hg)])
  have hl := hid h.len
  have HG := hid hg
  clear hg
  have HR := hid h; have HB := hid (Below.refl w.heap.size w)
  clear h
  have bx := below_box w (.cells (qcs A n c o) 58)
  replace HR := hid (HR.out.step bx); replace HB := hid (below_then HB.out bx)
  clear bx
  have PQ := hid (Blk.new w 58 (qcs A n c o))
  have bx := below_box (w.alloc (.cells (qcs A n c o) 58)) (.cells (qcs none 0 0 0) 58)
  replace HR := hid (HR.out.step bx); replace PQ := hid (PQ.out.step bx); replace HB := hid (below_then HB.out bx)
  clear bx
  have PZ := hid (Blk.new2 w 58 (qcs none 0 0 0) (.cells (qcs A n c o) 58))
  by_cases h1 : a < 1 ∨ 2 < a
  · have h1b : (a != 1) = true := by simp; omega
    have h2b : (a != 2) = true := by simp; omega
    go_enter Tryz.func76, Tryz.ntmps76
    have H1 := hid h1
    clear h1
    go_upto_region 2 with fail
    generalize (w.alloc (.cells (qcs A n c o) 58)).alloc (.cells (qcs none 0 0 0) 58) = W0 at *
    obtain ⟨y00, y01, yf0⟩ := PZ.out.cells2
    go_wp2
    obtain ⟨q0, q1, qf⟩ := ((PZ.out.setCell 0 (.slice none 0 0)).setCell 1 (.int .u64 0)).cells2
    refine bodyPost_ret (v := .tuple #[qv none 0 0 0, .int .i64 2]) (by simp [results, Tryz.results76, go_sem, q0, q1]) rfl ?_
    rw [HE.out, if_pos H1.out]
    exact ⟨none, 0, 0, rfl, Qown.nil _ _, (HB.out.setCell (by simp) _).setCell (by simp) _, Nat.le_refl _⟩
  · have HE2 := hid (show putF o xs x a = if 0 < xs.length ∧ o + a < perAt xs (xs.length - 1) then (0, [], 2) else if xs.length = 16 then (0, [], 6) else (o, xs ++ [(o + a, x)], 0) by rw [HE.out, if_neg h1])
    have ha : a = 1 ∨ a = 2 := by omega
    have h16 := hid (show n ≤ 16 by have := HG.out.2.1; have := hl.out; omega)
    clear HE h1
    rcases ha with rfl | rfl
    · have hw2 : IntKind.u64.wrap (o + 1) = o + 1 := by have := HG.out.1; rw [IntKind.wrap_u64]; omega
      obtain ⟨y00, y01, yf0⟩ := PQ.out.cells2
      go_enter Tryz.func76, Tryz.ntmps76
      go_wp2_with fail
      clear y00 y01 yf0
      generalize (w.alloc (.cells (qcs A n c o) 58)).alloc (.cells (qcs none 0 0 0) 58) = W0 at *
      have HB0 := hid (Below.refl W0.heap.size W0)
      clear hw2
      obtain ⟨p, hp⟩ : ∃ p, p = o + 1 := ⟨_, rfl⟩
      rw [← hp]
      have HPP := hid hp
      clear hp
      go_loopw [26] (fun i wr => ∃ j : Nat, j ≤ n ∧ i = .int .i64 j ∧ Below W0.heap.size W0 wr ∧ ∀ k, k < j → perAt xs k ≤ p) (fun i _ => n - (intOf i).toNat)
      case atStart => exact ⟨0, Nat.zero_le _, rfl, HB0.out, fun k hk => absurd hk (Nat.not_lt_zero _)⟩
      case round =>
        obtain ⟨j, hj, rfl, hbr, hall⟩ := hrel
        have HA := hid hall
        clear hall HB0
        replace HR := hid (HR.out.step hbr); replace PQ := hid (PQ.out.step hbr); replace PZ := hid (PZ.out.step hbr); replace HB := hid (below_then HB.out hbr)
        have HBr := hid hbr
        clear hbr
        by_cases hjn : j < n
        · obtain ⟨b, off, rfl, _, hbh, hc⟩ := HR.out.row (by omega)
          obtain ⟨f0, f1⟩ := Sm.cb (lo := 0) (hi := wr.heap.size) hc hjn
          obtain ⟨⟨v0, v1⟩, hx⟩ : ∃ x, x = xs[j]?.getD (0, 0) := ⟨_, rfl⟩
          rw [← hx] at f0 f1
          have hjc : (j : Int) < (n : Int) := by omega
          have HX : Hid (perAt xs j = v0) := hid (by show (xs[j]?.getD (0, 0)).1 = v0; rw [← hx])
          clear hx hc
          go_upto_region 7 with fail
          clear f0 f1
          have bx := below_box wr (.cells #[.int .u64 v0, .int .u64 v1] 60)
          replace HR := hid (HR.out.step bx); replace PQ := hid (PQ.out.step bx); replace PZ := hid (PZ.out.step bx); replace HB := hid (below_then HB.out bx); replace HBr := hid (below_then HBr.out bx)
          clear bx
          have PC := hid (Blk.new wr 60 #[.int .u64 v0, .int .u64 v1])
          generalize wr.alloc (.cells #[.int .u64 v0, .int .u64 v1] 60) = W1 at *
          by_cases hgt : p < v0
          · have E := hid (show 0 < xs.length ∧ o + 1 < perAt xs (xs.length - 1) from ⟨by have := hl.out; omega, by have := qup_last HG.out.2.2.1 j (by rw [hl.out]; omega); rw [HX.out] at this; rw [← HPP.out]; omega⟩)
            obtain ⟨y00, y01, yf0⟩ := PC.out.cells2
            obtain ⟨y00, y01, yf0⟩ := PZ.out.cells2
            go_wp2
            obtain ⟨q0, q1, qf⟩ := ((PZ.out.setCell 0 (.slice none 0 0)).setCell 1 (.int .u64 0)).cells2
            refine bodyPost_ret (v := .tuple #[qv none 0 0 0, .int .i64 2]) (by simp [results, Tryz.results76, go_sem, q0, q1]) rfl ?_
            rw [HE2.out, if_pos E.out]
            exact ⟨none, 0, 0, rfl, Qown.nil _ _, (HB.out.setCell (by simp) _).setCell (by simp) _, Nat.le_refl _⟩
          · skip
            obtain ⟨y00, y01, yf0⟩ := PC.out.cells2
            go_wp2
            go_roundw
            case rel =>
              refine ⟨j + 1, by omega, by go_num, HBr.out, fun k hk => ?_⟩
              by_cases hkj : k = j
              · subst hkj; rw [HX.out]; omega
              · exact HA.out k (by omega)
            case measure => simp [intOf]; omega
        · obtain rfl : j = n := by omega
          have hno := hid (show ¬ (0 < xs.length ∧ o + 1 < perAt xs (xs.length - 1)) from fun h => by have := HA.out (xs.length - 1) (by have := hl.out; omega); rw [← HPP.out] at h; omega)
          by_cases h6 : j = 16
          · have h6i : (j : Int) = 16 := by omega
            obtain ⟨y00, y01, yf0⟩ := PQ.out.cells2
            obtain ⟨y00, y01, yf0⟩ := PZ.out.cells2
            go_wp2
            obtain ⟨q0, q1, qf⟩ := ((PZ.out.setCell 0 (.slice none 0 0)).setCell 1 (.int .u64 0)).cells2
            refine bodyPost_ret (v := .tuple #[qv none 0 0 0, .int .i64 6]) (by simp [results, Tryz.results76, go_sem, q0, q1]) rfl ?_
            rw [HE2.out, if_neg hno.out, if_pos (hl.out.trans h6)]
            exact ⟨none, 0, 0, rfl, Qown.nil _ _, (HB.out.setCell (by simp) _).setCell (by simp) _, Nat.le_refl _⟩
          · have h6i : ¬ (j : Int) = 16 := by omega
            obtain ⟨i0, hi0, hz00, hz01, hz02⟩ := info_parts info_cb
            have hn16 := h16.out
            have b0 := below_box wr (.cells #[] 60)
            have HR0 := hid (HR.out.step b0); have PQ0 := hid (PQ.out.step b0)
            clear b0
            have HC2 : Hid (∀ q, q < 2 → (#[.int .u64 p, .int .u64 x] : Array Value)[q]? = some (encC (p, x) q)) := hid (by intro q hq; match q, hq with | 0, _ => rfl | 1, _ => rfl)
            obtain ⟨y0, y1, yf⟩ := PQ.out.cells2
            obtain ⟨v0, v1, vf⟩ := PQ0.out.cells2
            go_wp2_with (first
              | (at_builtin; refine wpList_appm 2 encC (0, 0) _ rfl _ _ 56 rfl wr.heap.size 60 i0 _ 16 Tryz.underlying56 hi0 hz00 hz01 hz02 rfl (by omega) _ _ _ [] rfl (Om.empty wr _ _ (Nat.le_refl _)) 0 (wr.alloc (.cells #[] 60)).heap.size A j c xs rfl HR0.out encC_one (by simp only [maxLen]; omega) (by omega) (by simp) ?_; intro A1 c1 w5 own1 hg1 hat1; simp only [Nat.zero_add, List.nil_append] at own1; have hb5 := (((Below.refl _ wr).alloc (Nat.le_refl _) (.cells #[] 60)).grown hg1 (by simp) (fun k hk => by simp [Value.ownBlock] at hk; omega)))
              | (at_builtin; refine wpList_appm 2 encC (0, 0) _ rfl _ _ 56 rfl wr.heap.size 60 i0 _ 16 Tryz.underlying56 hi0 hz00 hz01 hz02 rfl (by omega) A1 j c1 xs rfl (own1.alloc _) 0 (w5.alloc (.cells #[.int .u64 p, .int .u64 x] 60)).heap.size _ 1 _ [(p, x)] rfl (Sm.one (p, x) rfl HC2.out) encC_one (by simp only [maxLen]; omega) (by omega) (by have := hb5.size; simp; omega) ?_; intro A2 c2 w7 own2 hg2 hat2; have hb7 := (hb5.alloc (hb5.size) (.cells #[.int .u64 p, .int .u64 x] 60)).grown hg2 (by have := hb5.size; simp; omega) (fun k hk => own1.row_ge k hk); obtain ⟨u0, u1, uf⟩ := (PQ.out.step hb7).cells2; obtain ⟨r0, r1, rf⟩ := (PZ.out.step hb7).cells2))
            have hlz := PZ.out.lt
            have hlq := PQ.out.lt
            obtain ⟨q0, q1, qf⟩ := ((((PZ.out.step hb7).far (p := ⟨w.heap.size, 0, none⟩) (by simp) (.slice A2 (j + 1) c2)).setCell 0 (.slice A2 (j + 1) c2)).setCell 1 (.int .u64 o)).cells2
            refine bodyPost_ret (v := .tuple #[qv A2 (j + 1) c2 o, .int .i64 0]) (by simp [results, Tryz.results76, go_sem, q0, q1]) rfl ?_
            rw [HE2.out, if_neg hno.out, if_neg (by rw [hl.out]; exact h6), ← HPP.out]
            have o2 := Qown.ofOm own2
            exact ⟨A2, j + 1, c2, rfl, (((o2.setCell (p := ⟨w.heap.size, 0, none⟩) hlq _).setCell (p := ⟨w.heap.size + 1, 0, none⟩) hlz _).setCell (p := ⟨w.heap.size + 1, 1, none⟩) hlz _).mono (Nat.le_of_lt hlq), (((below_then HB.out hb7).setCell (Nat.le_refl _) _).setCell (by simp) _).setCell (by simp) _, own2.cap.1⟩
    · have hw2 : IntKind.u64.wrap (o + 2) = o + 2 := by have := HG.out.1; rw [IntKind.wrap_u64]; omega
      obtain ⟨y00, y01, yf0⟩ := PQ.out.cells2
      go_enter Tryz.func76, Tryz.ntmps76
      go_wp2_with fail
      clear y00 y01 yf0
      generalize (w.alloc (.cells (qcs A n c o) 58)).alloc (.cells (qcs none 0 0 0) 58) = W0 at *
      have HB0 := hid (Below.refl W0.heap.size W0)
      clear hw2
      obtain ⟨p, hp⟩ : ∃ p, p = o + 2 := ⟨_, rfl⟩
      rw [← hp]
      have HPP := hid hp
      clear hp
      go_loopw [26] (fun i wr => ∃ j : Nat, j ≤ n ∧ i = .int .i64 j ∧ Below W0.heap.size W0 wr ∧ ∀ k, k < j → perAt xs k ≤ p) (fun i _ => n - (intOf i).toNat)
      case atStart => exact ⟨0, Nat.zero_le _, rfl, HB0.out, fun k hk => absurd hk (Nat.not_lt_zero _)⟩
      case round =>
        obtain ⟨j, hj, rfl, hbr, hall⟩ := hrel
        have HA := hid hall
        clear hall HB0
        replace HR := hid (HR.out.step hbr); replace PQ := hid (PQ.out.step hbr); replace PZ := hid (PZ.out.step hbr); replace HB := hid (below_then HB.out hbr)
        have HBr := hid hbr
        clear hbr
        by_cases hjn : j < n
        · obtain ⟨b, off, rfl, _, hbh, hc⟩ := HR.out.row (by omega)
          obtain ⟨f0, f1⟩ := Sm.cb (lo := 0) (hi := wr.heap.size) hc hjn
          obtain ⟨⟨v0, v1⟩, hx⟩ : ∃ x, x = xs[j]?.getD (0, 0) := ⟨_, rfl⟩
          rw [← hx] at f0 f1
          have hjc : (j : Int) < (n : Int) := by omega
          have HX : Hid (perAt xs j = v0) := hid (by show (xs[j]?.getD (0, 0)).1 = v0; rw [← hx])
          clear hx hc
          go_upto_region 7 with fail
          clear f0 f1
          have bx := below_box wr (.cells #[.int .u64 v0, .int .u64 v1] 60)
          replace HR := hid (HR.out.step bx); replace PQ := hid (PQ.out.step bx); replace PZ := hid (PZ.out.step bx); replace HB := hid (below_then HB.out bx); replace HBr := hid (below_then HBr.out bx)
          clear bx
          have PC := hid (Blk.new wr 60 #[.int .u64 v0, .int .u64 v1])
          generalize wr.alloc (.cells #[.int .u64 v0, .int .u64 v1] 60) = W1 at *
          by_cases hgt : p < v0
          · have E := hid (show 0 < xs.length ∧ o + 2 < perAt xs (xs.length - 1) from ⟨by have := hl.out; omega, by have := qup_last HG.out.2.2.1 j (by rw [hl.out]; omega); rw [HX.out] at this; rw [← HPP.out]; omega⟩)
            obtain ⟨y00, y01, yf0⟩ := PC.out.cells2
            obtain ⟨y00, y01, yf0⟩ := PZ.out.cells2
            go_wp2
            obtain ⟨q0, q1, qf⟩ := ((PZ.out.setCell 0 (.slice none 0 0)).setCell 1 (.int .u64 0)).cells2
            refine bodyPost_ret (v := .tuple #[qv none 0 0 0, .int .i64 2]) (by simp [results, Tryz.results76, go_sem, q0, q1]) rfl ?_
            rw [HE2.out, if_pos E.out]
            exact ⟨none, 0, 0, rfl, Qown.nil _ _, (HB.out.setCell (by simp) _).setCell (by simp) _, Nat.le_refl _⟩
          · skip
            obtain ⟨y00, y01, yf0⟩ := PC.out.cells2
            go_wp2
            go_roundw
            case rel =>
              refine ⟨j + 1, by omega, by go_num, HBr.out, fun k hk => ?_⟩
              by_cases hkj : k = j
              · subst hkj; rw [HX.out]; omega
              · exact HA.out k (by omega)
            case measure => simp [intOf]; omega
        · obtain rfl : j = n := by omega
          have hno := hid (show ¬ (0 < xs.length ∧ o + 2 < perAt xs (xs.length - 1)) from fun h => by have := HA.out (xs.length - 1) (by have := hl.out; omega); rw [← HPP.out] at h; omega)
          by_cases h6 : j = 16
          · have h6i : (j : Int) = 16 := by omega
            obtain ⟨y00, y01, yf0⟩ := PQ.out.cells2
            obtain ⟨y00, y01, yf0⟩ := PZ.out.cells2
            go_wp2
            obtain ⟨q0, q1, qf⟩ := ((PZ.out.setCell 0 (.slice none 0 0)).setCell 1 (.int .u64 0)).cells2
            refine bodyPost_ret (v := .tuple #[qv none 0 0 0, .int .i64 6]) (by simp [results, Tryz.results76, go_sem, q0, q1]) rfl ?_
            rw [HE2.out, if_neg hno.out, if_pos (hl.out.trans h6)]
            exact ⟨none, 0, 0, rfl, Qown.nil _ _, (HB.out.setCell (by simp) _).setCell (by simp) _, Nat.le_refl _⟩
          · have h6i : ¬ (j : Int) = 16 := by omega
            obtain ⟨i0, hi0, hz00, hz01, hz02⟩ := info_parts info_cb
            have hn16 := h16.out
            have b0 := below_box wr (.cells #[] 60)
            have HR0 := hid (HR.out.step b0); have PQ0 := hid (PQ.out.step b0)
            clear b0
            have HC2 : Hid (∀ q, q < 2 → (#[.int .u64 p, .int .u64 x] : Array Value)[q]? = some (encC (p, x) q)) := hid (by intro q hq; match q, hq with | 0, _ => rfl | 1, _ => rfl)
            obtain ⟨y0, y1, yf⟩ := PQ.out.cells2
            obtain ⟨v0, v1, vf⟩ := PQ0.out.cells2
            go_wp2_with (first
              | (at_builtin; refine wpList_appm 2 encC (0, 0) _ rfl _ _ 56 rfl wr.heap.size 60 i0 _ 16 Tryz.underlying56 hi0 hz00 hz01 hz02 rfl (by omega) _ _ _ [] rfl (Om.empty wr _ _ (Nat.le_refl _)) 0 (wr.alloc (.cells #[] 60)).heap.size A j c xs rfl HR0.out encC_one (by simp only [maxLen]; omega) (by omega) (by simp) ?_; intro A1 c1 w5 own1 hg1 hat1; simp only [Nat.zero_add, List.nil_append] at own1; have hb5 := (((Below.refl _ wr).alloc (Nat.le_refl _) (.cells #[] 60)).grown hg1 (by simp) (fun k hk => by simp [Value.ownBlock] at hk; omega)))
              | (at_builtin; refine wpList_appm 2 encC (0, 0) _ rfl _ _ 56 rfl wr.heap.size 60 i0 _ 16 Tryz.underlying56 hi0 hz00 hz01 hz02 rfl (by omega) A1 j c1 xs rfl (own1.alloc _) 0 (w5.alloc (.cells #[.int .u64 p, .int .u64 x] 60)).heap.size _ 1 _ [(p, x)] rfl (Sm.one (p, x) rfl HC2.out) encC_one (by simp only [maxLen]; omega) (by omega) (by have := hb5.size; simp; omega) ?_; intro A2 c2 w7 own2 hg2 hat2; have hb7 := (hb5.alloc (hb5.size) (.cells #[.int .u64 p, .int .u64 x] 60)).grown hg2 (by have := hb5.size; simp; omega) (fun k hk => own1.row_ge k hk); obtain ⟨u0, u1, uf⟩ := (PQ.out.step hb7).cells2; obtain ⟨r0, r1, rf⟩ := (PZ.out.step hb7).cells2))
            have hlz := PZ.out.lt
            have hlq := PQ.out.lt
            obtain ⟨q0, q1, qf⟩ := ((((PZ.out.step hb7).far (p := ⟨w.heap.size, 0, none⟩) (by simp) (.slice A2 (j + 1) c2)).setCell 0 (.slice A2 (j + 1) c2)).setCell 1 (.int .u64 o)).cells2
            refine bodyPost_ret (v := .tuple #[qv A2 (j + 1) c2 o, .int .i64 0]) (by simp [results, Tryz.results76, go_sem, q0, q1]) rfl ?_
            rw [HE2.out, if_neg hno.out, if_neg (by rw [hl.out]; exact h6), ← HPP.out]
            have o2 := Qown.ofOm own2
            exact ⟨A2, j + 1, c2, rfl, (((o2.setCell (p := ⟨w.heap.size, 0, none⟩) hlq _).setCell (p := ⟨w.heap.size + 1, 0, none⟩) hlz _).setCell (p := ⟨w.heap.size + 1, 1, none⟩) hlz _).mono (Nat.le_of_lt hlq), (((below_then HB.out hb7).setCell (Nat.le_refl _) _).setCell (by simp) _).setCell (by simp) _, own2.cap.1⟩
end Go.Proofs.YtfipdoofgbjbjaaGreat

/- afterglowref13: Drain. No condition but sizes. -/
namespace Go.Proofs.YtfipdoofgbjbjaaGreat
open Go.RowKit
def RdPost (W : World) (r : Int × List Cb × List Int × Int) (e : Ending) (W' : World) : Prop :=
  ∃ A n c B m d, e = .returned (.tuple #[qv A n c r.1, .slice B m d]) ∧ Qown W' W.heap.size A n r.2.1 ∧ Ow u64v W' W.heap.size 35 B m d r.2.2.1 ∧ Below W.heap.size W W' ∧ n ≤ c
theorem Ow.grownN {α : Type} {enc : α → Value} {W W' : World} {row : Option Nat} {lo : Nat} {e : TypeId} {A : Option Addr} {n c : Nat} {xs : List α} (h : Ow enc W lo e A n c xs) (hg : W.grownBy W' row) (hr : ∀ k, row = some k → ∀ a, A = some a → a.block ≠ k) : Ow enc W' lo e A n c xs := by
  refine ⟨h.len, h.own.1, ?_⟩
  rcases h.own.2 with hh | ⟨g, cap, cur, hv, hb1, hgg, r⟩
  · exact .inl hh
  · refine .inr ⟨g, cap, cur, hv, hb1, (hg.block g (Array.getElem?_eq_some_iff.1 hgg).1 (fun e => ?_)).trans hgg, r⟩
    simp only [Value.slice.injEq] at hv
    exact hr g e.symm _ hv.1 rfl
theorem qdone_iff {o : Int} {xs : List Cb} {most : Int} (hg : QGood o xs) (hm : 0 ≤ most) {j : Nat} (hj : j < xs.length) :
    j < min (doneN o xs) most.toNat ↔ (perAt xs j ≤ o ∧ ((min j (min (doneN o xs) most.toNat) : Nat) : Int) < most) := by
  constructor
  · intro h
    exact ⟨doneN_lt (by omega), by omega⟩
  · rintro ⟨h1, h2⟩
    by_cases hj1 : j < doneN o xs
    · omega
    · exfalso
      have hup : ∀ d k, k + d < xs.length → perAt xs k ≤ perAt xs (k + d) := by
        intro d
        induction d with
        | zero => intro k _; exact Int.le_refl _
        | succ d ih =>
          intro k hk
          have h1 := ih k (by omega)
          have h2 := hg.2.2.1 (k + (d + 1)) hk (by omega)
          rw [show k + (d + 1) - 1 = k + d by omega] at h2
          omega
      have h3 := hup (j - doneN o xs) (doneN o xs) (by omega)
      rw [show doneN o xs + (j - doneN o xs) = j by omega] at h3
      exact doneN_stop (o := o) (xs := xs) ⟨by omega, by omega⟩
set_option maxHeartbeats 4000000 in
theorem qrdrain_any (A : Option Addr) (n c : Nat) (o : Int) (xs : List Cb) (most : Int) (w : World) (h : Sm 2 encC (0, 0) w 0 w.heap.size A n xs) (hn : n ≤ 1000000) (hm : 0 ≤ most) (hg : QGood o xs) :
    Calls Tryz.prog 38 #[qv A n c o, .int .i64 most] w (RdPost w (drainF o xs most)) := by
  have HE := hid (show drainF o xs most = (o, xs.drop (min (doneN o xs) most.toNat), (xs.take (min (doneN o xs) most.toNat)).map (·.2), 0) by rw [drainF, if_neg (not_not_intro hg), if_neg (by omega)])
  have hl := hid h.len
  have HI := hid (show ∀ j : Nat, j < xs.length → (j < min (doneN o xs) most.toNat ↔ (perAt xs j ≤ o ∧ ((min j (min (doneN o xs) most.toNat) : Nat) : Int) < most)) from fun j => qdone_iff (j := j) hg hm)
  have hkn := hid (show min (doneN o xs) most.toNat ≤ n by have := doneN_le o xs; have := h.len; omega)
  obtain ⟨K0, hK0⟩ : ∃ k, k = min (doneN o xs) most.toNat := ⟨_, rfl⟩
  rw [← hK0] at HE HI hkn
  have HG := hid hg; have HM := hid hm
  clear hg hK0 hm
  obtain ⟨i0, hi0, hz00, hz01, hz02⟩ := info_parts info_u64
  have HI0 := hid hi0; have HZ0 := hid hz00; have HZ1 := hid hz01; have HZ2 := hid hz02
  clear hi0 hz00 hz01 hz02
  obtain ⟨i0', hi0, hz00, hz01, hz02⟩ := info_parts info_cb
  have HJ0 := hid hi0; have HY0 := hid hz00; have HY1 := hid hz01; have HY2 := hid hz02
  clear hi0 hz00 hz01 hz02
  have HR := hid h; have HB := hid (Below.refl w.heap.size w)
  clear h
  have bx := below_box w (.cells (qcs A n c o) 58)
  replace HR := hid (HR.out.step bx); replace HB := hid (below_then HB.out bx)
  clear bx
  have PQ := hid (Blk.new w 58 (qcs A n c o))
  have bx := below_box (w.alloc (.cells (qcs A n c o) 58)) (.cells (qcs none 0 0 0) 58)
  replace HR := hid (HR.out.step bx); replace PQ := hid (PQ.out.step bx); replace HB := hid (below_then HB.out bx)
  clear bx
  have PZ := hid (Blk.new2 w 58 (qcs none 0 0 0) (.cells (qcs A n c o) 58))
  obtain ⟨y00, y01, yf0⟩ := PQ.out.cells2
  go_enter Tryz.func38, Tryz.ntmps38
  go_wp2_with fail
  clear y00 y01 yf0
  generalize (w.alloc (.cells (qcs A n c o) 58)).alloc (.cells (qcs none 0 0 0) 58) = W0 at *
  have XB := HB; have XQ := PQ; have XZ := PZ; have XR := HR; have H0 := hid (Below.refl W0.heap.size W0)
  have hz0 := hid PZ.out.lt
  go_loopw [6, 7, 13] (fun s6 s7 i wr => ∃ j m cg p cb : Nat, ∃ G B : Option Addr, ∃ K : Nat, j ≤ n ∧ i = .int .i64 j ∧ s6 = .slice G m cg ∧ s7 = .slice B p cb ∧ Om 2 encC wr K 60 G m cg ((xs.take j).drop K0) ∧ Ow u64v wr W0.heap.size 35 B p cb ((xs.take (min j K0)).map (·.2)) ∧ (j ≤ K0 → G = none ∧ cg = 0) ∧ W0.heap.size ≤ K ∧ K ≤ wr.heap.size ∧ (K0 < j → ∀ a, B = some a → a.block < K) ∧ Below W0.heap.size W0 wr) (fun _ _ i _ => n - (intOf i).toNat)
  case atStart => exact ⟨0, 0, 0, 0, 0, none, none, W0.heap.size, Nat.zero_le _, rfl, rfl, rfl, by rw [List.take_zero, List.drop_nil]; exact Om.nil _ _ _, by rw [Nat.zero_min, List.take_zero]; exact Ow.nil _ _ _, fun _ => ⟨rfl, rfl⟩, Nat.le_refl _, Nat.le_refl _, fun _ a e => (by cases e), H0.out⟩
  case round =>
    clear HB PQ PZ HR H0
    obtain ⟨j, m, cg, p, cb, G, B, K, hj, rfl, rfl, rfl, ho, hw, hG, hK1, hK2, hK3, hbr⟩ := hrel
    have HB := hid (below_then XB.out hbr); have PQ := hid (XQ.out.step hbr); have PZ := hid (XZ.out.step hbr); have HR := hid (XR.out.step hbr); have HBr := hid hbr
    have HO := hid ho; have HW := hid hw; have HGn := hid hG; have hk1 := hid hK1; have hk2 := hid hK2; have hk3 := hid hK3; have hs0 := hid hbr.size
    have hmL := hid ho.len; have hpL := hid hw.len
    clear ho hw hG hK1 hK2 hK3 hbr
    by_cases hjn : j < n
    · obtain ⟨b, off, rfl, _, hbh, hc⟩ := HR.out.row (by omega)
      obtain ⟨f0, f1⟩ := Sm.cb (lo := 0) (hi := wr.heap.size) hc hjn
      obtain ⟨⟨v0, v1⟩, hx⟩ : ∃ x, x = xs[j]?.getD (0, 0) := ⟨_, rfl⟩
      rw [← hx] at f0 f1
      have hjc : (j : Int) < (n : Int) := by omega
      have HX : Hid (perAt xs j = v0) := hid (by show (xs[j]?.getD (0, 0)).1 = v0; rw [← hx])
      have HTK : Hid (xs.take (j + 1) = xs.take j ++ [(v0, v1)]) := hid (by rw [hx, List.take_add_one, List.getElem?_eq_getElem (by rw [hl.out]; exact hjn)]; rfl)
      have HJ := hid (HI.out j (by rw [hl.out]; exact hjn))
      clear hx hc
      go_upto_region 6 with fail
      clear f0 f1
      have bx := below_box wr (.cells #[.int .u64 v0, .int .u64 v1] 60)
      replace PQ := hid (PQ.out.step bx); replace PZ := hid (PZ.out.step bx); replace HR := hid (HR.out.step bx); replace HO := hid (HO.out.step bx); replace HW := hid (HW.out.step bx); replace HB := hid (below_then HB.out bx); replace HBr := hid (below_then HBr.out bx)
      clear bx
      have PC := hid (Blk.new wr 60 #[.int .u64 v0, .int .u64 v1])
      have hz1 := hid (show (wr.alloc (.cells #[.int .u64 v0, .int .u64 v1] 60)).heap.size = wr.heap.size + 1 by simp)
      generalize wr.alloc (.cells #[.int .u64 v0, .int .u64 v1] 60) = W1 at *
      have hk2' := hid (show K ≤ W1.heap.size by have := hk2.out; have := hz1.out; omega)
      by_cases hjk : j < K0
      · have hle : v0 ≤ o := by have := (HJ.out.1 hjk).1; rwa [HX.out] at this
        have hpj : p = j := by rw [← hpL.out, List.length_map, List.length_take]; have := hl.out; omega
        have hlt : (p : Int) < most := by have := (HJ.out.1 hjk).2; omega
        have HPJ := hid hpj
        have hpb : p ≤ 1000000 := by omega
        clear hpj
        obtain ⟨rfl, rfl⟩ := HGn.out (by omega)
        have hi0 := HI0.out; have hz00 := HZ0.out; have hz01 := HZ1.out; have hz02 := HZ2.out
        obtain ⟨y00, y01, yf0⟩ := PQ.out.cells2
        obtain ⟨y10, y11, yf1⟩ := PC.out.cells2
        go_wp2_with (at_builtin; refine wpList_app u64v 0 _ rfl _ _ 40 rfl W0.heap.size 35 i0 _ 8 Tryz.underlying40 hi0 hz00 hz01 hz02 rfl B p cb _ rfl (HW.out.alloc _) W1.heap.size (W1.heap.size + 1) _ 1 _ [v1] rfl (Sl.one' (by simp)) (fun _ => rfl) (by simp only [maxLen]; omega) (by omega) (by have := hs0.out; have := hz1.out; simp; omega) ?_; intro B' cb' w7 own7 hg7 hat7; have hrow := hid HW.out.row_ge; have hb7 := hid (((Below.refl W0.heap.size W1).alloc (by have := hs0.out; have := hz1.out; omega) (.cells #[.int .u64 v1] 35)).grown hg7 (by have := hs0.out; have := hz1.out; simp; omega) (fun r e => hrow.out r e)); have OWN7 := hid own7; have HG7 := hid hg7; clear own7 hg7 hat7 hrow)
        clear hi0 hz00 hz01 hz02 hle hlt y00 y01 yf0 y10 y11 yf1
        go_roundw
        case rel =>
          have hs7 := HG7.out.size
          refine ⟨j + 1, m, 0, p + 1, cb', none, B', w7.heap.size, by omega, by go_num, rfl, rfl, ?_, ?_, fun _ => ⟨rfl, rfl⟩, by have := hb7.out.size; have := hs0.out; have := hz1.out; simp at hs7; omega, Nat.le_refl _, fun h => absurd h (by omega), HBr.out.trans hb7.out⟩
          · have e0 : m = 0 := by rw [← hmL.out, List.length_drop, List.length_take]; omega
            subst e0
            have e1 : (xs.take (j + 1)).drop K0 = [] := List.drop_eq_nil_of_le (by rw [List.length_take]; omega)
            rw [e1]
            exact Om.nil _ _ _
          · have := OWN7.out
            rwa [show ((xs.take (min j K0)).map (·.2)) ++ [v1] = (xs.take (min (j + 1) K0)).map (·.2) by
              rw [Nat.min_eq_left (by omega), Nat.min_eq_left (by omega), HTK.out]; simp] at this
        case measure => simp [intOf]; omega
      · have hi0 := HJ0.out; have hz00 := HY0.out; have hz01 := HY1.out; have hz02 := HY2.out
        have hmj : m = j - K0 := by rw [← hmL.out, List.length_drop, List.length_take]; have := hl.out; omega
        have hK3 := hid (show ∀ a, B = some a → a.block < W1.heap.size from fun a ha => by subst ha; exact (HW.out.own.lt a.block rfl).2)
        have HC2 : Hid (∀ q, q < 2 → (#[.int .u64 v0, .int .u64 v1] : Array Value)[q]? = some (encC (v0, v1) q)) := hid (by intro q hq; match q, hq with | 0, _ => rfl | 1, _ => rfl)
        obtain ⟨K2, hK2⟩ : ∃ K2, Hid (Om 2 encC W1 K2 60 G m cg ((xs.take j).drop K0) ∧ W0.heap.size ≤ K2 ∧ K2 ≤ W1.heap.size ∧ ∀ a, B = some a → a.block < K2) := by
          by_cases hjk2 : K0 < j
          · exact ⟨K, hid ⟨HO.out, hk1.out, hk2'.out, hk3.out hjk2⟩⟩
          · obtain ⟨rfl, rfl⟩ := HGn.out (by omega)
            obtain rfl : m = 0 := by omega
            exact ⟨W1.heap.size, hid ⟨by have := HO.out.len; rw [List.eq_nil_of_length_eq_zero this]; exact Om.nil _ _ _, by have := hs0.out; have := hz1.out; omega, Nat.le_refl _, hK3.out⟩⟩
        have hO2 := hid hK2.out.1; have hK21 := hid hK2.out.2.1; have hK22 := hid hK2.out.2.2.1; have hK23 := hid hK2.out.2.2.2
        have HMJ := hid hmj
        have hmb : m ≤ 1000000 := by omega
        clear hmj
        have hnle : v0 ≤ o → ¬ (p : Int) < most := fun h1 h2 => hjk (HJ.out.2 ⟨by rw [HX.out]; exact h1, by rw [← hpL.out, List.length_map, List.length_take] at h2; have := hl.out; omega⟩)
        have HNLE := hid hnle
        clear hnle
        by_cases hle : v0 ≤ o
        · have hlt := HNLE.out hle
          obtain ⟨y00, y01, yf0⟩ := PQ.out.cells2
          obtain ⟨y10, y11, yf1⟩ := PC.out.cells2
          go_wp2_with (at_builtin; refine wpList_appm 2 encC (0, 0) _ rfl _ _ 56 rfl K2 60 i0' _ 16 Tryz.underlying56 hi0 hz00 hz01 hz02 rfl (by omega) G m cg _ rfl (hO2.out.alloc _) 0 (W1.alloc (.cells #[.int .u64 v0, .int .u64 v1] 60)).heap.size _ 1 _ [(v0, v1)] rfl (Sm.one (v0, v1) rfl HC2.out) encC_one (by simp only [maxLen]; omega) (by omega) (by have := hK22.out; simp; omega) ?_; intro G' cg' w7 own7 hg7 hat7; have hrow := hid hO2.out.row_ge; have hb7 := hid (((Below.refl W0.heap.size W1).alloc (by have := hs0.out; have := hz1.out; omega) (.cells #[.int .u64 v0, .int .u64 v1] 60)).grown hg7 (by have := hs0.out; have := hz1.out; simp; omega) (fun r e => Nat.le_trans hK21.out (hrow.out r e))); have OWN7 := hid own7; have HG7 := hid hg7; have HW7 := hid ((HW.out.alloc (.cells #[.int .u64 v0, .int .u64 v1] 60)).grownN hg7 (fun k hk a ha => by have := hrow.out k hk; have := hK23.out a ha; omega)); clear own7 hg7 hat7 hrow)
          clear hi0 hz00 hz01 hz02 hle hlt y00 y01 yf0 y10 y11 yf1
          go_roundw
          case rel =>
            have hs7 := HG7.out.size
            refine ⟨j + 1, m + 1, cg', p, cb, G', B, K2, by omega, by go_num, rfl, rfl, ?_, ?_, fun h => absurd h (by omega), hK21.out, by have := hK22.out; simp at hs7; omega, fun _ => hK23.out, HBr.out.trans hb7.out⟩
            · have := OWN7.out
              rwa [show (xs.take j).drop K0 ++ [(v0, v1)] = (xs.take (j + 1)).drop K0 by
                rw [HTK.out, List.drop_append_of_le_length (by rw [List.length_take]; have := hl.out; omega)]] at this
            · have := HW7.out
              rwa [show min j K0 = min (j + 1) K0 by omega] at this
          case measure => simp [intOf]; omega
        · skip
          obtain ⟨y00, y01, yf0⟩ := PQ.out.cells2
          obtain ⟨y10, y11, yf1⟩ := PC.out.cells2
          go_wp2_with (at_builtin; refine wpList_appm 2 encC (0, 0) _ rfl _ _ 56 rfl K2 60 i0' _ 16 Tryz.underlying56 hi0 hz00 hz01 hz02 rfl (by omega) G m cg _ rfl (hO2.out.alloc _) 0 (W1.alloc (.cells #[.int .u64 v0, .int .u64 v1] 60)).heap.size _ 1 _ [(v0, v1)] rfl (Sm.one (v0, v1) rfl HC2.out) encC_one (by simp only [maxLen]; omega) (by omega) (by have := hK22.out; simp; omega) ?_; intro G' cg' w7 own7 hg7 hat7; have hrow := hid hO2.out.row_ge; have hb7 := hid (((Below.refl W0.heap.size W1).alloc (by have := hs0.out; have := hz1.out; omega) (.cells #[.int .u64 v0, .int .u64 v1] 60)).grown hg7 (by have := hs0.out; have := hz1.out; simp; omega) (fun r e => Nat.le_trans hK21.out (hrow.out r e))); have OWN7 := hid own7; have HG7 := hid hg7; have HW7 := hid ((HW.out.alloc (.cells #[.int .u64 v0, .int .u64 v1] 60)).grownN hg7 (fun k hk a ha => by have := hrow.out k hk; have := hK23.out a ha; omega)); clear own7 hg7 hat7 hrow)
          clear hi0 hz00 hz01 hz02 hle y00 y01 yf0 y10 y11 yf1
          go_roundw
          case rel =>
            have hs7 := HG7.out.size
            refine ⟨j + 1, m + 1, cg', p, cb, G', B, K2, by omega, by go_num, rfl, rfl, ?_, ?_, fun h => absurd h (by omega), hK21.out, by have := hK22.out; simp at hs7; omega, fun _ => hK23.out, HBr.out.trans hb7.out⟩
            · have := OWN7.out
              rwa [show (xs.take j).drop K0 ++ [(v0, v1)] = (xs.take (j + 1)).drop K0 by
                rw [HTK.out, List.drop_append_of_le_length (by rw [List.length_take]; have := hl.out; omega)]] at this
            · have := HW7.out
              rwa [show min j K0 = min (j + 1) K0 by omega] at this
          case measure => simp [intOf]; omega
    · obtain rfl : j = n := by omega
      obtain ⟨u0, u1, uf⟩ := PQ.out.cells2
      obtain ⟨v0, v1, vf⟩ := (PQ.out.setCell 0 (.slice G m cg)).cells2
      obtain ⟨z0, z1, zf⟩ := PZ.out.cells2
      obtain ⟨q0, q1, qf⟩ := (((PZ.out.far (p := ⟨w.heap.size, 0, none⟩) (by simp) (.slice G m cg)).setCell 0 (.slice G m cg)).setCell 1 (.int .u64 o)).cells2
      go_wp2_with fail
      refine bodyPost_ret (v := .tuple #[qv G m cg o, .slice B p cb]) (by simp [results, Tryz.results38, go_sem, q0, q1]) rfl ?_
      rw [HE.out]
      have hz0' := hz0.out
      have hk1' := hk1.out
      refine ⟨G, m, cg, B, p, cb, rfl, ?_, ?_, ?_, HO.out.cap.1⟩
      · have o2 := HO.out
        rw [List.take_of_length_le (by rw [hl.out]; exact Nat.le_refl _)] at o2
        exact ((((Qown.ofOm o2).setCell (p := ⟨w.heap.size, 0, none⟩) (by show w.heap.size < K; omega) _).setCell (p := ⟨w.heap.size + 1, 0, none⟩) (by show w.heap.size + 1 < K; omega) _).setCell (p := ⟨w.heap.size + 1, 1, none⟩) (by show w.heap.size + 1 < K; omega) _).mono (by omega)
      · have o2 := HW.out
        rw [Nat.min_eq_right hkn.out] at o2
        exact (((o2.setCell (p := ⟨w.heap.size, 0, none⟩) (by show w.heap.size < _; omega) _).setCell (p := ⟨w.heap.size + 1, 0, none⟩) (by show w.heap.size + 1 < _; omega) _).setCell (p := ⟨w.heap.size + 1, 1, none⟩) (by show w.heap.size + 1 < _; omega) _).mono (by omega)
      · exact ((HB.out.setCell (Nat.le_refl _) _).setCell (by simp) _).setCell (by simp) _
end Go.Proofs.YtfipdoofgbjbjaaGreat

/- afterglowref14: Quiet, Waiting, Idle. No condition but sizes, and that numbers are of their kinds. -/
namespace Go.Proofs.YtfipdoofgbjbjaaGreat
open Go.RowKit
attribute [local go_sem] Oper.semAt_some
def quietR (s : St) : Bool := s.2.1.all fun n => decide (n ≤ 0)
def idleR (s : St) (g : Gr) (qs : Qs) : Bool := quietR s && (decide (wN qs = 0) && (!g.on && decide (g.ak = g.dn)))
end Go.Proofs.YtfipdoofgbjbjaaGreat

/- afterglowref14: Step, a run. No condition but sizes. -/
namespace Go.Proofs.YtfipdoofgbjbjaaGreat
open Go.RowKit
attribute [local go_sem] Oper.semAt_some
def zSt : St := (0, [], [])
def zRa : Ra := ⟨none, 0, 0, none, 0, 0, none, 0, none, 0, 0⟩
theorem RcP.zero (p : Nat → Prop) (w : World) : RcP p w zSt zGr [] zRa := fun w' _ =>
  ⟨⟨Sl.nil _ _ _ _, Sl.nil _ _ _ _, Nat.le_refl _, Nat.le_refl _, by show 0 ≤ 1000; omega, by show 0 ≤ 1000; omega⟩, Sl.nil _ _ _ _, by show 0 ≤ 1000; omega, ⟨by show (0 : Int) ≤ _; omega, by show (0 : Int) ≤ _; omega⟩, Sm.nil _ _ _ _, by show 0 ≤ 1000; omega, fun x hx => by cases hx⟩
/-- what Step hands back -/
def RS14 (p : Nat → Prop) (w : World) (s : St) (g : Gr) (qs : Qs) (what : Int) (ran : Bool) (c : Int) (x : Ending) (w' : World) : Prop :=
  ∃ a es, x = .returned (.tuple #[rcv s g a, .int .u64 what, .bool ran, .int .i64 c]) ∧ ql es = qs ∧ a.nq = es.length ∧ RcP p w' s g es a ∧ Below w.heap.size w w'
/-- what a run hands back -/
def RunP (p : Nat → Prop) (w : World) (s : St) (g : Gr) (qs : Qs) (cp : Nat) (x : Ending) (w' : World) : Prop :=
  if 0 < drN qs cp then RS14 p w s g (drQ qs cp 1) ((drR qs cp 1)[0]?.getD 0) true 0 x w' else RS14 p w zSt zGr [] 0 false 4 x w'
theorem RunP.yes {p : Nat → Prop} {w : World} {s : St} {g : Gr} {qs : Qs} {cp : Nat} {x : Ending} {w' : World} (h : 0 < drN qs cp) (k : RS14 p w s g (drQ qs cp 1) ((drR qs cp 1)[0]?.getD 0) true 0 x w') : RunP p w s g qs cp x w' := by unfold RunP; rw [if_pos h]; exact k
theorem RunP.no {p : Nat → Prop} {w : World} {s : St} {g : Gr} {qs : Qs} {cp : Nat} {x : Ending} {w' : World} (h : ¬ 0 < drN qs cp) (k : RS14 p w zSt zGr [] 0 false 4 x w') : RunP p w s g qs cp x w' := by unfold RunP; rw [if_neg h]; exact k
theorem Qown.forP {w : World} {lo n : Nat} {A : Option Addr} {xs : List Cb} {p : Nat → Prop} (h : Qown w lo A n xs) (hp : ∀ i, p i → i < lo) : ∀ w', GrownP p w w' → Sm 2 encC (0, 0) w' 0 w'.heap.size A n xs := fun w' k =>
  (h.keptP k (fun hn a ha hq => by
    obtain ⟨b, off, e, h1, _, _⟩ := h.sm.row hn
    rw [e] at ha; cases ha
    have := hp _ hq
    dsimp only at this
    omega)).sm.mono (Nat.zero_le _) (Nat.le_refl _)
set_option maxRecDepth 100000 in
set_option maxHeartbeats 8000000 in
theorem rstep14_run (p : Nat → Prop) (s : St) (g : Gr) (es : List Qe) (a : Ra) (cp : Nat) (what : Int) (w : World) (h : RcP p w s g es a) (hp : ∀ i, p i → i < w.heap.size) (hcp : cp < es.length) (hnq : a.nq = es.length) (hq : QGood (qAt (ql es) cp).2 (qAt (ql es) cp).1) :
    Calls Tryz.prog 11 #[rcv s g a, .agg #[.int .i64 5, .int .i64 cp, .int .u64 what]] w (RunP p w s g (ql es) cp) := by
  have HB := hid (Below.refl w.heap.size w); have HR := hid h.fresh; have HP := hid hp; have HC := hid hcp; have HNQ := hid hnq
  have HLQ := hid h.rcr.ql
  obtain ⟨x, hx⟩ : ∃ x, x = es[cp]?.getD zQe := ⟨_, rfl⟩
  have hxm : x ∈ es := by rw [hx, List.getElem?_eq_getElem hcp]; exact List.getElem_mem _
  have hqa : qAt (ql es) cp = (x.l, x.o) := by rw [hx]; unfold qAt ql; rw [List.getElem?_map, List.getElem?_eq_getElem hcp]; rfl
  have HX := hid (h.q_mem hxm).fresh
  have HQA := hid hqa
  rw [hqa] at hq
  have HQ0 := hid hq; have HXE := hid hx
  obtain ⟨xl, xo, xA, xn, xc⟩ := x
  have HCN := hid (show cp < a.nq by omega)
  obtain ⟨K, hK⟩ : ∃ K, K = min (doneN xo xl) (1 : Int).toNat := ⟨_, rfl⟩
  have HK := hid hK
  clear h hp hcp hnq hq hqa hxm hx hK
  have bx := below_box w (.cells (rcells s g a) 30)
  replace HR := hid (HR.out.step bx); replace HX := hid (HX.out.step bx); replace HB := hid (below_then HB.out bx)
  clear bx
  have P := hid (Blk.new w 30 (rcells s g a))
  have bx := below_box (w.alloc (.cells (rcells s g a) 30)) (.cells #[.int .i64 5, .int .i64 cp, .int .u64 what] 37)
  replace HR := hid (HR.out.step bx); replace HX := hid (HX.out.step bx); replace P := hid (P.out.step bx); replace HB := hid (below_then HB.out bx)
  clear bx
  have PO := hid (Blk.new2 w 37 #[.int .i64 5, .int .i64 cp, .int .u64 what] (.cells (rcells s g a) 30))
  have bx := below_box ((w.alloc (.cells (rcells s g a) 30)).alloc (.cells #[.int .i64 5, .int .i64 cp, .int .u64 what] 37)) (.cells #[.int .i64 0, .slice none 0 0, .slice none 0 0, .int .i64 0, .int .i64 0, .bool false, .slice none 0 0, .slice none 0 0] 30)
  replace HR := hid (HR.out.step bx); replace HX := hid (HX.out.step bx); replace P := hid (P.out.step bx); replace PO := hid (PO.out.step bx); replace HB := hid (below_then HB.out bx)
  clear bx
  have PZ := hid (Blk.new3 w 30 #[.int .i64 0, .slice none 0 0, .slice none 0 0, .int .i64 0, .int .i64 0, .bool false, .slice none 0 0, .slice none 0 0] (.cells (rcells s g a) 30) (.cells #[.int .i64 5, .int .i64 cp, .int .u64 what] 37))
  go_enter Tryz.func11, Tryz.ntmps11
  obtain ⟨y00, y01, y02, y03, y04, y05, y06, y07, yf0⟩ := P.out.cells8
  obtain ⟨y10, y11, y12, yf1⟩ := PO.out.cells3
  obtain ⟨y20, y21, y22, y23, y24, y25, y26, y27, yf2⟩ := PZ.out.cells8
  go_upto_region 1 with fail
  clear y00 y01 y02 y03 y04 y05 y06 y07 yf0 y20 y21 y22 y23 y24 y25 y26 y27 yf2 y10 y11 y12 yf1
  have hz0 := hid (show (((w.alloc (.cells (rcells s g a) 30)).alloc (.cells #[.int .i64 5, .int .i64 cp, .int .u64 what] 37)).alloc (.cells #[.int .i64 0, .slice none 0 0, .slice none 0 0, .int .i64 0, .int .i64 0, .bool false, .slice none 0 0, .slice none 0 0] 30)).heap.size = w.heap.size + 3 by simp)
  generalize ((w.alloc (.cells (rcells s g a) 30)).alloc (.cells #[.int .i64 5, .int .i64 cp, .int .u64 what] 37)).alloc (.cells #[.int .i64 0, .slice none 0 0, .slice none 0 0, .int .i64 0, .int .i64 0, .bool false, .slice none 0 0, .slice none 0 0] 30) = W0 at *
  obtain ⟨b, off, hQ, _, hbh, hc⟩ := HR.out.rcr.qs.row (by have := HCN.out; omega)
  have f0 := hc cp HCN.out 0 (by omega)
  have f1 := hc cp HCN.out 1 (by omega)
  rw [← HXE.out] at f0 f1
  replace f0 : W0.cell? ⟨b, off + cp * 2, none⟩ = some (.slice xA xn xc) := f0
  replace f1 : W0.cell? ⟨b, off + cp * 2 + 1, none⟩ = some (.int .u64 xo) := f1
  clear hc hbh
  have hci : (cp : Int) < (a.nq : Int) := by have := HCN.out; omega
  have hci2 : ¬ ((a.nq : Int) ≤ (cp : Int)) := by omega
  have hci3 : ¬ ((cp : Int) < 0) := by omega
  have P0 := hid (show Blk W0 w.heap.size 30 #[.int .i64 s.1, .slice a.A a.n a.k, .slice a.B a.m a.d, .int .i64 g.dn, .int .i64 g.ak, .bool g.on, .slice a.D g.nd.length a.kd, .slice (some ⟨b, off, none⟩) a.nq a.kq] by have h := P.out; unfold rcells at h; rw [hQ] at h; exact h)
  obtain ⟨y00, y01, y02, y03, y04, y05, y06, y07, yf0⟩ := P0.out.cells8
  obtain ⟨y10, y11, y12, yf1⟩ := PO.out.cells3
  go_wp2_with fail
  clear y10 y11 y12 yf1 f0 f1 hci hci2 hci3 P0 y00 y01 y02 y03 y04 y05 y06 y07 yf0
  have HE := hid (show drainF xo xl 1 = (xo, xl.drop K, (xl.take K).map (·.2), 0) by rw [drainF, if_neg (not_not_intro HQ0.out), if_neg (by omega), ← HK.out])
  obtain ⟨x1, x2, x3, x4⟩ := HX.out W0 (.refl _ _)
  dsimp only at x1 x3 x4
  have HXM := hid x3; have HXO := hid x4; have HXL := hid x1.len; have hxm : xn ≤ 1000 := x3
  refine (show Calls Tryz.prog 38 #[qv xA xn xc xo, .int .i64 1] W0 (RdPost W0 (xo, xl.drop K, (xl.take K).map (·.2), 0)) from HE.out ▸ qrdrain_any xA xn xc xo xl 1 W0 x1 (by omega) (by omega) HQ0.out).mono ?_
  clear HE x1 x2 x3 x4 hxm HQ0
  rintro e w1 ⟨A2, n2, c2, B2, m2, d2, rfl, hq2, hout, hb, hn2⟩
  dsimp only at hq2 hout ⊢
  have HO := hid hq2; have HU := hid hout; have HN2 := hid hn2
  clear hq2 hout hn2 hQ HX
  replace HR := hid (HR.out.step hb); replace P := hid (P.out.step hb); replace PO := hid (PO.out.step hb); replace PZ := hid (PZ.out.step hb); replace HB := hid (below_then HB.out hb)
  have HS1 := hid (show w.heap.size + 3 ≤ W0.heap.size by have := hz0.out; omega); have HS2 := hid hb.size
  have HK1 := hid (show K ≤ 1 by rw [HK.out]; exact Nat.min_le_right _ _); have HKL := hid (show K ≤ xl.length by rw [HK.out]; exact Nat.le_trans (Nat.min_le_left _ _) (doneN_le _ _))
  have HM2 := hid (show m2 = K by have := HU.out.len; rw [List.length_map, List.length_take] at this; have := HKL.out; omega)
  clear hb hz0
  have bx := below_box w1 (.cells #[.slice A2 n2 c2, .int .u64 xo] 58)
  replace HR := hid (HR.out.step bx); replace P := hid (P.out.step bx); replace PO := hid (PO.out.step bx); replace PZ := hid (PZ.out.step bx); replace HO := hid (HO.out.step bx); replace HU := hid (HU.out.step bx); replace HB := hid (below_then HB.out bx)
  clear bx
  have PT := hid (Blk.new w1 58 #[.slice A2 n2 c2, .int .u64 xo])
  rcases Nat.lt_or_ge 0 K with hk | hk
  rotate_left
  ·skip
   obtain rfl : K = 0 := by omega
   obtain rfl := HM2.out
   obtain ⟨y00, y01, y02, y03, y04, y05, y06, y07, yf0⟩ := PZ.out.cells8
   go_wp2_with fail
   clear y00 y01 y02 y03 y04 y05 y06 y07 yf0
   generalize w1.alloc (.cells #[.slice A2 n2 c2, .int .u64 xo] 58) = W2 at *
   have hbk0 : Blk (W2.setCell ⟨w.heap.size + 1 + 1, 0, none⟩ (.int .i64 0)) (w.heap.size + 1 + 1) 30 #[.int .i64 0, .slice none 0 0, .slice none 0 0, .int .i64 0, .int .i64 0, .bool false, .slice none 0 0, .slice none 0 0] := PZ.out.setCell 0 (.int .i64 0)
   have hbk1 : Blk ((W2.setCell ⟨w.heap.size + 1 + 1, 0, none⟩ (.int .i64 0)).setCell ⟨w.heap.size + 1 + 1, 1, none⟩ (.slice none 0 0)) (w.heap.size + 1 + 1) 30 #[.int .i64 0, .slice none 0 0, .slice none 0 0, .int .i64 0, .int .i64 0, .bool false, .slice none 0 0, .slice none 0 0] := hbk0.setCell 1 (.slice none 0 0)
   have hbk2 : Blk (((W2.setCell ⟨w.heap.size + 1 + 1, 0, none⟩ (.int .i64 0)).setCell ⟨w.heap.size + 1 + 1, 1, none⟩ (.slice none 0 0)).setCell ⟨w.heap.size + 1 + 1, 2, none⟩ (.slice none 0 0)) (w.heap.size + 1 + 1) 30 #[.int .i64 0, .slice none 0 0, .slice none 0 0, .int .i64 0, .int .i64 0, .bool false, .slice none 0 0, .slice none 0 0] := hbk1.setCell 2 (.slice none 0 0)
   have hbk3 : Blk ((((W2.setCell ⟨w.heap.size + 1 + 1, 0, none⟩ (.int .i64 0)).setCell ⟨w.heap.size + 1 + 1, 1, none⟩ (.slice none 0 0)).setCell ⟨w.heap.size + 1 + 1, 2, none⟩ (.slice none 0 0)).setCell ⟨w.heap.size + 1 + 1, 3, none⟩ (.int .i64 0)) (w.heap.size + 1 + 1) 30 #[.int .i64 0, .slice none 0 0, .slice none 0 0, .int .i64 0, .int .i64 0, .bool false, .slice none 0 0, .slice none 0 0] := hbk2.setCell 3 (.int .i64 0)
   have hbk4 : Blk (((((W2.setCell ⟨w.heap.size + 1 + 1, 0, none⟩ (.int .i64 0)).setCell ⟨w.heap.size + 1 + 1, 1, none⟩ (.slice none 0 0)).setCell ⟨w.heap.size + 1 + 1, 2, none⟩ (.slice none 0 0)).setCell ⟨w.heap.size + 1 + 1, 3, none⟩ (.int .i64 0)).setCell ⟨w.heap.size + 1 + 1, 4, none⟩ (.int .i64 0)) (w.heap.size + 1 + 1) 30 #[.int .i64 0, .slice none 0 0, .slice none 0 0, .int .i64 0, .int .i64 0, .bool false, .slice none 0 0, .slice none 0 0] := hbk3.setCell 4 (.int .i64 0)
   have hbk5 : Blk ((((((W2.setCell ⟨w.heap.size + 1 + 1, 0, none⟩ (.int .i64 0)).setCell ⟨w.heap.size + 1 + 1, 1, none⟩ (.slice none 0 0)).setCell ⟨w.heap.size + 1 + 1, 2, none⟩ (.slice none 0 0)).setCell ⟨w.heap.size + 1 + 1, 3, none⟩ (.int .i64 0)).setCell ⟨w.heap.size + 1 + 1, 4, none⟩ (.int .i64 0)).setCell ⟨w.heap.size + 1 + 1, 5, none⟩ (.bool false)) (w.heap.size + 1 + 1) 30 #[.int .i64 0, .slice none 0 0, .slice none 0 0, .int .i64 0, .int .i64 0, .bool false, .slice none 0 0, .slice none 0 0] := hbk4.setCell 5 (.bool false)
   have hbk6 : Blk (((((((W2.setCell ⟨w.heap.size + 1 + 1, 0, none⟩ (.int .i64 0)).setCell ⟨w.heap.size + 1 + 1, 1, none⟩ (.slice none 0 0)).setCell ⟨w.heap.size + 1 + 1, 2, none⟩ (.slice none 0 0)).setCell ⟨w.heap.size + 1 + 1, 3, none⟩ (.int .i64 0)).setCell ⟨w.heap.size + 1 + 1, 4, none⟩ (.int .i64 0)).setCell ⟨w.heap.size + 1 + 1, 5, none⟩ (.bool false)).setCell ⟨w.heap.size + 1 + 1, 6, none⟩ (.slice none 0 0)) (w.heap.size + 1 + 1) 30 #[.int .i64 0, .slice none 0 0, .slice none 0 0, .int .i64 0, .int .i64 0, .bool false, .slice none 0 0, .slice none 0 0] := hbk5.setCell 6 (.slice none 0 0)
   have hbk7 : Blk ((((((((W2.setCell ⟨w.heap.size + 1 + 1, 0, none⟩ (.int .i64 0)).setCell ⟨w.heap.size + 1 + 1, 1, none⟩ (.slice none 0 0)).setCell ⟨w.heap.size + 1 + 1, 2, none⟩ (.slice none 0 0)).setCell ⟨w.heap.size + 1 + 1, 3, none⟩ (.int .i64 0)).setCell ⟨w.heap.size + 1 + 1, 4, none⟩ (.int .i64 0)).setCell ⟨w.heap.size + 1 + 1, 5, none⟩ (.bool false)).setCell ⟨w.heap.size + 1 + 1, 6, none⟩ (.slice none 0 0)).setCell ⟨w.heap.size + 1 + 1, 7, none⟩ (.slice none 0 0)) (w.heap.size + 1 + 1) 30 #[.int .i64 0, .slice none 0 0, .slice none 0 0, .int .i64 0, .int .i64 0, .bool false, .slice none 0 0, .slice none 0 0] := hbk6.setCell 7 (.slice none 0 0)
   have hgr : W2.grownBy ((((((((W2.setCell ⟨w.heap.size + 1 + 1, 0, none⟩ (.int .i64 0)).setCell ⟨w.heap.size + 1 + 1, 1, none⟩ (.slice none 0 0)).setCell ⟨w.heap.size + 1 + 1, 2, none⟩ (.slice none 0 0)).setCell ⟨w.heap.size + 1 + 1, 3, none⟩ (.int .i64 0)).setCell ⟨w.heap.size + 1 + 1, 4, none⟩ (.int .i64 0)).setCell ⟨w.heap.size + 1 + 1, 5, none⟩ (.bool false)).setCell ⟨w.heap.size + 1 + 1, 6, none⟩ (.slice none 0 0)).setCell ⟨w.heap.size + 1 + 1, 7, none⟩ (.slice none 0 0)) (some (w.heap.size + 1 + 1)) := (grown_set (grown_set (grown_set (grown_set (grown_set (grown_set (grown_set (grown_set (World.grownBy.refl W2 (some (w.heap.size + 1 + 1))) 0 (.int .i64 0)) 1 (.slice none 0 0)) 2 (.slice none 0 0)) 3 (.int .i64 0)) 4 (.int .i64 0)) 5 (.bool false)) 6 (.slice none 0 0)) 7 (.slice none 0 0))
   replace PZ := hid hbk7
   clear hbk0 hbk1 hbk2 hbk3 hbk4 hbk5 hbk6 hbk7
   generalize (((((((W2.setCell ⟨w.heap.size + 1 + 1, 0, none⟩ (.int .i64 0)).setCell ⟨w.heap.size + 1 + 1, 1, none⟩ (.slice none 0 0)).setCell ⟨w.heap.size + 1 + 1, 2, none⟩ (.slice none 0 0)).setCell ⟨w.heap.size + 1 + 1, 3, none⟩ (.int .i64 0)).setCell ⟨w.heap.size + 1 + 1, 4, none⟩ (.int .i64 0)).setCell ⟨w.heap.size + 1 + 1, 5, none⟩ (.bool false)).setCell ⟨w.heap.size + 1 + 1, 6, none⟩ (.slice none 0 0)).setCell ⟨w.heap.size + 1 + 1, 7, none⟩ (.slice none 0 0) = W3 at *
   replace HB := hid (HB.out.grown hgr HB.out.size (fun r e => by cases e; omega))
   clear hgr
   obtain ⟨q0, q1, q2, q3, q4, q5, q6, q7, qf⟩ := PZ.out.cells8
   have HNO := hid (show ¬ 0 < drN (ql es) cp by unfold drN; rw [HQA.out]; dsimp only; have := HK.out; have h1 : Int.toNat 1 = 1 := rfl; omega)
   refine bodyPost_ret (v := .tuple #[rcv zSt zGr zRa, .int .u64 0, .bool false, .int .i64 4]) (by simp [results, Tryz.results11, go_sem, q0, q1, q2, q3, q4, q5, q6, q7, zSt, zGr, zRa]) rfl (RunP.no HNO.out ⟨zRa, [], rfl, rfl, rfl, RcP.zero _ _, HB.out⟩)
  ·skip
   obtain rfl : K = 1 := by have := HK1.out; omega
   obtain rfl := HM2.out
   go_upto_region 15 with fail
   have HS3 := hid (show (w1.alloc (.cells #[.slice A2 n2 c2, .int .u64 xo] 58)).heap.size = w1.heap.size + 1 by simp)
   generalize w1.alloc (.cells #[.slice A2 n2 c2, .int .u64 xo] 58) = W2 at *
   obtain ⟨p3, hp3⟩ : ∃ p3 : Nat → Prop, p3 = fun i => p i ∨ (w.heap.size ≤ i ∧ i < w.heap.size + 3) := ⟨_, rfl⟩
   have HP3 := hid (show ∀ i, w.heap.size ≤ i → i < w.heap.size + 3 → p3 i by rw [hp3]; exact fun i h1 h2 => .inr ⟨h1, h2⟩)
   have HPP := hid (show ∀ i, p i → p3 i by rw [hp3]; exact fun i h1 => .inl h1)
   have HLT := hid (show ∀ i, p3 i → i < W0.heap.size by rw [hp3]; exact fun i hi => by have := HS1.out; rcases hi with hi | hi; have := HP.out i hi; omega; omega)
   replace HR := hid (HR.out.mono (q := p3) (fun i hi => by rw [hp3] at hi; exact hi.elim .inl (fun h => .inr h.1)))
   have HX := hid (show QeP p3 W2 ⟨xl.drop 1, xo, A2, n2, c2⟩ from fun w' k => ⟨HO.out.forP HLT.out w' k, HN2.out, by have h1 := HO.out.sm.len; have h2 := HXL.out; have h3 := HXM.out; rw [List.length_drop] at h1; dsimp only at h2 h3 ⊢; omega, HXO.out⟩)
   have HG := hid (GrownP.refl p3 W2)
   clear hp3 HXM HXL HXO HN2 HO
   obtain ⟨y, hy⟩ : ∃ y, y = ((xl.take 1).map (·.2))[0]?.getD 0 := ⟨_, rfl⟩
   obtain ⟨b3, o3, hB3, _, _, hc3⟩ := ((HU.out.forP (d := 0) HLT.out) W2 (.refl _ _)).row (by omega)
   have HROW := hid (show ∀ W', GrownP p3 W2 W' → W'.cell? ⟨b3, o3, none⟩ = some (.int .u64 y) from fun W' k => by
     obtain ⟨b4, o4, hB4, _, _, hc4⟩ := ((HU.out.forP (d := 0) HLT.out) W' k).row (by omega)
     rw [hB3] at hB4; cases hB4
     have := hc4 0 (by omega); rw [← hy] at this; exact this)
   have HY := hid hy
   clear hc3 hy HU
   subst hB3
   have bx := (Below.refl W2.heap.size W2).drew
   replace HR := hid (HR.out.step bx); replace HX := hid (HX.out.step bx); replace HG := hid (HG.out.step bx); replace P := hid (P.out.step bx); replace PO := hid (PO.out.step bx); replace PT := hid (PT.out.step bx); replace PZ := hid (PZ.out.step bx); replace HB := hid (below_then HB.out bx)
   clear bx
   have hszd := hid (show W2.drew.heap.size = W2.heap.size from rfl)
   refine wp_region_noPanic ?_
   refine wp_region_held_drew (S := (fun W' : World => W'.cell? ⟨w.heap.size, 0, none⟩ = some (.int .i64 s.1) ∧ W'.cell? ⟨w.heap.size, 1, none⟩ = some (.slice a.A a.n a.k) ∧ W'.cell? ⟨w.heap.size, 2, none⟩ = some (.slice a.B a.m a.d) ∧ W'.cell? ⟨w.heap.size, 3, none⟩ = some (.int .i64 g.dn) ∧ W'.cell? ⟨w.heap.size, 4, none⟩ = some (.int .i64 g.ak) ∧ W'.cell? ⟨w.heap.size, 5, none⟩ = some (.bool g.on) ∧ W'.cell? ⟨w.heap.size, 6, none⟩ = some (.slice a.D g.nd.length a.kd) ∧ W'.cell? ⟨w.heap.size, 7, none⟩ = some (.slice a.Q a.nq a.kq) ∧ W'.cell? ⟨w.heap.size + 1, 0, none⟩ = some (.int .i64 5) ∧ W'.cell? ⟨w.heap.size + 1, 1, none⟩ = some (.int .i64 cp) ∧ W'.cell? ⟨w1.heap.size, 0, none⟩ = some (.slice A2 n2 c2) ∧ W'.cell? ⟨w1.heap.size, 1, none⟩ = some (.int .u64 xo) ∧ W'.cell? ⟨b3, o3, none⟩ = some (.int .u64 y))) (by kernel_rfl) ⟨P.out.cells8.1, P.out.cells8.2.1, P.out.cells8.2.2.1, P.out.cells8.2.2.2.1, P.out.cells8.2.2.2.2.1, P.out.cells8.2.2.2.2.2.1, P.out.cells8.2.2.2.2.2.2.1, P.out.cells8.2.2.2.2.2.2.2.1, PO.out.cells3.1, PO.out.cells3.2.1, PT.out.cells2.1, PT.out.cells2.2.1, (HROW.out _ HG.out)⟩ (fun hS => ?_)
   generalize W2.drew = Wd at *
   refine tk 0 hS ?_
   refine tk 1 hS ?_
   refine tk 2 hS ?_
   refine tk 3 hS ?_
   refine tk 5 hS ?_
   refine tk 6 hS ?_
   refine tk 7 hS ?_
   refine rdy [4] (csy (fun K hK => ?_) AllReadyH.nil)
   go_simp
   refine (rwith14_any p3 s g es a cp ⟨xl.drop 1, xo, A2, n2, c2⟩ _ HR.out (fun i hi => by have := HLT.out i hi; have := HS2.out; have := HS3.out; have := hszd.out; omega) HX.out HC.out HNQ.out).mono ?_
   rintro e w4 ⟨a2, es2, rfl, hqs, hnq, hR, hb⟩
   have hsz0 := hid (show Wd.heap.size ≤ w4.heap.size from hb.size)
   replace HR := hid (HR.out.step hb); replace HX := hid (HX.out.step hb); replace HG := hid (HG.out.step hb); replace P := hid (P.out.step hb); replace PO := hid (PO.out.step hb); replace PT := hid (PT.out.step hb); replace PZ := hid (PZ.out.step hb); replace HB := hid (below_then HB.out hb)
   clear hb
   have HR3 := hid hR; have HQS := hid hqs; have HN3 := hid hnq
   clear hR hqs hnq
   go_wp2_with fail
   clear hS
   refine ky hK ⟨P.out.cells8.1, P.out.cells8.2.1, P.out.cells8.2.2.1, P.out.cells8.2.2.2.1, P.out.cells8.2.2.2.2.1, P.out.cells8.2.2.2.2.2.1, P.out.cells8.2.2.2.2.2.2.1, P.out.cells8.2.2.2.2.2.2.2.1, PO.out.cells3.1, PO.out.cells3.2.1, PT.out.cells2.1, PT.out.cells2.2.1, (HROW.out _ HG.out)⟩ fun hS => ?_
   clear hK K
   refine rdy [8] (csy (fun K hK => ?_) AllReadyH.nil)
   obtain ⟨y00, y01, y02, y03, y04, y05, y06, y07, yf0⟩ := PZ.out.cells8
   go_simp
   clear y00 y01 y02 y03 y04 y05 y06 y07 yf0
   refine named_store_8_8_0 PZ.out ?_
   intro Ws8 hbk hgr hsz
   have hsz1 := hid hsz
   clear hsz
   replace P := hid (P.out.grown hgr (by simp <;> omega)); replace PO := hid (PO.out.grown hgr (by simp)); replace PT := hid (PT.out.grown hgr (by have := HS1.out; have := HS2.out; simp; omega))
   replace HR := hid (HR.out.turn hgr (HP3.out _ (by omega) (by omega))); replace HX := hid (HX.out.turn hgr (HP3.out _ (by omega) (by omega))); replace HR3 := hid (HR3.out.turn hgr (HP3.out _ (by omega) (by omega)))
   replace HG := hid (HG.out.trans (GrownP.ofGrown hgr (HP3.out _ (by omega) (by omega))))
   replace HB := hid (HB.out.grown hgr HB.out.size (fun r e => by cases e; omega))
   replace PZ := hid hbk
   clear hbk hgr
   clear hS
   refine ky hK ⟨P.out.cells8.1, P.out.cells8.2.1, P.out.cells8.2.2.1, P.out.cells8.2.2.2.1, P.out.cells8.2.2.2.2.1, P.out.cells8.2.2.2.2.2.1, P.out.cells8.2.2.2.2.2.2.1, P.out.cells8.2.2.2.2.2.2.2.1, PO.out.cells3.1, PO.out.cells3.2.1, PT.out.cells2.1, PT.out.cells2.2.1, (HROW.out _ HG.out)⟩ fun hS => ?_
   clear hK K
   refine tk 9 hS ?_
   refine tk 10 hS ?_
   refine tk 11 hS ?_
   refine wpAnyH_done (by kernel_rfl) ?_ _
   refine NoPanic.normal ?_
   clear hS
   go_wp2_with fail
   obtain ⟨q0, q1, q2, q3, q4, q5, q6, q7, qf⟩ := PZ.out.cells8
   have HYES := hid (show 0 < drN (ql es) cp by unfold drN; rw [HQA.out]; dsimp only; have := HK.out; have h1 : Int.toNat 1 = 1 := rfl; omega)
   have hyy : (drR (ql es) cp 1)[0]?.getD 0 = y := by unfold drR; rw [HQA.out]; exact HY.out.symm
   have hdq : drQ (ql es) cp 1 = (ql es).set cp (xl.drop 1, xo) := by unfold drQ; rw [HQA.out]
   refine bodyPost_ret (v := .tuple #[rcv s g a2, .int .u64 y, .bool true, .int .i64 0]) (by simp [results, Tryz.results11, go_sem, q0, q1, q2, q3, q4, q5, q6, q7]) rfl (RunP.yes HYES.out ⟨a2, es2, by rw [hyy], by rw [hdq]; exact HQS.out, HN3.out, HR3.out.mono HPP.out, HB.out⟩)
end Go.Proofs.YtfipdoofgbjbjaaGreat
