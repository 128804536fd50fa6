/- afterglowref13: Right, Same. No condition but sizes. -/
import Derived.Test.YtkdbmlddndgjjaaQu3
import Derived.BigQuiet
import Derived.Laws.StructEq
import Derived.ChangeKeysEq
namespace Go.Proofs.Ytkdbmlddndgjjaa
open Go.RowKit
theorem qup_last {l : List Cb} (h : QUp l) : ∀ k, k < l.length → perAt l k ≤ perAt l (l.length - 1) := by
  have : ∀ d k, k + d < l.length → perAt l k ≤ perAt l (k + d) := by
    intro d
    induction d with
    | zero => intro k _; exact Int.le_refl _
    | succ d ih =>
      intro k hk
      have h1 := ih k (by omega)
      have h2 := h (k + (d + 1)) hk (by omega)
      rw [show k + (d + 1) - 1 = k + d by omega] at h2
      omega
  intro k hk
  have := this (l.length - 1 - k) k (by omega)
  rwa [show k + (l.length - 1 - k) = l.length - 1 by omega] at this
theorem qsoon_last {l : List Cb} {o : Int} (h : QUp l) : QSoon o l ↔ (l.length = 0 ∨ perAt l (l.length - 1) ≤ o + 2) := by
  constructor
  · intro hs
    rcases Nat.eq_zero_or_pos l.length with h0 | h0
    · exact .inl h0
    · exact .inr (hs _ (by omega))
  · rintro (h0 | h0) k hk
    · omega
    · have := qup_last h k hk
      omega
set_option maxHeartbeats 2000000 in
theorem qright_any (A : Option Addr) (n c : Nat) (o : Int) (xs : List Cb) (w : World) (h : Sm 2 encC (0, 0) w 0 w.heap.size A n xs) (hn : n ≤ 1000000) (hnc : n ≤ c) (h0 : 0 ≤ o) :
    Calls Try.prog 9 #[qv A n c o] w fun e w' => e = .returned (.bool (decide (QGood o xs))) ∧ Below w.heap.size w w' := by
  have HR := hid h; have HB := hid (Below.refl w.heap.size w)
  have hl := hid h.len
  clear h
  have bx := below_box w (.cells (qcs A n c o) 25)
  replace HR := hid (HR.out.step bx); replace HB := hid (below_then HB.out bx)
  clear bx
  have PQ := hid (Blk.new w 25 (qcs A n c o))
  obtain ⟨y00, y01, yf0⟩ := PQ.out.cells2
  go_enter Try.func9, Try.ntmps9
  go_wp2_with fail
  clear y00 y01 yf0
  generalize w.alloc (.cells (qcs A n c o) 25) = W0 at *
  have HB0 := hid (Below.refl W0.heap.size W0)
  go_loopw [8] (fun i wr => ∃ j : Nat, j ≤ n ∧ i = .int .i64 j ∧ Below W0.heap.size W0 wr ∧ ∀ k, k < j → 1 ≤ k → perAt xs (k - 1) ≤ perAt xs k) (fun i _ => n - (intOf i).toNat)
  case atStart => exact ⟨0, Nat.zero_le _, rfl, HB0.out, fun k hk => absurd hk (Nat.not_lt_zero _)⟩
  case round =>
    obtain ⟨j, hj, rfl, hbr, hall⟩ := hrel
    have HA := hid hall
    clear hall HB0
    replace HR := hid (HR.out.step hbr); replace PQ := hid (PQ.out.step hbr); replace HB := hid (below_then HB.out hbr)
    have HBr := hid hbr
    clear hbr
    by_cases hjn : j < n
    · obtain ⟨b, off, rfl, _, hbh, hc⟩ := HR.out.row (by omega)
      obtain ⟨f0, f1⟩ := Sm.cb (lo := 0) (hi := wr.heap.size) hc hjn
      obtain ⟨x, hx⟩ : ∃ x, x = xs[j]?.getD (0, 0) := ⟨_, rfl⟩
      rw [← hx] at f0 f1
      have HX : Hid (perAt xs j = x.1) := hid (by rw [hx]; rfl)
      have hjc : (j : Int) < (n : Int) := by omega
      clear hx hc
      go_upto_region 4 with fail
      clear f0 f1
      have bx := below_box wr (.cells #[.int .u64 x.1, .int .u64 x.2] 53)
      replace HR := hid (HR.out.step bx); replace PQ := hid (PQ.out.step bx); replace HB := hid (below_then HB.out bx); replace HBr := hid (below_then HBr.out bx)
      clear bx
      have PC := hid (Blk.new wr 53 #[.int .u64 x.1, .int .u64 x.2])
      generalize wr.alloc (.cells #[.int .u64 x.1, .int .u64 x.2] 53) = W1 at *
      obtain ⟨y0, y1, yf⟩ := PQ.out.cells2
      obtain ⟨z0, z1, zf⟩ := PC.out.cells2
      rcases Nat.eq_zero_or_pos j with hj0 | hj0
      · have hj0i : (j : Int) = 0 := by omega
        go_quiet (fail)
        clear y0 y1 yf z0 z1 zf
        go_wp2
        clear hj0i
        go_roundw
        case rel => exact ⟨j + 1, by omega, by go_num, below_drewN HBr.out _, fun k hk h1 => by omega⟩
        case measure => simp [intOf]; omega
      · have hj0i : (0 : Int) < (j : Int) := by omega
        obtain ⟨q, hq⟩ : ∃ q : Nat, j = q + 1 := ⟨j - 1, by omega⟩
        have hw3 : IntKind.i64.wrap ((j : Int) - 1) = (q : Int) := by rw [IntKind.wrap_i64]; omega
        have hqn : (q : Int) < (n : Int) := by omega
        obtain ⟨b', off', hA', _, hbh', hc⟩ := HR.out.row (by omega)
        cases hA'
        obtain ⟨f0, f1⟩ := Sm.cb (lo := 0) (hi := W1.heap.size) hc (show q < n by omega)
        obtain ⟨y, hy⟩ : ∃ y, y = xs[q]?.getD (0, 0) := ⟨_, rfl⟩
        rw [← hy] at f0 f1
        have HY : Hid (perAt xs q = y.1) := hid (by rw [hy]; rfl)
        have HQ := hid hq
        clear hy hc hq
        go_quiet (fail)
        clear y0 y1 yf z0 z1 zf f0 f1
        by_cases hgt : x.1 < y.1
        · have E := hid (show decide (QGood o xs) = false from decide_eq_false (fun h => by
            have := h.2.2.1 j (by rw [hl.out]; omega) (by omega)
            rw [show j - 1 = q by have := HQ.out; omega, HX.out, HY.out] at this
            omega))
          go_wp2
          go_ret
          exact ⟨ret_bool E.out.symm, below_drewN HB.out _⟩
        · go_wp2
          clear hj0i
          go_roundw
          case rel =>
            refine ⟨j + 1, by omega, by go_num, below_drewN HBr.out _, fun k hk h1 => ?_⟩
            by_cases hkj : k = j
            · subst hkj; rw [show k - 1 = q by have := HQ.out; omega, HX.out, HY.out]; omega
            · exact HA.out k (by omega) h1
          case measure => simp [intOf]; omega
    · obtain rfl : j = n := by omega
      have HU := hid (show QUp xs from fun k hk h1 => HA.out k (by rw [← hl.out]; exact hk) h1)
      have HS := hid (qsoon_last (o := o) HU.out)
      obtain ⟨y0, y1, yf⟩ := PQ.out.cells2
      by_cases h1 : 9223372036854775806 < o
      · have E := hid (show decide (QGood o xs) = false from decide_eq_false (fun h => by have := h.1; omega))
        go_wp2
        go_ret
        exact ⟨ret_bool E.out.symm, HB.out⟩
      · by_cases h2 : 16 < j
        · have h2i : (16 : Int) < (j : Int) := by omega
          have E := hid (show decide (QGood o xs) = false from decide_eq_false (fun h => by have := h.2.1; have := hl.out; omega))
          go_wp2
          go_ret
          exact ⟨ret_bool E.out.symm, HB.out⟩
        · have h2i : ¬ (16 : Int) < (j : Int) := by omega
          have hw2 : IntKind.u64.wrap (o + 2) = o + 2 := by rw [IntKind.wrap_u64]; omega
          rcases Nat.eq_zero_or_pos j with hj0 | hj0
          · have hj0i : (j : Int) = 0 := by omega
            have E := hid (show decide (QGood o xs) = true from decide_eq_true ⟨by omega, by have := hl.out; omega, HU.out, HS.out.2 (.inl (hl.out.trans hj0))⟩)
            go_wp2_with fail
            go_quiet (fail)
            go_wp2
            go_ret
            exact ⟨ret_bool E.out.symm, below_drewN HB.out _⟩
          · have hj0i : ((j : Int) == 0) = false := by simp; omega
            obtain ⟨q, hq⟩ : ∃ q : Nat, j = q + 1 := ⟨j - 1, by omega⟩
            have hw3 : IntKind.i64.wrap ((j : Int) - 1) = (q : Int) := by rw [IntKind.wrap_i64]; omega
            have hqn : (q : Int) < (j : Int) := by omega
            obtain ⟨b, off, rfl, _, hbh, hc⟩ := HR.out.row (by omega)
            obtain ⟨f0, f1⟩ := Sm.cb (lo := 0) (hi := wr.heap.size) hc (show q < j by omega)
            obtain ⟨y, hy⟩ : ∃ y, y = xs[q]?.getD (0, 0) := ⟨_, rfl⟩
            rw [← hy] at f0 f1
            have E := hid (show decide (QGood o xs) = decide (y.1 ≤ o + 2) from decide_eq_decide.2 ⟨fun h => by
                have := (h.2.2.2) q (by rw [hl.out]; omega)
                rw [show perAt xs q = y.1 by rw [hy]; rfl] at this
                exact this, fun h => ⟨by omega, by have := hl.out; omega, HU.out, HS.out.2 (.inr (by rw [hl.out, show j - 1 = q by omega, show perAt xs q = y.1 by rw [hy]; rfl]; exact h))⟩⟩)
            clear hy hc hq
            go_wp2_with fail
            go_quiet (fail)
            go_wp2
            go_ret
            exact ⟨ret_bool E.out.symm, below_drewN HB.out _⟩
theorem neq_cb (a b c d : Int) : ∀ W, (binOp .neq 53 (.agg #[.int .u64 a, .int .u64 b]) (.agg #[.int .u64 c, .int .u64 d])).run Try.prog W = .ok (.bool (decide (¬ (a, b) = (c, d)))) W := by
  intro W
  have u3 := Try.underlying23
  have a3 := Try.isAgg23
  have z3 := Try.sizeOf23
  have hS : Try.prog.underlying 53 = some (.struct (Try.prog.fieldsOf 53)) := by kernel_rfl
  have hp : Try.prog.stoodInHeld 53 = false := by kernel_rfl
  rw [run_neq_struct, show (10000 : Nat) = 9999 + 1 from rfl, run_equalIn_agg W 9999 53 _ _ hS hp]
  simp only [Program.fieldsOf, Try.underlying53]
  go_simp
  by_cases h1 : a = c <;> by_cases h2 : b = d <;> simp [h1, h2]
def sameQ (o : Int) (xs : List Cb) (o' : Int) (ys : List Cb) : Bool := decide (o = o' ∧ xs = ys)
set_option maxHeartbeats 2000000 in
theorem qrsame_any (A : Option Addr) (n c : Nat) (o : Int) (xs : List Cb) (B : Option Addr) (m d : Nat) (o' : Int) (ys : List Cb) (w : World) (h : Sm 2 encC (0, 0) w 0 w.heap.size A n xs) (h' : Sm 2 encC (0, 0) w 0 w.heap.size B m ys) (hn : n ≤ 1000000) (hm : m ≤ 1000000) :
    Calls Try.prog 12 #[qv A n c o, qv B m d o'] w fun e w' => e = .returned (.bool (sameQ o xs o' ys)) ∧ Below w.heap.size w w' := by
  have HR := hid h; have HT := hid h'; have HB := hid (Below.refl w.heap.size w)
  have hl := hid h.len; have hl' := hid h'.len
  clear h h'
  have bx := below_box w (.cells (qcs A n c o) 25)
  replace HR := hid (HR.out.step bx); replace HT := hid (HT.out.step bx); replace HB := hid (below_then HB.out bx)
  clear bx
  have PQ := hid (Blk.new w 25 (qcs A n c o))
  have bx := below_box (w.alloc (.cells (qcs A n c o) 25)) (.cells (qcs B m d o') 25)
  replace HR := hid (HR.out.step bx); replace HT := hid (HT.out.step bx); replace PQ := hid (PQ.out.step bx); replace HB := hid (below_then HB.out bx)
  clear bx
  have PR := hid (Blk.new2 w 25 (qcs B m d o') (.cells (qcs A n c o) 25))
  by_cases h1 : o = o'
  · subst h1
    by_cases h2 : n = m
    · subst h2
      have hno : (o != o) = false := by simp
      have hnn : ((n : Int) != (n : Int)) = false := by simp
      obtain ⟨y00, y01, yf0⟩ := PQ.out.cells2
      obtain ⟨y10, y11, yf1⟩ := PR.out.cells2
      go_enter Try.func12, Try.ntmps12
      go_wp2_with fail
      clear y00 y01 yf0 y10 y11 yf1
      generalize (w.alloc (.cells (qcs A n c o) 25)).alloc (.cells (qcs B n d o) 25) = W0 at *
      have HB0 := hid (Below.refl W0.heap.size W0)
      clear hno hnn
      go_loopw [24] (fun i wr => ∃ j : Nat, j ≤ n ∧ i = .int .i64 j ∧ Below W0.heap.size W0 wr ∧ ∀ k, k < j → xs[k]?.getD (0, 0) = ys[k]?.getD (0, 0)) (fun i _ => n - (intOf i).toNat)
      case atStart => exact ⟨0, Nat.zero_le _, rfl, HB0.out, fun k hk => absurd hk (Nat.not_lt_zero _)⟩
      case round =>
        obtain ⟨j, hj, rfl, hbr, hall⟩ := hrel
        have HA := hid hall
        clear hall HB0
        replace HR := hid (HR.out.step hbr); replace HT := hid (HT.out.step hbr); replace PQ := hid (PQ.out.step hbr); replace PR := hid (PR.out.step hbr); replace HB := hid (below_then HB.out hbr)
        have HBr := hid hbr
        clear hbr
        by_cases hjn : j < n
        · obtain ⟨b, off, rfl, _, hbh, hc⟩ := HR.out.row (by omega)
          obtain ⟨f0, f1⟩ := Sm.cb (lo := 0) (hi := wr.heap.size) hc hjn
          obtain ⟨⟨x0, x1⟩, hx⟩ : ∃ x, x = xs[j]?.getD (0, 0) := ⟨_, rfl⟩
          rw [← hx] at f0 f1
          have hjc : (j : Int) < (n : Int) := by omega
          have HX := hid hx
          clear hx hc
          go_upto_region 6 with fail
          clear f0 f1
          have bx := below_box wr (.cells #[.int .u64 x0, .int .u64 x1] 53)
          replace HR := hid (HR.out.step bx); replace HT := hid (HT.out.step bx); replace PQ := hid (PQ.out.step bx); replace PR := hid (PR.out.step bx); replace HB := hid (below_then HB.out bx); replace HBr := hid (below_then HBr.out bx)
          clear bx
          have PC := hid (Blk.new wr 53 #[.int .u64 x0, .int .u64 x1])
          generalize wr.alloc (.cells #[.int .u64 x0, .int .u64 x1] 53) = W1 at *
          obtain ⟨y0, y1, yf⟩ := PR.out.cells2
          obtain ⟨z0, z1, zf⟩ := PC.out.cells2
          obtain ⟨b', off', rfl, _, hbh', hc⟩ := HT.out.row (by omega)
          obtain ⟨f0, f1⟩ := Sm.cb (lo := 0) (hi := W1.heap.size) hc hjn
          obtain ⟨⟨v0, v1⟩, hy⟩ : ∃ y, y = ys[j]?.getD (0, 0) := ⟨_, rfl⟩
          rw [← hy] at f0 f1
          have HY := hid hy
          clear hy hc
          have hne := neq_cb x0 x1 v0 v1
          go_quiet (fail)
          clear y0 y1 yf z0 z1 zf f0 f1 hne
          by_cases he : (x0, x1) = (v0, v1)
          · have e1 : (!decide (x0 = v0) || !decide (x1 = v1)) = false := by simp at he; simp [he]
            rw [e1]
            clear e1
            go_wp2
            go_roundw
            case rel =>
              refine ⟨j + 1, by omega, by go_num, below_drewN HBr.out _, fun k hk => ?_⟩
              by_cases hkj : k = j
              · subst hkj; rw [← HX.out, ← HY.out]; exact he
              · exact HA.out k (by omega)
            case measure => simp [intOf]; omega
          · have e1 : (!decide (x0 = v0) || !decide (x1 = v1)) = true := by
              simp at he
              by_cases h9 : x0 = v0
              · simp [h9, he h9]
              · simp [h9]
            have E := hid (show sameQ o xs o ys = false from decide_eq_false (fun h => he (by rw [HX.out, HY.out, h.2])))
            rw [e1]
            clear e1 he
            go_wp2
            go_ret
            exact ⟨ret_bool E.out.symm, below_drewN HB.out _⟩
        · obtain rfl : j = n := by omega
          have E := hid (show sameQ o xs o ys = true from decide_eq_true ⟨rfl, ext_getDg (0, 0) hl.out hl'.out HA.out⟩)
          go_wp2
          go_ret
          exact ⟨ret_bool E.out.symm, HB.out⟩
    · have hno : (o != o) = false := by simp
      have hnn : ((n : Int) != (m : Int)) = true := by simp; omega
      have E := hid (show sameQ o xs o ys = false from decide_eq_false (fun h => h2 (by rw [← hl.out, ← hl'.out, h.2])))
      clear h2
      obtain ⟨y00, y01, yf0⟩ := PQ.out.cells2
      obtain ⟨y10, y11, yf1⟩ := PR.out.cells2
      go_enter Try.func12, Try.ntmps12
      go_wp2
      go_ret
      exact ⟨ret_bool E.out.symm, HB.out⟩
  · have hno : (o != o') = true := by simpa using h1
    have E := hid (show sameQ o xs o' ys = false from decide_eq_false (fun h => h1 h.1))
    clear h1
    obtain ⟨y00, y01, yf0⟩ := PQ.out.cells2
    obtain ⟨y10, y11, yf1⟩ := PR.out.cells2
    go_enter Try.func12, Try.ntmps12
    go_wp2
    go_ret
    exact ⟨ret_bool E.out.symm, HB.out⟩
end Go.Proofs.Ytkdbmlddndgjjaa
