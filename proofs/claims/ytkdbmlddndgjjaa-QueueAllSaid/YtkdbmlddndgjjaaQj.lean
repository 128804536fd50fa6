/- slices.Equal, queue.Same, slices.Grow, slices.Concat of two rows of callbacks. No condition but sizes. -/
import Derived.Test.YtkdbmlddndgjjaaQr
import Derived.Test.YtkdbmlddndgjjaaQw
import Derived.Lib.AppendZeros
namespace Go.Proofs.Ytkdbmlddndgjjaa
open Go.RowKit
set_option maxHeartbeats 2000000 in
theorem eqcb_any (A : Option Addr) (n c : Nat) (xs : List Cb) (B : Option Addr) (m d : Nat) (ys : List Cb) (w : World) (h : Sm 2 encC (0, 0) w 0 w.heap.size A n xs) (h' : Sm 2 encC (0, 0) w 0 w.heap.size B m ys) (hn : n ≤ 1000000) (hm : m ≤ 1000000) :
    Calls Try.prog 31 #[.slice A n c, .slice B m d] w fun e w' => e = .returned (.bool (decide (xs = ys))) ∧ Below w.heap.size w w' := by
  have HR := hid h; have HT := hid h'; have HB := hid (Below.refl w.heap.size w)
  have hl := hid h.len; have hl' := hid h'.len
  clear h h'
  by_cases h2 : n = m
  · subst h2
    have hnn : ((n : Int) != (n : Int)) = false := by simp
    go_enter Try.func31, Try.ntmps31
    go_wp2_with fail
    clear hnn
    have HB0 := hid (Below.refl w.heap.size w)
    go_loopw [13] (fun i wr => ∃ j : Nat, j ≤ n ∧ i = .int .i64 j ∧ Below w.heap.size w wr ∧ ∀ k, k < j → xs[k]?.getD (0, 0) = ys[k]?.getD (0, 0)) (fun i _ => n - (intOf i).toNat)
    case atStart => exact ⟨0, Nat.zero_le _, rfl, HB0.out, fun k hk => absurd hk (Nat.not_lt_zero _)⟩
    case round =>
      obtain ⟨j, hj, rfl, hbr, hall⟩ := hrel
      have HA := hid hall
      clear hall HB0
      replace HR := hid (HR.out.step hbr); replace HT := hid (HT.out.step hbr); replace HB := hid (below_then HB.out hbr)
      clear hbr
      by_cases hjn : j < n
      · obtain ⟨b, off, rfl, _, hbh, hc⟩ := HR.out.row (by omega)
        obtain ⟨f0, f1⟩ := Sm.cb (lo := 0) (hi := wr.heap.size) hc hjn
        obtain ⟨⟨x0, x1⟩, hx⟩ : ∃ x, x = xs[j]?.getD (0, 0) := ⟨_, rfl⟩
        rw [← hx] at f0 f1
        have hjc : (j : Int) < (n : Int) := by omega
        have HX := hid hx
        clear hx hc
        obtain ⟨b', off', rfl, _, hbh', hc⟩ := HT.out.row (by omega)
        obtain ⟨f0', f1'⟩ := Sm.cb (lo := 0) (hi := wr.heap.size) hc hjn
        obtain ⟨⟨v0, v1⟩, hy⟩ : ∃ y, y = ys[j]?.getD (0, 0) := ⟨_, rfl⟩
        rw [← hy] at f0' f1'
        have HY := hid hy
        clear hy hc
        go_upto_region 6 with fail
        have hne := neq_cb x0 x1 v0 v1
        go_quiet (fail)
        clear f0 f1 f0' f1' hne
        by_cases he : (x0, x1) = (v0, v1)
        · have e1 : (!decide (x0 = v0) || !decide (x1 = v1)) = false := by simp at he; simp [he]
          rw [e1]
          clear e1
          go_wp2
          go_roundw
          case rel =>
            refine ⟨j + 1, by omega, by go_num, below_drewN HB.out _, fun k hk => ?_⟩
            by_cases hkj : k = j
            · subst hkj; rw [← HX.out, ← HY.out]; exact he
            · exact HA.out k (by omega)
          case measure => simp [intOf]; omega
        · have e1 : (!decide (x0 = v0) || !decide (x1 = v1)) = true := by
            simp at he
            by_cases h9 : x0 = v0
            · simp [h9, he h9]
            · simp [h9]
          have E := hid (show decide (xs = ys) = false from decide_eq_false (fun h => he (by rw [HX.out, HY.out, h])))
          rw [e1]
          clear e1 he
          go_wp2
          go_ret
          exact ⟨ret_bool E.out.symm, below_drewN HB.out _⟩
      · obtain rfl : j = n := by omega
        have E := hid (show decide (xs = ys) = true from decide_eq_true (ext_getDg (0, 0) hl.out hl'.out HA.out))
        go_wp2
        go_ret
        exact ⟨ret_bool E.out.symm, HB.out⟩
  · have hnn : ((n : Int) != (m : Int)) = true := by simp; omega
    have E := hid (show decide (xs = ys) = false from decide_eq_false (fun h => h2 (by rw [← hl.out, ← hl'.out, h])))
    clear h2
    go_enter Try.func31, Try.ntmps31
    go_wp2
    go_ret
    exact ⟨ret_bool E.out.symm, HB.out⟩
theorem qsame_any (A : Option Addr) (n c : Nat) (o : Int) (xs : List Cb) (B : Option Addr) (m d : Nat) (o' : Int) (ys : List Cb) (w : World) (h : Sm 2 encC (0, 0) w 0 w.heap.size A n xs) (h' : Sm 2 encC (0, 0) w 0 w.heap.size B m ys) (hn : n ≤ 1000000) (hm : m ≤ 1000000) :
    Calls Try.prog 23 #[qv A n c o, qv B m d o'] w fun e w' => e = .returned (.bool (sameQ o xs o' ys)) ∧ Below w.heap.size w w' := by
  have HR := hid h; have HT := hid h'; have HB := hid (Below.refl w.heap.size w)
  clear h h'
  have bx := below_box w (.cells (qcs A n c o) 25)
  replace HR := hid (HR.out.step bx); replace HT := hid (HT.out.step bx); replace HB := hid (below_then HB.out bx)
  clear bx
  have PQ := hid (Blk.new w 25 (qcs A n c o))
  have bx := below_box (w.alloc (.cells (qcs A n c o) 25)) (.cells (qcs B m d o') 25)
  replace HR := hid (HR.out.step bx); replace HT := hid (HT.out.step bx); replace PQ := hid (PQ.out.step bx); replace HB := hid (below_then HB.out bx)
  clear bx
  have PR := hid (Blk.new2 w 25 (qcs B m d o') (.cells (qcs A n c o) 25))
  by_cases h1 : o = o'
  · subst h1
    have hno : (o == o) = true := by simp
    have E := hid (show sameQ o xs o ys = decide (xs = ys) from by simp [sameQ])
    obtain ⟨y00, y01, yf0⟩ := PQ.out.cells2
    obtain ⟨y10, y11, yf1⟩ := PR.out.cells2
    go_enter Try.func23, Try.ntmps23
    go_wp2_with fail
    clear hno y00 y01 yf0 y10 y11 yf1
    refine (eqcb_any A n c xs B m d ys _ HR.out HT.out hn hm).mono ?_
    rintro e w1 ⟨rfl, hb⟩
    replace HR := hid (HR.out.step hb); replace HT := hid (HT.out.step hb); replace PQ := hid (PQ.out.step hb); replace PR := hid (PR.out.step hb); replace HB := hid (below_then HB.out hb)
    clear hb
    rw [← E.out]
    go_wp2
    go_ret
    exact ⟨rfl, HB.out⟩
  · have hno : (o == o') = false := by simpa using h1
    have E := hid (show sameQ o xs o' ys = false from decide_eq_false (fun h => h1 h.1))
    clear h1
    obtain ⟨y00, y01, yf0⟩ := PQ.out.cells2
    obtain ⟨y10, y11, yf1⟩ := PR.out.cells2
    go_enter Try.func23, Try.ntmps23
    go_wp2
    go_ret
    exact ⟨ret_bool E.out.symm, HB.out⟩
def GwPost (w : World) (e : Ending) (w' : World) : Prop := ∃ A c, e = .returned (.slice A 0 c) ∧ Om 2 encC w' w.heap.size 53 A 0 c [] ∧ Below w.heap.size w w'
set_option maxHeartbeats 1000000 in
theorem grow_any (n : Nat) (w : World) (hn : n ≤ 1000000) :
    Calls Try.prog 39 #[.slice none 0 0, .int .i64 n] w (GwPost w) := by
  rcases Nat.eq_zero_or_pos n with h0 | h0
  · subst h0
    go_enter Try.func39, Try.ntmps39
    go_wp2
    go_ret
    exact ⟨none, 0, rfl, Om.nil _ _ _, Below.refl _ _⟩
  · obtain ⟨i0, hi0, hz00, hz01, hz02⟩ := info_parts info_cb
    have happ := Lib.run_append_nil_zeros (P := Try.prog) w 22 3 22 53 i0 (.agg #[.int .u64 0, .int .u64 0]) .i64 .i64 Try.underlying22 Try.underlying3 hi0 hz00 n h0 (by omega) (by omega) (by rw [hz02]; omega)
    have HA := hid happ
    have hc0 := hid (grownCap_le_maxLen w n 0 53 (by simp only [maxLen]; omega))
    have hge := hid (grownCap_ge w n 0 53)
    have hnp : (0 : Int) < (n : Int) := by omega
    have hnn : ¬ (n : Int) < 0 := by omega
    clear happ hi0 hz00 hz01 hz02
    generalize grownCap w n 0 53 = gc at *
    have hgi : (n : Int) ≤ (gc : Int) := by have := hge.out; omega
    have hg0 : (0 : Int) ≤ (gc : Int) := by omega
    go_enter Try.func39, Try.ntmps39
    go_wp2_with (at_builtin; refine Lib.wpList_append_run _ rfl _ _ _ _ rfl _ _ rfl rfl _ _ HA.out ?_)
    skip
    go_ret
    refine ⟨some ⟨w.heap.size, 0, none⟩, gc, rfl, ⟨rfl, ⟨by simp [flat], .inr ⟨w.heap.size, gc, _, rfl, Nat.le_refl _, heap_alloc_new w.drew _, Nat.zero_le _, hc0.out, ?_, by simp [flat]⟩⟩⟩, ((Below.refl _ w).drew).alloc (by simp) _⟩
    have := hge.out
    simp [size_zeroCells, Value.cells]
    omega
def CcPost (w : World) (n : Nat) (xs : List Cb) (e : Ending) (w' : World) : Prop := ∃ R c, e = .returned (.slice R n c) ∧ Om 2 encC w' w.heap.size 53 R n c xs ∧ Below w.heap.size w w'
set_option maxHeartbeats 2000000 in
theorem concat_any (A : Option Addr) (n c : Nat) (xs : List Cb) (B : Option Addr) (m d : Nat) (ys : List Cb) (b : Nat) (w : World) (h : Sm 2 encC (0, 0) w 0 w.heap.size A n xs) (h' : Sm 2 encC (0, 0) w 0 w.heap.size B m ys) (hn : n ≤ 10000) (hm : m ≤ 10000)
    (hg : Blk w b 22 #[.slice A n c, .slice B m d]) :
    Calls Try.prog 36 #[.slice (some ⟨b, 0, none⟩) 2 2] w (CcPost w (n + m) (xs ++ ys)) := by
  have HR := hid h; have HT := hid h'; have HB := hid (Below.refl w.heap.size w); have PG := hid hg
  clear h h' hg
  have XR0 := HR; have XT0 := HT; have XG0 := PG
  go_enter Try.func36, Try.ntmps36
  go_wp2_with fail
  go_loopw [3, 11] (fun s3 i wr => ∃ j : Nat, j ≤ 2 ∧ i = .int .i64 j ∧ s3 = .int .i64 ((if j = 0 then 0 else if j = 1 then n else n + m : Nat) : Int) ∧ wr = w) (fun _ i _ => 2 - (intOf i).toNat)
  case atStart => exact ⟨0, Nat.zero_le _, rfl, rfl, rfl⟩
  case round =>
    obtain ⟨j, hj, rfl, rfl, hwr⟩ := hrel
    obtain rfl := hwr.symm
    have hj3 : j = 0 ∨ j = 1 ∨ j = 2 := by omega
    rcases hj3 with rfl | rfl | rfl
    · have hw0 : IntKind.i64.wrap ((0 : Int) + (n : Int)) = (n : Int) := by rw [IntKind.wrap_i64]; omega
      have hn0 : ¬ (n : Int) < 0 := by omega
      obtain ⟨y0, y1, yf⟩ := PG.out.cells2
      simp only [if_pos rfl]
      go_wp2
      go_roundw
      case rel => exact ⟨1, by omega, by go_num, by first | trivial | rfl | simp, by first | trivial | rfl⟩
      case measure => simp [intOf]
    · have hw0 : IntKind.i64.wrap ((n : Int) + (m : Int)) = (n : Int) + (m : Int) := by rw [IntKind.wrap_i64]; omega
      have hn0 : ¬ (n : Int) + (m : Int) < 0 := by omega
      obtain ⟨y0, y1, yf⟩ := PG.out.cells2
      simp only [if_neg (show ¬ (1 = 0) by omega), if_pos rfl]
      go_wp2
      go_roundw
      case rel => exact ⟨2, by omega, by go_num, by first | trivial | rfl | simp, by first | trivial | rfl⟩
      case measure => simp [intOf]
    · simp only [if_neg (show ¬ (2 = 0) by omega), if_neg (show ¬ (2 = 1) by omega)]
      go_wp2_with fail
      refine (grow_any (n + m) w (by omega)).mono ?_
      rintro e w1 ⟨R1, cr1, rfl, o1, hb⟩
      replace HR := hid (HR.out.step hb); replace HT := hid (HT.out.step hb); replace PG := hid (PG.out.step hb); replace HB := hid (below_then HB.out hb)
      have O1 := hid o1; have H1 := hid hb.size
      clear hb o1
      have XR := HR; have H0 := hid (Below.refl w1.heap.size w1); have XB := HB
      go_wp2_with fail
      go_loopw [6, 27] (fun s6 i wr => ∃ (j k cr : Nat) (R : Option Addr) (zs : List Cb), j ≤ 2 ∧ i = .int .i64 j ∧ s6 = .slice R k cr ∧ Om 2 encC wr w.heap.size 53 R k cr zs ∧ (zs = if j = 0 then [] else if j = 1 then xs else xs ++ ys) ∧ Below w.heap.size w wr ∧ w1.heap.size ≤ wr.heap.size) (fun _ i _ => 2 - (intOf i).toNat)
      case atStart => exact ⟨0, 0, cr1, R1, [], Nat.zero_le _, rfl, rfl, O1.out, rfl, XB.out, Nat.le_refl _⟩
      case round =>
        clear O1 H0 HB HR HT PG
        obtain ⟨j, k, cr, R, zs, hj, rfl, rfl, ho, hz, hbr, hsz⟩ := hrel
        have HR := hid (XR0.out.step hbr); have HT := hid (XT0.out.step hbr); have PG := hid (XG0.out.step hbr)
        have HO := hid ho; have HBr := hid hbr; have HZ := hid hsz
        clear ho hbr hsz
        have hj3 : j = 0 ∨ j = 1 ∨ j = 2 := by omega
        obtain ⟨i0, hi0, hz00, hz01, hz02⟩ := info_parts info_cb
        rcases hj3 with rfl | rfl | rfl
        · obtain rfl : [] = zs := hz.symm
          have hk0 : k = 0 := by have h0 := HO.out.len; (try simp at h0); have hl1 := HR.out.len; have hl2 := HT.out.len; omega
          have hkb : k ≤ 20000 := by omega
          have HK := hid hk0
          clear hk0
          obtain ⟨y0, y1, yf⟩ := PG.out.cells2
          go_wp2_with (at_builtin; refine wpList_appm 2 encC (0, 0) _ rfl _ _ 22 rfl w.heap.size 53 i0 _ 16 Try.underlying22 hi0 hz00 hz01 hz02 rfl (by omega) R k cr _ rfl HO.out 0 wr.heap.size A n c xs rfl HR.out encC_one (by simp only [maxLen]; omega) (by omega) HBr.out.size ?_; intro R' cr' w7 own7 hg7 hat7; have hrow := hid HO.out.row_ge; have hb7 := hid (HBr.out.grown hg7 HBr.out.size (fun r e => hrow.out r e)); have OWN7 := hid own7; have hs7 := hid hg7.size; clear own7 hg7 hat7 hrow)
          clear hi0 hz00 hz01 hz02 y0 y1 yf
          go_roundw
          case rel => exact ⟨1, k + n, cr', R', [] ++ xs, by omega, by go_num, rfl, OWN7.out, by simp, hb7.out, by have := hs7.out; have := HZ.out; omega⟩
          case measure => simp [intOf]
        · obtain rfl : xs = zs := hz.symm
          have hk0 : k = n := by have h0 := HO.out.len; (try simp at h0); have hl1 := HR.out.len; have hl2 := HT.out.len; omega
          have hkb : k ≤ 20000 := by omega
          have HK := hid hk0
          clear hk0
          obtain ⟨y0, y1, yf⟩ := PG.out.cells2
          go_wp2_with (at_builtin; refine wpList_appm 2 encC (0, 0) _ rfl _ _ 22 rfl w.heap.size 53 i0 _ 16 Try.underlying22 hi0 hz00 hz01 hz02 rfl (by omega) R k cr _ rfl HO.out 0 wr.heap.size B m d ys rfl HT.out encC_one (by simp only [maxLen]; omega) (by omega) HBr.out.size ?_; intro R' cr' w7 own7 hg7 hat7; have hrow := hid HO.out.row_ge; have hb7 := hid (HBr.out.grown hg7 HBr.out.size (fun r e => hrow.out r e)); have OWN7 := hid own7; have hs7 := hid hg7.size; clear own7 hg7 hat7 hrow)
          clear hi0 hz00 hz01 hz02 y0 y1 yf
          go_roundw
          case rel => exact ⟨2, k + m, cr', R', xs ++ ys, by omega, by go_num, rfl, OWN7.out, by simp, hb7.out, by have := hs7.out; have := HZ.out; omega⟩
          case measure => simp [intOf]
        · obtain rfl : xs ++ ys = zs := hz.symm
          have hk0 : k = n + m := by have h0 := HO.out.len; (try simp at h0); have hl1 := HR.out.len; have hl2 := HT.out.len; omega
          subst hk0
          go_wp2
          go_ret
          exact ⟨R, cr, rfl, HO.out, HBr.out⟩
end Go.Proofs.Ytkdbmlddndgjjaa
