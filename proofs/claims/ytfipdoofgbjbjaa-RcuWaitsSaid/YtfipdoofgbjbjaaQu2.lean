/- package queue: Check. No condition but sizes. -/
import Derived.Test.YtfipdoofgbjbjaaKitA
import Derived.Test.YtfipdoofgbjbjaaQu
namespace Go.Proofs.Ytfipdoofgbjbjaa
open Go.RowKit
/-- the two cells of an element -/
theorem Sm.cb {w : World} {lo hi b off n : Nat} {xs : List Cb} (hc : ∀ k, k < n → ∀ j, j < 2 → w.cell? ⟨b, off + k * 2 + j, none⟩ = some (encC (xs[k]?.getD (0, 0)) j)) {k : Nat} (hk : k < n) :
    w.cell? ⟨b, off + k * 2, none⟩ = some (.int .u64 (xs[k]?.getD (0, 0)).1) ∧ w.cell? ⟨b, off + k * 2 + 1, none⟩ = some (.int .u64 (xs[k]?.getD (0, 0)).2) :=
  ⟨by have := hc k hk 0 (by omega); rwa [Nat.add_zero] at this, hc k hk 1 (by omega)⟩
theorem late_any (p x : Int) (g : Nat) (A : Option Addr) (n c : Nat) (o : Int) (w : World) (h : Blk w g 40 (qcs A n c o)) (h0 : 0 ≤ o) (h1 : o ≤ 9223372036854775806) :
    Calls Try.prog 42 #[cbv p x, ptr g] w fun e w' => e = .returned (.bool (decide (o + 2 < p))) ∧ Below w.heap.size w w' := by
  have hw : IntKind.u64.wrap (o + 2) = o + 2 := by rw [IntKind.wrap_u64]; omega
  have PQ := hid h; have HB := hid (Below.refl w.heap.size w)
  clear h
  have bx := below_box w (.cells #[.int .u64 p, .int .u64 x] 65)
  replace PQ := hid (PQ.out.step bx); replace HB := hid (below_then HB.out bx)
  clear bx
  have PA := hid (Blk.new w 65 #[.int .u64 p, .int .u64 x])
  obtain ⟨y00, y01, yf0⟩ := PA.out.cells2
  obtain ⟨y10, y11, yf1⟩ := PQ.out.cells2
  go_enter Try.func42, Try.ntmps42
  go_wp2
  go_ret
  exact ⟨by simp, HB.out⟩
set_option maxHeartbeats 1000000 in
theorem index_any (A : Option Addr) (n c lo hi : Nat) (xs : List Cb) (g : Nat) (A' : Option Addr) (n' c' : Nat) (o : Int) (w : World) (h : Sm 2 encC (0, 0) w lo hi A n xs) (hhi : hi ≤ w.heap.size) (hn : n ≤ 1000000)
    (hP : Blk w g 40 (qcs A' n' c' o)) (h0 : 0 ≤ o) (h1 : o ≤ 9223372036854775806) :
    Calls Try.prog 67 #[.slice A n c, .func (.func 42) #[] #[ptr g]] w fun e w' => (∃ v, e = .returned (.int .i64 v) ∧ decide (0 ≤ v) = !decide (QSoon o xs)) ∧ Below w.heap.size w w' := by
  have eg := enters_of Try.func42 (by kernel_rfl) rfl
  have HR := hid h; have PQ := hid hP
  have hl := hid h.len
  clear h hP
  go_enter Try.func67, Try.ntmps67
  go_wp2_with fail
  go_loopw [5, 8] (fun _ i wr => ∃ j : Nat, j ≤ n ∧ i = .int .i64 j ∧ Below w.heap.size w wr ∧ ∀ k, k < j → perAt xs k ≤ o + 2) (fun _ i _ => n - (intOf i).toNat)
  case atStart => exact ⟨0, Nat.zero_le _, rfl, Below.refl _ _, fun k hk => absurd hk (Nat.not_lt_zero _)⟩
  case round =>
    obtain ⟨j, hj, rfl, hbr, hall⟩ := hrel
    have HA := hid hall; have HB := hid hbr
    clear hall hbr
    by_cases hjn : j < n
    · obtain ⟨b, off, rfl, _, hbh, hc⟩ := HR.out.row (by omega)
      obtain ⟨c0, c1⟩ := Sm.cb (lo := lo) (hi := hi) hc hjn
      have f0 := (HB.out.cell (p := ⟨b, off + j * 2, none⟩) (by show b < _; omega)).trans c0
      have f1 := (HB.out.cell (p := ⟨b, off + j * 2 + 1, none⟩) (by show b < _; omega)).trans c1
      obtain ⟨x, hx⟩ : ∃ x, x = xs[j]?.getD (0, 0) := ⟨_, rfl⟩
      rw [← hx] at f0 f1
      have HX : Hid (perAt xs j = x.1) := hid (by rw [hx]; rfl)
      clear hx hc c0 c1
      go_wp2_with fail
      clear f0 f1
      refine (late_any x.1 x.2 g A' n' c' o wr (PQ.out.step HB.out) h0 h1).mono ?_
      rintro e w1 ⟨rfl, hb⟩
      have HB1 := hid (below_then HB.out hb)
      clear hb
      by_cases hlt : o + 2 < x.1
      · have HQ : Hid (decide (QSoon o xs) = false) := hid (decide_eq_false (fun h => by have := h j (by rw [hl.out]; omega); rw [HX.out] at this; omega))
        have e1 : decide (o + 2 < x.1) = true := decide_eq_true hlt
        clear hlt
        go_wp2
        go_ret
        exact ⟨⟨_, rfl, by rw [HQ.out]; simp⟩, HB1.out⟩
      · have e1 : decide (o + 2 < x.1) = false := decide_eq_false hlt
        rw [e1]
        clear e1
        go_wp2
        go_roundw
        case rel =>
          refine ⟨j + 1, by omega, by go_num, HB1.out, fun k hk => ?_⟩
          by_cases hkq : k = j
          · subst hkq; rw [HX.out]; omega
          · exact HA.out k (by omega)
        case measure => simp [intOf]; omega
    · obtain rfl : j = n := by omega
      have HQ : Hid (decide (QSoon o xs) = true) := hid (decide_eq_true (fun k hk => HA.out k (by rw [← hl.out]; exact hk)))
      go_wp2
      go_ret
      exact ⟨⟨_, rfl, by rw [HQ.out]; simp⟩, HB.out⟩
theorem contains_any (A : Option Addr) (n c lo hi : Nat) (xs : List Cb) (g : Nat) (A' : Option Addr) (n' c' : Nat) (o : Int) (w : World) (h : Sm 2 encC (0, 0) w lo hi A n xs) (hhi : hi ≤ w.heap.size) (hn : n ≤ 1000000)
    (hP : Blk w g 40 (qcs A' n' c' o)) (h0 : 0 ≤ o) (h1 : o ≤ 9223372036854775806) :
    Calls Try.prog 45 #[.slice A n c, .func (.func 42) #[] #[ptr g]] w fun e w' => e = .returned (.bool (!decide (QSoon o xs))) ∧ Below w.heap.size w w' := by
  have HR := hid h; have PQ := hid hP
  clear h hP
  go_enter Try.func45, Try.ntmps45
  go_wp2_with fail
  refine (index_any A n c lo hi xs g A' n' c' o w HR.out hhi hn PQ.out h0 h1).mono ?_
  rintro e w' ⟨⟨v, rfl, hv⟩, hb⟩
  have HV := hid hv; have HB := hid hb
  clear hv hb
  go_wp2
  go_ret
  exact ⟨ret_bool HV.out, HB.out⟩
def qcheckC (o : Int) (l : List Cb) : Int := if QGood o l then 0 else 230
set_option maxHeartbeats 1000000 in
theorem qcheck_any (A : Option Addr) (n c : Nat) (o : Int) (xs : List Cb) (w : World) (h : Sm 2 encC (0, 0) w 0 w.heap.size A n xs) (hn : n ≤ 1000000) (h0 : 0 ≤ o) :
    Calls Try.prog 22 #[qv A n c o] w fun e w' => e = .returned (.int .i64 (qcheckC o xs)) ∧ Below w.heap.size w w' := by
  have NO : Hid (¬ QGood o xs → qcheckC o xs = 230) := hid (fun h => if_neg h)
  have YES : Hid (QGood o xs → qcheckC o xs = 0) := hid (fun h => if_pos h)
  have hl := hid h.len
  have HR := hid h; have HB := hid (Below.refl w.heap.size w)
  clear h
  have bx := below_box w (.cells (qcs A n c o) 40)
  replace HR := hid (HR.out.step bx); replace HB := hid (below_then HB.out bx)
  clear bx
  have PQ := hid (Blk.new w 40 (qcs A n c o))
  by_cases h1 : 9223372036854775806 < o
  · have E := hid (NO.out (fun h => by have := h.1; omega))
    obtain ⟨y00, y01, yf0⟩ := PQ.out.cells2
    go_enter Try.func22, Try.ntmps22
    go_wp2
    go_ret
    exact ⟨ret_int E.out.symm, HB.out⟩
  · by_cases h2 : 16 < n
    · have E := hid (NO.out (fun h => by have := h.2.1; have := hl.out; omega))
      have h2i : (16 : Int) < (n : Int) := by omega
      obtain ⟨y00, y01, yf0⟩ := PQ.out.cells2
      go_enter Try.func22, Try.ntmps22
      go_wp2
      go_ret
      exact ⟨ret_int E.out.symm, HB.out⟩
    · have h2i : ¬ (16 : Int) < (n : Int) := by omega
      obtain ⟨y00, y01, yf0⟩ := PQ.out.cells2
      go_enter Try.func22, Try.ntmps22
      go_wp2_with fail
      clear y00 y01 yf0
      refine (sorted_any A n c _ _ xs _ HR.out (Nat.le_refl _) hn).mono ?_
      rintro e w1 ⟨rfl, hb⟩
      replace HR := hid (HR.out.step hb); replace PQ := hid (PQ.out.step hb); replace HB := hid (below_then HB.out hb)
      clear hb
      by_cases h3 : QUp xs
      · rw [decide_eq_true h3]
        obtain ⟨y00, y01, yf0⟩ := PQ.out.cells2
        go_wp2_with fail
        clear y00 y01 yf0
        refine (contains_any A n c _ _ xs w.heap.size A n c o _ HR.out (Nat.le_refl _) hn PQ.out h0 (by omega)).mono ?_
        rintro e w2 ⟨rfl, hb⟩
        replace HR := hid (HR.out.step hb); replace PQ := hid (PQ.out.step hb); replace HB := hid (below_then HB.out hb)
        clear hb
        by_cases h4 : QSoon o xs
        · have E := hid (YES.out ⟨by omega, by rw [hl.out]; omega, h3, h4⟩)
          rw [decide_eq_true h4]
          clear h3 h4
          go_wp2
          go_ret
          exact ⟨ret_int E.out.symm, HB.out⟩
        · have E := hid (NO.out (fun h => h4 h.2.2.2))
          rw [decide_eq_false h4]
          clear h3 h4
          go_wp2
          go_ret
          exact ⟨ret_int E.out.symm, HB.out⟩
      · rw [decide_eq_false h3]
        have E := hid (NO.out (fun h => h3 h.2.2.1))
        clear h3
        go_wp2
        go_ret
        exact ⟨ret_int E.out.symm, HB.out⟩
end Go.Proofs.Ytfipdoofgbjbjaa
