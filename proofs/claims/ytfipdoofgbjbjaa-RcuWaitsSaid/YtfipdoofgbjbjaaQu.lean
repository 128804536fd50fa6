/- package queue: byPeriod, Check. No condition but sizes. -/
import Derived.Test.YtfipdoofgbjbjaaProg
import Derived.Test.YtfipdoofgbjbjaaKitA
import Derived.Deep.RegionHeld3
import Derived.Tactics2
import Derived.Deep.DeepCutAuto
namespace Go.Proofs.Ytfipdoofgbjbjaa
open Go.RowKit
abbrev Cb := Int × Int
def encC (x : Cb) : Nat → Value
  | 0 => .int .u64 x.1
  | _ => .int .u64 x.2
abbrev qv (A : Option Addr) (n c : Nat) (o : Int) : Value := .agg #[.slice A n c, .int .u64 o]
abbrev qcs (A : Option Addr) (n c : Nat) (o : Int) : Array Value := #[.slice A n c, .int .u64 o]
abbrev cbv (p w : Int) : Value := .agg #[.int .u64 p, .int .u64 w]
theorem encC_one (y : Cb) (j : Nat) (_ : j < 2) : (encC y j).oneCell' = true := by
  unfold encC; split <;> rfl
theorem info_cb : (Try.prog.info? 65).map (fun i => (i.zero, i.size, i.bytes)) = some (some (.agg #[.int .u64 0, .int .u64 0]), 2, 16) := by kernel_rfl
def cmpZ (a b : Int) : Int := if a < b then -1 else if b < a then 1 else 0
def perAt (l : List Cb) (i : Nat) : Int := (l[i]?.getD (0, 0)).1
/-- may a queue be? -/
def QUp (l : List Cb) : Prop := ∀ k, k < l.length → 1 ≤ k → perAt l (k - 1) ≤ perAt l k
def QSoon (o : Int) (l : List Cb) : Prop := ∀ k, k < l.length → perAt l k ≤ o + 2
def QGood (o : Int) (l : List Cb) : Prop := o ≤ 9223372036854775806 ∧ l.length ≤ 16 ∧ QUp l ∧ QSoon o l
instance {l : List Cb} : Decidable (QUp l) := by unfold QUp; infer_instance
instance {o : Int} {l : List Cb} : Decidable (QSoon o l) := by unfold QSoon; infer_instance
instance {o : Int} {l : List Cb} : Decidable (QGood o l) := by unfold QGood; infer_instance
theorem isnan_any (a : Int) (w : World) : Calls Try.prog 83 #[.int .u64 a] w fun e w' => e = .returned (.bool false) ∧ w' = w := by
  go_enter Try.func83, Try.ntmps83
  go_wp2
  go_ret
  exact ⟨by simp, rfl⟩
theorem cmp_any (a b : Int) (w : World) : Calls Try.prog 66 #[.int .u64 a, .int .u64 b] w fun e w' => e = .returned (.int .i64 (cmpZ a b)) ∧ Below w.heap.size w w' := by
  have HC := hid (show cmpZ a b = if a < b then -1 else if b < a then 1 else 0 from rfl)
  go_enter Try.func66, Try.ntmps66
  go_wp2_with fail
  refine (isnan_any a w).mono ?_
  rintro e w' ⟨rfl, rfl⟩
  go_wp2_with fail
  refine (isnan_any b w').mono ?_
  rintro e w'' ⟨rfl, rfl⟩
  by_cases h1 : a < b
  · go_wp2
    go_ret
    exact ⟨ret_int (by rw [HC.out, if_pos h1]), Below.refl _ _⟩
  · by_cases h2 : b < a
    · go_wp2
      go_ret
      exact ⟨ret_int (by rw [HC.out, if_neg (by omega), if_pos h2]), Below.refl _ _⟩
    · go_wp2
      go_ret
      exact ⟨ret_int (by rw [HC.out, if_neg (by omega), if_neg (by omega)]), Below.refl _ _⟩
theorem period_any (a b : Cb) (w : World) : Calls Try.prog 44 #[cbv a.1 a.2, cbv b.1 b.2] w fun e w' => e = .returned (.int .i64 (cmpZ a.1 b.1)) ∧ Below w.heap.size w w' := by
  have HB := hid (Below.refl w.heap.size w)
  have bx := below_box w (.cells #[.int .u64 a.1, .int .u64 a.2] 65)
  replace HB := hid (below_then HB.out bx)
  clear bx
  have PA := hid (Blk.new w 65 #[.int .u64 a.1, .int .u64 a.2])
  have bx := below_box (w.alloc (.cells #[.int .u64 a.1, .int .u64 a.2] 65)) (.cells #[.int .u64 b.1, .int .u64 b.2] 65)
  replace PA := hid (PA.out.step bx); replace HB := hid (below_then HB.out bx)
  clear bx
  have PB := hid (Blk.new2 w 65 #[.int .u64 b.1, .int .u64 b.2] (.cells #[.int .u64 a.1, .int .u64 a.2] 65))
  obtain ⟨y00, y01, yf0⟩ := PA.out.cells2
  obtain ⟨y10, y11, yf1⟩ := PB.out.cells2
  go_enter Try.func44, Try.ntmps44
  go_wp2_with fail
  clear y00 y01 yf0 y10 y11 yf1
  refine (cmp_any a.1 b.1 _).mono ?_
  rintro e w1 ⟨rfl, hb⟩
  replace PA := hid (PA.out.step hb); replace PB := hid (PB.out.step hb); replace HB := hid (below_then HB.out hb)
  clear hb
  go_wp2
  go_ret
  exact ⟨rfl, HB.out⟩
set_option maxHeartbeats 1000000 in
theorem sorted_any (A : Option Addr) (n c lo hi : Nat) (xs : List Cb) (w : World) (h : Sm 2 encC (0, 0) w lo hi A n xs) (hhi : hi ≤ w.heap.size) (hn : n ≤ 1000000) :
    Calls Try.prog 43 #[.slice A n c, .func (.func 44) #[] #[]] w fun e w' => e = .returned (.bool (decide (QUp xs))) ∧ Below w.heap.size w w' := by
  have eg := enters_of Try.func44 (by kernel_rfl) rfl
  have HR := hid h
  have hl := hid h.len
  have hw0 : IntKind.i64.wrap ((n : Int) - 1) = (n : Int) - 1 := by rw [IntKind.wrap_i64]; omega
  clear h
  go_enter Try.func43, Try.ntmps43
  go_wp2_with fail
  go_loopw [5] (fun i wr => ∃ v : Int, i = .int .i64 v ∧ v < n ∧ Below w.heap.size w wr ∧ ∀ k, k < n → v < (k : Int) → 1 ≤ k → perAt xs (k - 1) ≤ perAt xs k) (fun i _ => (intOf i).toNat)
  case atStart => exact ⟨_, rfl, by omega, Below.refl _ _, fun k hk h1 => by omega⟩
  case round =>
    obtain ⟨v, rfl, hv, hbr, hall⟩ := hrel
    have HA := hid hall; have HB := hid hbr
    clear hall hbr
    by_cases h0 : 0 < v
    · obtain ⟨q, rfl⟩ : ∃ q : Nat, v = (q : Int) := ⟨v.toNat, by omega⟩
      obtain ⟨j, hj⟩ : ∃ j : Nat, q = j + 1 := ⟨q - 1, by omega⟩
      obtain ⟨b, off, rfl, _, hbh, hc⟩ := HR.out.row (by omega)
      have HC : Hid (∀ W, Below w.heap.size w W → ∀ q, q < n → W.cell? ⟨b, off + q * 2, none⟩ = some (.int .u64 (xs[q]?.getD (0, 0)).1) ∧ W.cell? ⟨b, off + q * 2 + 1, none⟩ = some (.int .u64 (xs[q]?.getD (0, 0)).2)) := hid (fun W hb q hq => ⟨(hb.cell (p := ⟨b, off + q * 2, none⟩) (by show b < _; omega)).trans (by have := hc q hq 0 (by omega); rwa [Nat.add_zero] at this), (hb.cell (p := ⟨b, off + q * 2 + 1, none⟩) (by show b < _; omega)).trans (hc q hq 1 (by omega))⟩)
      clear hc
      obtain ⟨x, hx⟩ : ∃ x, x = xs[q]?.getD (0, 0) := ⟨_, rfl⟩
      obtain ⟨y, hy⟩ : ∃ y, y = xs[j]?.getD (0, 0) := ⟨_, rfl⟩
      have HS : Hid (∀ W, Below w.heap.size w W → (W.cell? ⟨b, off + q * 2, none⟩ = some (.int .u64 x.1) ∧ W.cell? ⟨b, off + q * 2 + 1, none⟩ = some (.int .u64 x.2)) ∧ W.cell? ⟨b, off + j * 2, none⟩ = some (.int .u64 y.1) ∧ W.cell? ⟨b, off + j * 2 + 1, none⟩ = some (.int .u64 y.2)) := hid (fun W hb => by rw [hx, hy]; exact ⟨HC.out W hb q (by omega), HC.out W hb j (by omega)⟩)
      have HX : Hid (perAt xs q = x.1) := hid (by rw [hx]; rfl)
      have HY : Hid (perAt xs j = y.1) := hid (by rw [hy]; rfl)
      have hw1 : IntKind.i64.wrap ((q : Int) - 1) = (j : Int) := by rw [IntKind.wrap_i64]; omega
      have hjn : (j : Int) < (n : Int) := by omega
      have HJ := hid hj
      clear hx hy HC hj
      have HE := hid (show cmpZ x.1 y.1 = if x.1 < y.1 then -1 else if y.1 < x.1 then 1 else 0 from rfl)
      obtain ⟨⟨f0, f1⟩, f2, f3⟩ := HS.out wr HB.out
      go_wp2_with fail
      go_region_held3 (fun W => (W.cell? ⟨b, off + q * 2, none⟩ = some (.int .u64 x.1) ∧ W.cell? ⟨b, off + q * 2 + 1, none⟩ = some (.int .u64 x.2)) ∧ W.cell? ⟨b, off + j * 2, none⟩ = some (.int .u64 y.1) ∧ W.cell? ⟨b, off + j * 2 + 1, none⟩ = some (.int .u64 y.2))
        (first | (exact HS.out _ HB.out.drew) | (exact HS.out _ hq1))
        (first | (go_at_call 44; go_split_ands; (with_reducible refine (period_any x y wr.drew).mono ?_); rintro e w1 ⟨rfl, hb⟩; have hq1 := below_then HB.out.drew hb))
      have HB1 := hid hq1
      clear hb hq1 f0 f1 f2 f3
      by_cases hlt : x.1 < y.1
      · have e1 : cmpZ x.1 y.1 = -1 := by rw [HE.out, if_pos hlt]
        have HQ : Hid (decide (QUp xs) = false) := hid (decide_eq_false (fun h => by have := h q (by rw [hl.out]; omega) (by omega); rw [HX.out, show q - 1 = j by have := HJ.out; omega, HY.out] at this; omega))
        go_wp2
        go_ret
        exact ⟨ret_bool HQ.out.symm, HB1.out⟩
      · have e1 : cmpZ x.1 y.1 = 1 ∨ cmpZ x.1 y.1 = 0 := by rw [HE.out, if_neg hlt]; split <;> simp
        rcases e1 with e1 | e1
        all_goals
          go_wp2
          go_roundw
          case rel =>
            refine ⟨(j : Int), by go_num, hjn, HB1.out, fun k hk h1 h2 => ?_⟩
            by_cases hkq : k = q
            · subst hkq; rw [HX.out, show k - 1 = j by have := HJ.out; omega, HY.out]; omega
            · exact HA.out k hk (by have := HJ.out; omega) h2
          case measure => have := HJ.out; simp [intOf]; omega
    · have HQ : Hid (decide (QUp xs) = true) := hid (decide_eq_true (fun k hk h1 => HA.out k (by rw [← hl.out]; exact hk) (by omega) h1))
      go_wp2
      go_ret
      exact ⟨ret_bool HQ.out.symm, HB.out⟩
end Go.Proofs.Ytfipdoofgbjbjaa
