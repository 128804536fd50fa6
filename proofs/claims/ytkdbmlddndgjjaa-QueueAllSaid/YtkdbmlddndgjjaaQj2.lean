/- slices.SortStableFunc on a row in order; queue.merged, queue.Join. No condition but sizes. -/
import Derived.Test.YtkdbmlddndgjjaaQj
import Derived.Test.YtkdbmlddndgjjaaQu
import Derived.Deep.RegionHeld3
namespace Go.Proofs.Ytkdbmlddndgjjaa
open Go.RowKit
set_option maxHeartbeats 2000000 in
theorem insert_any (A : Option Addr) (n c : Nat) (xs : List Cb) (w : World) (h : Sm 2 encC (0, 0) w 0 w.heap.size A n xs) (hn : n ≤ 1000000) (hu : QUp xs) :
    Calls Try.prog 41 #[.slice A n c, .int .i64 0, .int .i64 n, .func (.func 25) #[] #[]] w fun e w' => (∃ v, e = .returned v) ∧ Below w.heap.size w w' := by
  have eg := enters_of Try.func25 (by kernel_rfl) rfl
  have HR := hid h; have HU := hid hu
  have hl := hid h.len
  clear h hu
  go_enter Try.func41, Try.ntmps41
  go_wp2_with fail
  go_loopw [8] (fun i wr => ∃ q : Nat, i = .int .i64 q ∧ 1 ≤ q ∧ Below w.heap.size w wr) (fun i _ => n - (intOf i).toNat)
  case atStart => exact ⟨1, rfl, Nat.le_refl _, Below.refl _ _⟩
  case round =>
    obtain ⟨q, rfl, hq1, hbr⟩ := hrel
    have HB := hid hbr
    clear hbr
    by_cases hqn : q < n
    · obtain ⟨j, hj⟩ : ∃ j : Nat, q = j + 1 := ⟨q - 1, by omega⟩
      obtain ⟨b, off, rfl, _, hbh, hc⟩ := HR.out.row (by omega)
      have HC : Hid (∀ W, Below w.heap.size w W → ∀ q, q < n → W.cell? ⟨b, off + q * 2, none⟩ = some (.int .u64 (xs[q]?.getD (0, 0)).1) ∧ W.cell? ⟨b, off + q * 2 + 1, none⟩ = some (.int .u64 (xs[q]?.getD (0, 0)).2)) := hid (fun W hb q hq => ⟨(hb.cell (p := ⟨b, off + q * 2, none⟩) (by show b < _; omega)).trans (by have := hc q hq 0 (by omega); rwa [Nat.add_zero] at this), (hb.cell (p := ⟨b, off + q * 2 + 1, none⟩) (by show b < _; omega)).trans (hc q hq 1 (by omega))⟩)
      clear hc
      obtain ⟨x, hx⟩ : ∃ x, x = xs[q]?.getD (0, 0) := ⟨_, rfl⟩
      obtain ⟨y, hy⟩ : ∃ y, y = xs[j]?.getD (0, 0) := ⟨_, rfl⟩
      have HS : Hid (∀ W, Below w.heap.size w W → (W.cell? ⟨b, off + q * 2, none⟩ = some (.int .u64 x.1) ∧ W.cell? ⟨b, off + q * 2 + 1, none⟩ = some (.int .u64 x.2)) ∧ W.cell? ⟨b, off + j * 2, none⟩ = some (.int .u64 y.1) ∧ W.cell? ⟨b, off + j * 2 + 1, none⟩ = some (.int .u64 y.2)) := hid (fun W hb => by rw [hx, hy]; exact ⟨HC.out W hb q (by omega), HC.out W hb j (by omega)⟩)
      have HX : Hid (perAt xs q = x.1) := hid (by rw [hx]; rfl)
      have HY : Hid (perAt xs j = y.1) := hid (by rw [hy]; rfl)
      have hxy : ¬ x.1 < y.1 := by
        have := HU.out q (by rw [hl.out]; omega) (by omega)
        rw [HX.out, show q - 1 = j by omega, HY.out] at this
        omega
      have hw1 : IntKind.i64.wrap ((q : Int) - 1) = (j : Int) := by rw [IntKind.wrap_i64]; omega
      have hjn : (j : Int) < (n : Int) := by omega
      have hqi : (q : Int) < (n : Int) := by omega
      have hq0 : (0 : Int) < (q : Int) := by omega
      have hq0n : 0 < q := by omega
      have hq0d : decide (0 < q) = true := decide_eq_true hq0n
      have hq0e : decide ((0 : Int) < (q : Int)) = true := decide_eq_true hq0
      have hwq : IntKind.i64.wrap ((q : Int) + 1) = (q : Int) + 1 := by rw [IntKind.wrap_i64]; omega
      have HJ := hid hj
      clear hx hy HC hj
      have HE := hid (show cmpZ x.1 y.1 = if y.1 < x.1 then 1 else 0 by unfold cmpZ; rw [if_neg hxy])
      clear hxy
      go_wp2_with fail
      skip
      go_loopw [9] (fun i wz => i = .int .i64 q ∧ Below w.heap.size w wz) (fun _ _ => 0)
      case atStart => exact ⟨rfl, HB.out⟩
      case round =>
        clear HB
        obtain ⟨rfl, hbz⟩ := hrel
        have HB := hid hbz
        clear hbz
        rename World => wz
        obtain ⟨⟨f0, f1⟩, f2, f3⟩ := HS.out wz HB.out
        go_wp2_with fail
        go_region_held3 (fun W => (W.cell? ⟨b, off + q * 2, none⟩ = some (.int .u64 x.1) ∧ W.cell? ⟨b, off + q * 2 + 1, none⟩ = some (.int .u64 x.2)) ∧ W.cell? ⟨b, off + j * 2, none⟩ = some (.int .u64 y.1) ∧ W.cell? ⟨b, off + j * 2 + 1, none⟩ = some (.int .u64 y.2))
          (first | (exact HS.out _ HB.out.drew) | (exact HS.out _ hq1))
          (first | (go_at_call 25; go_split_ands; (with_reducible refine (period_any x y wz.drew).mono ?_); rintro e w1 ⟨rfl, hb⟩; have hq1 := below_then HB.out.drew hb))
        have HB1 := hid hq1
        clear hb hq1 f0 f1 f2 f3
        have e1 : cmpZ x.1 y.1 = 1 ∨ cmpZ x.1 y.1 = 0 := by rw [HE.out]; split <;> simp
        rcases e1 with e1 | e1
        all_goals
          skip
          go_wp2
          go_roundw
          case rel => exact ⟨q + 1, by go_num, by omega, HB1.out⟩
          case measure => simp [intOf]; omega
    · have hqn' : ¬ (q : Int) < (n : Int) := by omega
      go_wp2
      go_end0
      exact ⟨⟨_, rfl⟩, HB.out⟩
set_option maxHeartbeats 2000000 in
theorem stable_any (A : Option Addr) (n c : Nat) (xs : List Cb) (w : World) (h : Sm 2 encC (0, 0) w 0 w.heap.size A n xs) (hn : n ≤ 19) (hu : QUp xs) :
    Calls Try.prog 40 #[.slice A n c, .int .i64 n, .func (.func 25) #[] #[]] w fun e w' => (∃ v, e = .returned v) ∧ Below w.heap.size w w' := by
  have HR := hid h; have HU := hid hu
  have hn20 : ¬ (20 : Int) ≤ (n : Int) := by omega
  have hn21 : ¬ (20 : Int) < (n : Int) := by omega
  clear h hu
  go_enter Try.func40, Try.ntmps40
  go_wp2_with fail
  go_loopw [7, 8] (fun s7 s8 wr => s7 = .int .i64 0 ∧ s8 = .int .i64 20 ∧ wr = w) (fun _ _ _ => 0)
  case atStart => exact ⟨rfl, rfl, rfl⟩
  case round =>
    obtain ⟨rfl, rfl, hwr⟩ := hrel
    obtain rfl := hwr.symm
    go_wp2_with fail
    refine (insert_any A n c xs w HR.out (by omega) HU.out).mono ?_
    rintro e w1 ⟨⟨v, rfl⟩, hb⟩
    have HB := hid hb
    clear hb
    go_wp2_with fail
    skip
    go_loopw [6] (fun s6 wr => s6 = .int .i64 20 ∧ Below w.heap.size w wr) (fun _ _ => 0)
    case atStart => exact ⟨rfl, HB.out⟩
    case round =>
      obtain ⟨rfl, hbr⟩ := hrel
      have HBr := hid hbr
      clear hbr
      go_wp2
      go_end0
      exact ⟨⟨_, rfl⟩, HBr.out⟩
theorem sorts_any (A : Option Addr) (n c : Nat) (xs : List Cb) (w : World) (h : Sm 2 encC (0, 0) w 0 w.heap.size A n xs) (hn : n ≤ 19) (hu : QUp xs) :
    Calls Try.prog 37 #[.slice A n c, .func (.func 25) #[] #[]] w fun e w' => (∃ v, e = .returned v) ∧ Below w.heap.size w w' := by
  have HR := hid h; have HU := hid hu
  clear h hu
  go_enter Try.func37, Try.ntmps37
  go_wp2_with fail
  refine (stable_any A n c xs w HR.out hn HU.out).mono ?_
  rintro e w1 ⟨⟨v, rfl⟩, hb⟩
  have HB := hid hb
  clear hb
  go_wp2
  go_end0
  exact ⟨⟨_, rfl⟩, HB.out⟩
theorem merged_any (A : Option Addr) (n c : Nat) (xs : List Cb) (B : Option Addr) (m d : Nat) (ys : List Cb) (w : World) (h : Sm 2 encC (0, 0) w 0 w.heap.size A n xs) (h' : Sm 2 encC (0, 0) w 0 w.heap.size B m ys) (hn : n + m ≤ 19) (hu : QUp (xs ++ ys)) :
    Calls Try.prog 30 #[.slice A n c, .slice B m d, .func (.func 25) #[] #[]] w (CcPost w (n + m) (xs ++ ys)) := by
  have HR := hid h; have HT := hid h'; have HU := hid hu; have HB := hid (Below.refl w.heap.size w)
  clear h h' hu
  have bx := below_box w (.cells #[.slice A n c, .slice B m d] 22)
  replace HR := hid (HR.out.step bx); replace HT := hid (HT.out.step bx); replace HB := hid (below_then HB.out bx)
  clear bx
  have PG := hid (Blk.new w 22 #[.slice A n c, .slice B m d])
  go_enter Try.func30, Try.ntmps30
  go_wp2_with fail
  refine (concat_any A n c xs B m d ys w.heap.size _ HR.out HT.out (by omega) (by omega) PG.out).mono ?_
  rintro e w1 ⟨R, cr, rfl, o1, hb⟩
  have O1 := hid o1
  replace HB := hid (below_then HB.out hb)
  clear hb o1
  go_wp2_with fail
  refine (sorts_any R (n + m) cr (xs ++ ys) w1 (O1.out.sm.mono (Nat.zero_le _) (Nat.le_refl _)) hn HU.out).mono ?_
  rintro e w2 ⟨⟨v, rfl⟩, hb⟩
  replace O1 := hid (O1.out.step hb)
  replace HB := hid (below_then HB.out hb)
  clear hb
  go_wp2
  go_ret
  exact ⟨R, cr, rfl, O1.out.mono (by simp), HB.out⟩
end Go.Proofs.Ytkdbmlddndgjjaa
