/- slices.Grow, slices.Concat of two rows of ints. No condition but sizes. -/
import Derived.Test.YtlidbiaadoigeaaKitA
import Derived.Test.YtlidbiaadoigeaaSli
import Derived.Lib.AppendZeros
namespace Go.Proofs.Ytlidbiaadoigeaa
open Go.RowKit
def GwIPost (w : World) (e : Ending) (w' : World) : Prop := ∃ A c, e = .returned (.slice A 0 c) ∧ Ow i64 w' w.heap.size 3 A 0 c [] ∧ Below w.heap.size w w'
set_option maxHeartbeats 1000000 in
theorem growi_any (n : Nat) (w : World) (hn : n ≤ 1000000) :
    Calls Try.prog 33 #[.slice none 0 0, .int .i64 n] w (GwIPost w) := by
  rcases Nat.eq_zero_or_pos n with h0 | h0
  · subst h0
    go_enter Try.func33, Try.ntmps33
    go_wp2
    go_ret
    exact ⟨none, 0, rfl, Ow.nil _ _ _, Below.refl _ _⟩
  · obtain ⟨i0, hi0, hz00, hz01, hz02⟩ := info_parts info_int
    have happ := Lib.run_append_nil_zeros (P := Try.prog) w 22 3 22 3 i0 (.int .i64 0) .i64 .i64 Try.underlying22 Try.underlying3 hi0 hz00 n h0 (by omega) (by omega) (by rw [hz02]; omega)
    have HA := hid happ
    have hc0 := hid (grownCap_le_maxLen w n 0 3 (by simp only [maxLen]; omega))
    have hge := hid (grownCap_ge w n 0 3)
    have hnp : (0 : Int) < (n : Int) := by omega
    have hnn : ¬ (n : Int) < 0 := by omega
    clear happ hi0 hz00 hz01 hz02
    generalize grownCap w n 0 3 = gc at *
    have hgi : (n : Int) ≤ (gc : Int) := by have := hge.out; omega
    have hg0 : (0 : Int) ≤ (gc : Int) := by omega
    go_enter Try.func33, Try.ntmps33
    go_wp2_with (at_builtin; refine Lib.wpList_append_run _ rfl _ _ _ _ rfl _ _ rfl rfl _ _ HA.out ?_)
    skip
    go_ret
    refine ⟨some ⟨w.heap.size, 0, none⟩, gc, rfl, ⟨rfl, ⟨by simp, .inr ⟨w.heap.size, gc, _, rfl, Nat.le_refl _, heap_alloc_new w.drew _, Nat.zero_le _, hc0.out, ?_, by simp⟩⟩⟩, ((Below.refl _ w).drew).alloc (by simp) _⟩
    have := hge.out
    simp [size_zeroCells, Value.cells]
    omega
def CcIPost (w : World) (n : Nat) (xs : List Int) (e : Ending) (w' : World) : Prop := ∃ R c, e = .returned (.slice R n c) ∧ Ow i64 w' w.heap.size 3 R n c xs ∧ Below w.heap.size w w'
set_option maxHeartbeats 2000000 in
theorem concati_any (A : Option Addr) (n c : Nat) (xs : List Int) (B : Option Addr) (m d : Nat) (ys : List Int) (b : Nat) (w : World) (h : Sl i64 0 w 0 w.heap.size A n xs) (h' : Sl i64 0 w 0 w.heap.size B m ys) (hn : n ≤ 10000) (hm : m ≤ 10000)
    (hg : Blk w b 22 #[.slice A n c, .slice B m d]) :
    Calls Try.prog 21 #[.slice (some ⟨b, 0, none⟩) 2 2] w (CcIPost w (n + m) (xs ++ ys)) := by
  have HR := hid h; have HT := hid h'; have HB := hid (Below.refl w.heap.size w); have PG := hid hg
  clear h h' hg
  have XR0 := HR; have XT0 := HT; have XG0 := PG
  go_enter Try.func21, Try.ntmps21
  go_wp2_with fail
  go_loopw [3, 11] (fun s3 i wr => ∃ j : Nat, j ≤ 2 ∧ i = .int .i64 j ∧ s3 = .int .i64 ((if j = 0 then 0 else if j = 1 then n else n + m : Nat) : Int) ∧ wr = w) (fun _ i _ => 2 - (intOf i).toNat)
  case atStart => exact ⟨0, Nat.zero_le _, rfl, rfl, rfl⟩
  case round =>
    obtain ⟨j, hj, rfl, rfl, hwr⟩ := hrel
    obtain rfl := hwr.symm
    have hj3 : j = 0 ∨ j = 1 ∨ j = 2 := by omega
    rcases hj3 with rfl | rfl | rfl
    · have hw0 : IntKind.i64.wrap ((0 : Int) + (n : Int)) = (n : Int) := by rw [IntKind.wrap_i64]; omega
      have hn0 : ¬ (n : Int) < 0 := by omega
      obtain ⟨y0, y1, yf⟩ := PG.out.cells2
      simp only [if_pos rfl]
      go_wp2
      go_roundw
      case rel => exact ⟨1, by omega, by go_num, by first | trivial | rfl | simp, by first | trivial | rfl⟩
      case measure => simp [intOf]
    · have hw0 : IntKind.i64.wrap ((n : Int) + (m : Int)) = (n : Int) + (m : Int) := by rw [IntKind.wrap_i64]; omega
      have hn0 : ¬ (n : Int) + (m : Int) < 0 := by omega
      obtain ⟨y0, y1, yf⟩ := PG.out.cells2
      simp only [if_neg (show ¬ (1 = 0) by omega), if_pos rfl]
      go_wp2
      go_roundw
      case rel => exact ⟨2, by omega, by go_num, by first | trivial | rfl | simp, by first | trivial | rfl⟩
      case measure => simp [intOf]
    · simp only [if_neg (show ¬ (2 = 0) by omega), if_neg (show ¬ (2 = 1) by omega)]
      go_wp2_with fail
      refine (growi_any (n + m) w (by omega)).mono ?_
      rintro e w1 ⟨R1, cr1, rfl, o1, hb⟩
      replace HR := hid (HR.out.step hb); replace HT := hid (HT.out.step hb); replace PG := hid (PG.out.step hb); replace HB := hid (below_then HB.out hb)
      have O1 := hid o1; have H1 := hid hb.size
      clear hb o1
      have XR := HR; have H0 := hid (Below.refl w1.heap.size w1); have XB := HB
      go_wp2_with fail
      go_loopw [6, 27] (fun s6 i wr => ∃ (j k cr : Nat) (R : Option Addr) (zs : List Int), j ≤ 2 ∧ i = .int .i64 j ∧ s6 = .slice R k cr ∧ Ow i64 wr w.heap.size 3 R k cr zs ∧ (zs = if j = 0 then [] else if j = 1 then xs else xs ++ ys) ∧ Below w.heap.size w wr ∧ w1.heap.size ≤ wr.heap.size) (fun _ i _ => 2 - (intOf i).toNat)
      case atStart => exact ⟨0, 0, cr1, R1, [], Nat.zero_le _, rfl, rfl, O1.out, rfl, XB.out, Nat.le_refl _⟩
      case round =>
        clear O1 H0 HB HR HT PG
        obtain ⟨j, k, cr, R, zs, hj, rfl, rfl, ho, hz, hbr, hsz⟩ := hrel
        have HR := hid (XR0.out.step hbr); have HT := hid (XT0.out.step hbr); have PG := hid (XG0.out.step hbr)
        have HO := hid ho; have HBr := hid hbr; have HZ := hid hsz
        clear ho hbr hsz
        have hj3 : j = 0 ∨ j = 1 ∨ j = 2 := by omega
        obtain ⟨i0, hi0, hz00, hz01, hz02⟩ := info_parts info_int
        rcases hj3 with rfl | rfl | rfl
        · obtain rfl : [] = zs := hz.symm
          have hk0 : k = 0 := by have h0 := HO.out.len; (try simp at h0); have hl1 := HR.out.len; have hl2 := HT.out.len; omega
          have hkb : k ≤ 20000 := by omega
          have HK := hid hk0
          clear hk0
          obtain ⟨y0, y1, yf⟩ := PG.out.cells2
          go_wp2_with (at_builtin; refine wpList_app i64 0 _ rfl _ _ 22 rfl w.heap.size 3 i0 _ 8 Try.underlying22 hi0 hz00 hz01 hz02 rfl R k cr _ rfl HO.out 0 wr.heap.size A n c xs rfl HR.out (fun _ => rfl) (by simp only [maxLen]; omega) (by omega) HBr.out.size ?_; intro R' cr' w7 own7 hg7 hat7; have hrow := hid HO.out.row_ge; have hb7 := hid (HBr.out.grown hg7 HBr.out.size (fun r e => hrow.out r e)); have OWN7 := hid own7; have hs7 := hid hg7.size; clear own7 hg7 hat7 hrow)
          clear hi0 hz00 hz01 hz02 y0 y1 yf
          go_roundw
          case rel => exact ⟨1, k + n, cr', R', [] ++ xs, by omega, by go_num, rfl, OWN7.out, by simp, hb7.out, by have := hs7.out; have := HZ.out; omega⟩
          case measure => simp [intOf]
        · obtain rfl : xs = zs := hz.symm
          have hk0 : k = n := by have h0 := HO.out.len; (try simp at h0); have hl1 := HR.out.len; have hl2 := HT.out.len; omega
          have hkb : k ≤ 20000 := by omega
          have HK := hid hk0
          clear hk0
          obtain ⟨y0, y1, yf⟩ := PG.out.cells2
          go_wp2_with (at_builtin; refine wpList_app i64 0 _ rfl _ _ 22 rfl w.heap.size 3 i0 _ 8 Try.underlying22 hi0 hz00 hz01 hz02 rfl R k cr _ rfl HO.out 0 wr.heap.size B m d ys rfl HT.out (fun _ => rfl) (by simp only [maxLen]; omega) (by omega) HBr.out.size ?_; intro R' cr' w7 own7 hg7 hat7; have hrow := hid HO.out.row_ge; have hb7 := hid (HBr.out.grown hg7 HBr.out.size (fun r e => hrow.out r e)); have OWN7 := hid own7; have hs7 := hid hg7.size; clear own7 hg7 hat7 hrow)
          clear hi0 hz00 hz01 hz02 y0 y1 yf
          go_roundw
          case rel => exact ⟨2, k + m, cr', R', xs ++ ys, by omega, by go_num, rfl, OWN7.out, by simp, hb7.out, by have := hs7.out; have := HZ.out; omega⟩
          case measure => simp [intOf]
        · obtain rfl : xs ++ ys = zs := hz.symm
          have hk0 : k = n + m := by have h0 := HO.out.len; (try simp at h0); have hl1 := HR.out.len; have hl2 := HT.out.len; omega
          subst hk0
          go_wp2
          go_ret
          exact ⟨R, cr, rfl, HO.out, HBr.out⟩
end Go.Proofs.Ytlidbiaadoigeaa
