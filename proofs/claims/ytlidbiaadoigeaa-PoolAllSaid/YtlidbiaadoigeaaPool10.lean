/- package pool: the iterator of Take (next). No condition but sizes. -/
import Derived.RangeFuncNested
import Derived.RangeFuncBound
import Derived.RangeFuncCalls
import Derived.RangeFuncLeaves
import Derived.RangeFuncBox
import Derived.Shelf.Abstract
import Derived.OwnWalkIn
import Derived.TacticsInMore
import Derived.LoopNIn
import Derived.LoopIn
import Derived.Test.YtlidbiaadoigeaaKitA
import Derived.Test.YtlidbiaadoigeaaPool9
namespace Go.Proofs.Ytlidbiaadoigeaa
open Go.RowKit Go.Shelf
attribute [local go_sem] Oper.semAt_some

theorem next_any (base pages : Int) (A : Option Addr) (n c : Nat) (w : World) :
    Calls Try.prog 28 #[pv base pages A n c] w fun e w' => e = .returned (.func (.func 37) #[] #[.pointer (some ⟨w.heap.size, 0, none⟩)]) ∧ w.alloc (.cells #[.int .i64 base, .int .i64 pages, .slice A n c] 24) = w' := by
  go_enter Try.func28, Try.ntmps28
  go_wp2
  go_ret
  exact ⟨rfl, rfl⟩

/-- what has come when k rounds are over: the row from behind -/
def backL (xs : List Int) (k : Nat) : List Int := (List.range k).map fun j => xs[xs.length - 1 - j]?.getD 0
theorem backL_succ (xs : List Int) (k : Nat) : backL xs (k + 1) = backL xs k ++ [xs[xs.length - 1 - k]?.getD 0] := by simp [backL, List.range_succ]
theorem backL_length (xs : List Int) (k : Nat) : (backL xs k).length = k := by simp [backL]

set_option maxRecDepth 100000 in
set_option maxHeartbeats 2000000 in
theorem next1_in (m l Bs n₀ : Nat) (base pages : Int) (A : Option Addr) (n c : Nat) (xs : List Int) (hm : 1 ≤ m) (hBs : Bs < n₀) (hn : n ≤ 1000000) (J Jx : List Int → World → Prop)
    (hY : ∀ pre x W, J pre W → pre.length < n → YieldAt Fence.wide (m - 1) Try.prog l #[.int .i64 x] W fun e W' =>
      (e = .returned (.bool true) ∧ J (pre ++ [x]) W' ∧ Below n₀ W W') ∨ (e = .returned (.bool false) ∧ Jx (pre ++ [x]) W'))
    (W : World) (hb : Blk W Bs 24 #[.int .i64 base, .int .i64 pages, .slice A n c]) (lo : Nat) (hx : Sl i64 0 W lo n₀ A n xs) (h0 : J [] W) :
    CallsIn Fence.wide m Try.prog 37 #[.func (.yield l) #[] #[], .pointer (some ⟨Bs, 0, none⟩)] W fun e W' => (∃ v, e = .returned v) ∧
      (J (backL xs n) W' ∨ ∃ k, k < n ∧ Jx (backL xs (k + 1)) W') := by
  refine callsIn_of_wp Try.func37 rfl trivial ?_ rfl
  simp only [Try.ntmps37, List.size_toArray, List.length_cons, List.length_nil, Nat.reduceAdd, Nat.reduceSub, Array.replicate_succ, Array.replicate_zero, List.push_toArray, List.append_toArray, List.nil_append, List.cons_append]
  obtain ⟨k0, k1, k2, kf⟩ := hb.cells3
  have hL := hid hx.len
  have HX := hid hx; clear hx
  gi_wp2
  gi_loopw [3] (fun i wr => ∃ k : Nat, k ≤ n ∧ i = .int .i64 ((n : Int) - 1 - (k : Int)) ∧ J (backL xs k) wr ∧ Below n₀ W wr) (fun i _ => (intOf i + 1).toNat)
  case atStart => exact ⟨0, Nat.zero_le _, by simp, h0, Below.refl _ _⟩
  case round =>
    obtain ⟨k, hk, rfl, hJs, hnx⟩ := hrel
    obtain ⟨m0, m1, m2, mf⟩ := (hb.below hnx hBs).cells3
    by_cases hlt : k < n
    · obtain ⟨b, off, rfl, _, hbB, hc⟩ := HX.out.row (by omega)
      have g : wr.cell? ⟨b, off + (n - 1 - k), none⟩ = some (.int .i64 (xs[n - 1 - k]?.getD 0)) := (hnx.cell (p := ⟨b, off + (n - 1 - k), none⟩) hbB).trans (hc _ (by omega))
      clear hc
      obtain ⟨x, hX⟩ : ∃ x, x = xs[n - 1 - k]?.getD 0 := ⟨_, rfl⟩
      rw [← hX] at g
      obtain ⟨fn, tmps, assign, body, hy, hR⟩ := hY _ x wr hJs (by rw [backL_length]; exact hlt)
      have HX' := hid hX; clear hX
      gi_wp2
      refine hR.mono ?_
      rintro e W3 (⟨rfl, hJ3, hk3⟩ | ⟨rfl, hJx3⟩)
      · gi_wp2
        go_roundw
        case rel => exact ⟨k + 1, by omega, by go_num, by rw [backL_succ, hL.out, ← HX'.out]; exact hJ3, hnx.trans hk3⟩
        case measure => simp [intOf]; omega
      · gi_wp2
        refine bodyPost_ret (results_none rfl _ _ _) rfl ?_
        exact ⟨⟨_, rfl⟩, .inr ⟨k, hlt, by rw [backL_succ, hL.out, ← HX'.out]; exact hJx3⟩⟩
    · obtain rfl : k = n := by omega
      gi_wp2
      go_end0
      exact ⟨⟨_, rfl⟩, .inl hJs⟩

theorem next_stops (m Bs n₀ : Nat) (base pages : Int) (A : Option Addr) (n c lo : Nat) (xs : List Int) (hm : 1 ≤ m) (hBs : Bs < n₀) (hn : n ≤ 1000000) (w : World) (hn₀ : n₀ ≤ w.heap.size)
    (hb : Blk w Bs 24 #[.int .i64 base, .int .i64 pages, .slice A n c]) (hx : Sl i64 0 w lo n₀ A n xs) :
    SeqStopsK Fence.wide m Try.prog 37 #[.pointer (some ⟨Bs, 0, none⟩)] (fun x : Int => #[Value.int .i64 x]) (Below n₀) (fun ys => ys = backL xs n) (fun pre => ∃ k, k < n ∧ pre = backL xs (k + 1)) n w :=
  fun l J Jx W hW _ _ hY h0 => by
    refine (next1_in m l Bs n₀ base pages A n c xs hm hBs hn J Jx hY W (hb.below hW (by omega)) lo (hx.below hW hn₀) h0).mono ?_
    rintro e W' ⟨he, hj | ⟨k, hk, hj⟩⟩
    · exact ⟨he, .inl ⟨_, rfl, hj⟩⟩
    · exact ⟨he, .inr ⟨_, ⟨k, hk, rfl⟩, hj⟩⟩

/-! ### what abides the turn of a block that is no cells -/
theorem keepsOthers_below {W W' : World} (h : Below W.heap.size W W') : KeepsOthers W W' := ⟨h.size, fun k o hk _ => (h.block k (Array.getElem?_eq_some_iff.1 hk).1).trans hk⟩
/-! ### Take -/
def takeE (base pages : Int) (xs : List Int) : Int := if freeB base pages xs = true then (if xs = [] then 6 else 0) else 170
theorem take_last {xs : List Int} {n : Nat} {x : Int} (hl : xs.length = n) (h0 : 0 < n) (hx : x = xs[n - 1]?.getD 0) : xs = xs.take (n - 1) ++ [x] := by
  have h := take_snoc (k := n - 1) (by omega) hx
  rw [show n - 1 + 1 = n by omega, List.take_of_length_le (by omega)] at h
  exact h
def TakePost (w : World) (base pages : Int) (xs : List Int) (e : Ending) (w' : World) : Prop :=
  ∃ b' p' A' n' c' ys pg, e = .returned (.tuple #[pv b' p' A' n' c', .int .i64 pg, .int .i64 (takeE base pages xs)]) ∧
    (if takeE base pages xs = 0 then b' = base ∧ p' = pages ∧ xs = ys ++ [pg] else b' = 0 ∧ p' = 0 ∧ ys = [] ∧ pg = 0) ∧ Ow i64 w' w.heap.size 3 A' n' c' ys ∧ Below w.heap.size w w'

set_option maxRecDepth 100000 in
set_option maxHeartbeats 4000000 in
theorem take_any (base pages : Int) (A : Option Addr) (n c lo : Nat) (xs : List Int) (w : World) (h : Sl i64 0 w lo w.heap.size A n xs) (hn : n ≤ 500) (hnc : n ≤ c) :
    CallsIn Fence.wide 5 Try.prog 10 #[pv base pages A n c] w (TakePost w base pages xs) := by
  have hb0 := (Blk.new w 24 #[.int .i64 base, .int .i64 pages, .slice A n c])
  have HX := hid h
  have hq := ((h.boxed (.cells #[.int .i64 base, .int .i64 pages, .slice A n c] 24)).boxed (.cells #[.int .i64 0, .int .i64 0, .slice none 0 0] 24))
  have hq2 := (hq.boxed (.cells #[.int .i64 0] 3)).boxed (.cells #[.int .i64 0] 28)
  clear hq h
  by_cases hf : freeB base pages xs = true
  · have c1 := hid (check_yes base pages A n c lo xs _ hq2 (by omega) hf)
    clear hq2
    refine callsIn_of_wp_marks Try.func10 rfl trivial ?_ rfl
    simp only [Try.ntmps10, List.size_toArray, List.length_cons, List.length_nil, Nat.reduceAdd, Nat.reduceSub, Array.replicate_succ, Array.replicate_zero, List.push_toArray, List.append_toArray, List.nil_append, List.cons_append]
    gi_wp2_with fail
    refine ⟨trivial, (callsIn_wide.2 c1.out).mono ?_⟩
    rintro e w1 ⟨rfl, hb⟩
    have B0 := (((hb0.alloc (.cells #[.int .i64 0, .int .i64 0, .slice none 0 0] 24)).alloc (.cells #[.int .i64 0] 3)).alloc (.cells #[.int .i64 0] 28)).below hb (by simp <;> omega)
    have B1 := (((Blk.new2 w 24 #[.int .i64 0, .int .i64 0, .slice none 0 0] (.cells #[.int .i64 base, .int .i64 pages, .slice A n c] 24)).alloc (.cells #[.int .i64 0] 3)).alloc (.cells #[.int .i64 0] 28)).below hb (by simp <;> omega)
    have B2 := ((Blk.new3 w 3 #[.int .i64 0] (.cells #[.int .i64 base, .int .i64 pages, .slice A n c] 24) (.cells #[.int .i64 0, .int .i64 0, .slice none 0 0] 24)).alloc (.cells #[.int .i64 0] 28)).below hb (by simp <;> omega)
    have B3 := (Blk.new4 w 28 #[.int .i64 0] (.cells #[.int .i64 base, .int .i64 pages, .slice A n c] 24) (.cells #[.int .i64 0, .int .i64 0, .slice none 0 0] 24) (.cells #[.int .i64 0] 3)).below hb (by simp <;> omega)
    have hz : w.heap.size + 4 ≤ w1.heap.size := by have := hb.size; simp at this; omega
    have hB : Below w.heap.size w w1 := Below.trans (b := (((w.alloc (.cells #[.int .i64 base, .int .i64 pages, .slice A n c] 24)).alloc (.cells #[.int .i64 0, .int .i64 0, .slice none 0 0] 24)).alloc (.cells #[.int .i64 0] 3)).alloc (.cells #[.int .i64 0] 28)) (by repeat (first | (with_reducible exact (Below.refl _ _)) | (with_reducible refine Below.setCell ?_ ?_ _; rotate_left; focus (first | omega | (simp; done) | (simp; omega) | (simp only [World.size_alloc, size_setRow, World.size_setCell]; omega))) | (with_reducible refine below_setRow ?_ ?_ _; rotate_left; focus (first | omega | (simp; done) | (simp; omega) | (simp only [World.size_alloc, size_setRow, World.size_setCell]; omega))) | (with_reducible refine Below.alloc ?_ ?_ _; rotate_left; focus (first | omega | (simp; done) | (simp; omega) | (simp only [World.size_alloc, size_setRow, World.size_setCell]; omega))) | (with_reducible refine Below.drew ?_) | (with_reducible refine below_drewN ?_ _) | (with_reducible exact Below.refl _ _))) (hb.mono (by simp <;> omega))
    clear hb hb0 c1
    obtain ⟨k0, k1, k2, kf⟩ := B0.cells3
    gi_wp2_with fail
    refine ⟨trivial, (callsIn_wide.2 (next_any _ _ _ _ _ _)).mono ?_⟩
    rintro e W0 ⟨rfl, rfl⟩
    clear k0 k1 k2 kf
    obtain ⟨W0, hW0⟩ : ∃ W0, w1.alloc (.cells #[.int .i64 base, .int .i64 pages, .slice A n c] 24) = W0 := ⟨_, rfl⟩
    have Bn : Blk W0 w1.heap.size 24 #[.int .i64 base, .int .i64 pages, .slice A n c] := hW0 ▸ Blk.new _ _ _
    have hs0 : W0.heap.size = w1.heap.size + 1 := by rw [← hW0]; simp
    have C0 := hW0 ▸ B0.alloc (.cells #[.int .i64 base, .int .i64 pages, .slice A n c] 24)
    have C1 := hW0 ▸ B1.alloc (.cells #[.int .i64 base, .int .i64 pages, .slice A n c] 24)
    have C2 := hW0 ▸ B2.alloc (.cells #[.int .i64 base, .int .i64 pages, .slice A n c] 24)
    have C3 := hW0 ▸ B3.alloc (.cells #[.int .i64 base, .int .i64 pages, .slice A n c] 24)
    have hBW : Below w.heap.size w W0 := hW0 ▸ (hB.alloc hB.size (.cells #[.int .i64 base, .int .i64 pages, .slice A n c] 24))
    rw [hW0]
    clear hW0 B0 B1 B2 B3 hB
    gi_wp2
    refine wpIn_rangeFunc_ownF rfl (by omega) (gf := 37) (lb := #[.pointer (some ⟨w1.heap.size, 0, none⟩)]) rfl trivial (enters_of Try.func37 (by kernel_rfl) rfl)
      (next_stops (5 - 1) w1.heap.size (w1.heap.size + 1) base pages A n c lo xs (by omega) (by omega) (by omega) W0 (by omega) Bn ((HX.out.below hBW (Nat.le_refl _)).mono (Nat.le_refl _) (by omega))) belowK_t (belowK_b (by omega)) (Below.refl _ _) (fun _ => rfl)
      (fun pre W => (pre = [] ∧ Blk W w.heap.size 24 #[.int .i64 base, .int .i64 pages, .slice A n c] ∧ Blk W (w.heap.size + 1) 24 #[.int .i64 0, .int .i64 0, .slice none 0 0] ∧ Blk W (w.heap.size + 1 + 1) 3 #[.int .i64 0] ∧ Blk W (w.heap.size + 1 + 1 + 1) 28 #[.int .i64 0] ∧ w.heap.size + 4 ≤ W.heap.size) ∧ Below w.heap.size w W)
      (fun cc pre W => (cc = .ret ∧ ∃ x A' c', pre = [x] ∧ Blk W (w.heap.size + 1) 24 #[.int .i64 base, .int .i64 pages, .slice A' (n - 1) c'] ∧ Ow i64 W (w.heap.size + 4) 3 A' (n - 1) c' (xs.take (n - 1)) ∧ Blk W (w.heap.size + 1 + 1) 3 #[.int .i64 x] ∧ Blk W (w.heap.size + 1 + 1 + 1) 28 #[.int .i64 0]) ∧ Below w.heap.size w W)
      (OwnFrom.and (Own.from (fun s A B row hs hg hr => ⟨hs.1, hs.2.1.abides hg hr, hs.2.2.1.abides hg hr, hs.2.2.2.1.abides hg hr, hs.2.2.2.2.1.abides hg hr, Nat.le_trans hs.2.2.2.2.2 hg.size⟩) _) (ownFrom_below (Nat.le_refl _) (by omega)))
      (fun cc => OwnFrom.and (Own.from (fun s A B row hs hg hr => by obtain ⟨e1, x, A', c', e2, g1, g2, g3, g4⟩ := hs; exact ⟨e1, x, A', c', e2, g1.abides hg hr, g2.abides hg hr, g3.abides hg hr, g4.abides hg hr⟩) _) (ownFrom_below (Nat.le_refl _) (by omega)))
      ⟨⟨rfl, C0, C1, C2, C3, by omega⟩, hBW⟩
      (fun x => { tmps := #[pv base pages A n c, .pointer (some ⟨w.heap.size, 0, none⟩), .pointer (some ⟨w.heap.size + 1, 0, none⟩), .pointer (some ⟨w.heap.size + 1 + 1, 0, none⟩), .pointer (some ⟨w.heap.size + 1 + 1 + 1, 0, none⟩), .int .i64 0, .int .i64 x, undef,
          .agg #[.int .i64 base, .int .i64 pages, .slice A n c], .int .i64 0, .int .i64 0, .bool false, undef, undef, .agg #[.int .i64 base, .int .i64 pages, .slice A n c], .func (.func 37) #[] #[.pointer (some ⟨w1.heap.size, 0, none⟩)], .int .i64 x, undef, undef, undef, undef, undef, undef, undef, undef, undef, undef, undef, undef, undef, undef], defers := [] }) ?assign ?body ?done ?stop
    case assign =>
      intro l x W K hK
      gi_wp2
      exact hK
    case body =>
      rintro l pre x W ⟨⟨rfl, D0, D1, D2, D3, hsz⟩, hBr⟩ hlt
      obtain ⟨k0, k1, k2, kf⟩ := D0.cells3
      have hlt' : 0 < n := by simpa using hlt
      clear hlt
      gi_wp2_with fail
      refine ⟨trivial, (CallsIn.inRound l (callsIn_wide.2 (clone_int A (n - 1) (n - 1) lo (xs.take (n - 1)) W (((HX.out.below hBr (Nat.le_refl _)).mono (Nat.le_refl _) hBr.size).take (by omega)) (by omega)))).mono ?_⟩
      rintro e w2 ⟨A2, c2, rfl, hown, hb2⟩
      have E0 := D0.below hb2 (by omega)
      have E1 := D1.below hb2 (by omega)
      have E2 := D2.below hb2 (by omega)
      have E3 := D3.below hb2 (by omega)
      clear k0 k1 k2 kf D0 D1 D2 D3
      obtain ⟨k0, k1, k2, kf⟩ := E0.cells3
      obtain ⟨r0, r1, r2, rf⟩ := E1.cells3
      obtain ⟨q0, qf⟩ := E2.cells1
      obtain ⟨s0, sf⟩ := E3.cells1
      gi_wp2
      have F1 := (((((E1.far (p := ⟨w.heap.size, 2, none⟩) (by simp) (.slice A2 (n - 1) c2)).setCell 0 (.int .i64 base)).setCell 1 (.int .i64 pages)).setCell 2 (.slice A2 (n - 1) c2)).far (p := ⟨w.heap.size + 1 + 1, 0, none⟩) (by simp) (.int .i64 x)).far (p := ⟨w.heap.size + 1 + 1 + 1, 0, none⟩) (by simp <;> omega) (.int .i64 0)
      have F2 := (((((E2.far (p := ⟨w.heap.size, 2, none⟩) (by simp; omega) (.slice A2 (n - 1) c2)).far (p := ⟨w.heap.size + 1, 0, none⟩) (by simp) (.int .i64 base)).far (p := ⟨w.heap.size + 1, 1, none⟩) (by simp) (.int .i64 pages)).far (p := ⟨w.heap.size + 1, 2, none⟩) (by simp) (.slice A2 (n - 1) c2)).setCell 0 (.int .i64 x)).far (p := ⟨w.heap.size + 1 + 1 + 1, 0, none⟩) (by simp) (.int .i64 0)
      have F3 := (((((E3.far (p := ⟨w.heap.size, 2, none⟩) (by simp; omega) (.slice A2 (n - 1) c2)).far (p := ⟨w.heap.size + 1, 0, none⟩) (by simp; omega) (.int .i64 base)).far (p := ⟨w.heap.size + 1, 1, none⟩) (by simp; omega) (.int .i64 pages)).far (p := ⟨w.heap.size + 1, 2, none⟩) (by simp; omega) (.slice A2 (n - 1) c2)).far (p := ⟨w.heap.size + 1 + 1, 0, none⟩) (by simp) (.int .i64 x)).setCell 0 (.int .i64 0)
      have hBr2 : Below w.heap.size w w2 := hBr.trans (hb2.mono (by omega))
      have hz4 := hb2.size
      exact ⟨(((((((keepsOthers_below hb2).trans (KeepsOthers.setCell _ _ _)).trans (KeepsOthers.setCell _ _ _)).trans (KeepsOthers.setCell _ _ _)).trans (KeepsOthers.setCell _ _ _)).trans (KeepsOthers.setCell _ _ _)).trans (KeepsOthers.setCell _ _ _)),
        ⟨rfl, x, A2, c2, rfl, F1, (((((((hown.mono hsz).setCell (by simp <;> omega) _).setCell (by simp <;> omega) _).setCell (by simp <;> omega) _).setCell (by simp <;> omega) _).setCell (by simp <;> omega) _).setCell (by simp <;> omega) _), F2, F3⟩, (by repeat (first | (with_reducible exact hBr2) | (with_reducible refine Below.setCell ?_ ?_ _; rotate_left; focus (first | omega | (simp; done) | (simp; omega) | (simp only [World.size_alloc, size_setRow, World.size_setCell]; omega))) | (with_reducible refine below_setRow ?_ ?_ _; rotate_left; focus (first | omega | (simp; done) | (simp; omega) | (simp only [World.size_alloc, size_setRow, World.size_setCell]; omega))) | (with_reducible refine Below.alloc ?_ ?_ _; rotate_left; focus (first | omega | (simp; done) | (simp; omega) | (simp only [World.size_alloc, size_setRow, World.size_setCell]; omega))) | (with_reducible refine Below.drew ?_) | (with_reducible refine below_drewN ?_ _) | (with_reducible exact Below.refl _ _)))⟩
    case done =>
      rintro D ys W hD rfl ⟨⟨hnil, D0, D1, D2, D3, hsz⟩, hBr⟩ hK
      have hn0 : n = 0 := by have := congrArg List.length hnil; rwa [backL_length] at this
      have hnil' : xs = [] := List.eq_nil_of_length_eq_zero (HX.out.len.trans hn0)
      obtain ⟨r0, r1, r2, rf⟩ := D1.cells3
      obtain ⟨q0, qf⟩ := D2.cells1
      obtain ⟨s0, sf⟩ := D3.cells1
      gi_wp2
      have F1 := ((((D1.setCell 0 (.int .i64 0)).setCell 1 (.int .i64 0)).setCell 2 (.slice none 0 0)).far (p := ⟨w.heap.size + 1 + 1, 0, none⟩) (by simp) (.int .i64 0)).far (p := ⟨w.heap.size + 1 + 1 + 1, 0, none⟩) (by simp <;> omega) (.int .i64 6)
      have F2 := ((((D2.far (p := ⟨w.heap.size + 1, 0, none⟩) (by simp) (.int .i64 0)).far (p := ⟨w.heap.size + 1, 1, none⟩) (by simp) (.int .i64 0)).far (p := ⟨w.heap.size + 1, 2, none⟩) (by simp) (.slice none 0 0)).setCell 0 (.int .i64 0)).far (p := ⟨w.heap.size + 1 + 1 + 1, 0, none⟩) (by simp) (.int .i64 6)
      have F3 := ((((D3.far (p := ⟨w.heap.size + 1, 0, none⟩) (by simp; omega) (.int .i64 0)).far (p := ⟨w.heap.size + 1, 1, none⟩) (by simp; omega) (.int .i64 0)).far (p := ⟨w.heap.size + 1, 2, none⟩) (by simp; omega) (.slice none 0 0)).far (p := ⟨w.heap.size + 1 + 1, 0, none⟩) (by simp) (.int .i64 0)).setCell 0 (.int .i64 6)
      have hK' := (((((KeepsOthers.setCell W ⟨w.heap.size + 1, 0, none⟩ (.int .i64 0)).trans (KeepsOthers.setCell _ ⟨w.heap.size + 1, 1, none⟩ (.int .i64 0))).trans (KeepsOthers.setCell _ ⟨w.heap.size + 1, 2, none⟩ (.slice none 0 0))).trans (KeepsOthers.setCell _ ⟨w.heap.size + 1 + 1, 0, none⟩ (.int .i64 0))).trans (KeepsOthers.setCell _ ⟨w.heap.size + 1 + 1 + 1, 0, none⟩ (.int .i64 6))).same D _ hK rfl
      have hBf : Below w.heap.size w (((((W.setCell ⟨w.heap.size + 1, 0, none⟩ (.int .i64 0)).setCell ⟨w.heap.size + 1, 1, none⟩ (.int .i64 0)).setCell ⟨w.heap.size + 1, 2, none⟩ (.slice none 0 0)).setCell ⟨w.heap.size + 1 + 1, 0, none⟩ (.int .i64 0)).setCell ⟨w.heap.size + 1 + 1 + 1, 0, none⟩ (.int .i64 6)) := (by repeat (first | (with_reducible exact hBr) | (with_reducible refine Below.setCell ?_ ?_ _; rotate_left; focus (first | omega | (simp; done) | (simp; omega) | (simp only [World.size_alloc, size_setRow, World.size_setCell]; omega))) | (with_reducible refine below_setRow ?_ ?_ _; rotate_left; focus (first | omega | (simp; done) | (simp; omega) | (simp only [World.size_alloc, size_setRow, World.size_setCell]; omega))) | (with_reducible refine Below.alloc ?_ ?_ _; rotate_left; focus (first | omega | (simp; done) | (simp; omega) | (simp only [World.size_alloc, size_setRow, World.size_setCell]; omega))) | (with_reducible refine Below.drew ?_) | (with_reducible refine below_drewN ?_ _) | (with_reducible exact Below.refl _ _)))
      refine ⟨by simp, .inl ⟨_, _, rfl, run_takeDeferred hK', ?_⟩⟩
      have hg := fun W' : World => grownBy_putObj' W' D (.deferred none)
      obtain ⟨a0, a1, a2, _⟩ := (F1.abides (hg _) (fun r e => by cases e; exact ⟨_, hK', rfl⟩)).cells3
      obtain ⟨a3, _⟩ := (F2.abides (hg _) (fun r e => by cases e; exact ⟨_, hK', rfl⟩)).cells1
      obtain ⟨a4, _⟩ := (F3.abides (hg _) (fun r e => by cases e; exact ⟨_, hK', rfl⟩)).cells1
      have E := hid (show takeE base pages xs = 6 by rw [takeE, if_pos hf, if_pos hnil'])
      refine ⟨.tuple #[pv 0 0 none 0 0, .int .i64 0, .int .i64 6], by simp [results, Try.results10, go_sem, a0, a1, a2, a3, a4], 0, 0, none, 0, 0, [], 0, by rw [E.out], by rw [E.out]; simp, Ow.nil _ _ _,
        hBf.trans (belowK_b (w := w) (Nat.le_refl _) _ D _ _ (by omega) hK' rfl rfl)⟩
    case stop =>
      rintro D cc pre W hD ⟨k, hk, rfl⟩ ⟨⟨rfl, x, A', c', e2, g1, g2, g3, g4⟩, hBr⟩ hK
      have hk0 : k = 0 := by have := congrArg List.length e2; rw [backL_length] at this; simpa using this
      subst hk0
      have hx : x = xs[n - 1]?.getD 0 := by rw [backL_succ] at e2; simp [backL, HX.out.len] at e2; exact e2.symm
      have hne : xs ≠ [] := by rintro rfl; have := HX.out.len; simp at this; omega
      gi_wp2
      refine ⟨by simp, .inl ⟨_, _, rfl, run_takeDeferred hK, ?_⟩⟩
      have hg := grownBy_putObj' W D (.deferred none)
      have hr : ∀ r, some D = some r → ∃ o : Obj, W.heap[r]? = some o ∧ o.isCells = false := fun r e => by cases e; exact ⟨_, hK, rfl⟩
      obtain ⟨a0, a1, a2, _⟩ := (g1.abides hg hr).cells3
      obtain ⟨a3, _⟩ := (g3.abides hg hr).cells1
      obtain ⟨a4, _⟩ := (g4.abides hg hr).cells1
      have E := hid (show takeE base pages xs = 0 by rw [takeE, if_pos hf, if_neg hne])
      refine ⟨.tuple #[pv base pages A' (n - 1) c', .int .i64 x, .int .i64 0], by simp [results, Try.results10, go_sem, a0, a1, a2, a3, a4], base, pages, A', n - 1, c', xs.take (n - 1), x, by rw [E.out], by rw [E.out, if_pos rfl]; exact ⟨rfl, rfl, take_last HX.out.len hk hx⟩, (g2.abides hg hr).mono (by omega),
        hBr.trans (belowK_b (w := w) (Nat.le_refl _) _ D _ _ (by omega) hK rfl rfl)⟩
  · have hf' : freeB base pages xs = false := by simpa using hf
    have c1 := hid (check_no base pages A n c lo xs _ hq2 (by omega) hf')
    have E := hid (show takeE base pages xs = 170 by rw [takeE, if_neg hf])
    clear hq2 hf hf'
    refine callsIn_of_wp_marks Try.func10 rfl trivial ?_ rfl
    simp only [Try.ntmps10, List.size_toArray, List.length_cons, List.length_nil, Nat.reduceAdd, Nat.reduceSub, Array.replicate_succ, Array.replicate_zero, List.push_toArray, List.append_toArray, List.nil_append, List.cons_append]
    gi_wp2_with fail
    refine ⟨trivial, (callsIn_wide.2 c1.out).mono ?_⟩
    rintro e w1 ⟨rfl, hb⟩
    have B1 := (((Blk.new2 w 24 #[.int .i64 0, .int .i64 0, .slice none 0 0] (.cells #[.int .i64 base, .int .i64 pages, .slice A n c] 24)).alloc (.cells #[.int .i64 0] 3)).alloc (.cells #[.int .i64 0] 28)).below hb (by simp <;> omega)
    have B2 := ((Blk.new3 w 3 #[.int .i64 0] (.cells #[.int .i64 base, .int .i64 pages, .slice A n c] 24) (.cells #[.int .i64 0, .int .i64 0, .slice none 0 0] 24)).alloc (.cells #[.int .i64 0] 28)).below hb (by simp <;> omega)
    have B3 := (Blk.new4 w 28 #[.int .i64 0] (.cells #[.int .i64 base, .int .i64 pages, .slice A n c] 24) (.cells #[.int .i64 0, .int .i64 0, .slice none 0 0] 24) (.cells #[.int .i64 0] 3)).below hb (by simp <;> omega)
    have hB : Below w.heap.size w w1 := Below.trans (b := (((w.alloc (.cells #[.int .i64 base, .int .i64 pages, .slice A n c] 24)).alloc (.cells #[.int .i64 0, .int .i64 0, .slice none 0 0] 24)).alloc (.cells #[.int .i64 0] 3)).alloc (.cells #[.int .i64 0] 28)) (by repeat (first | (with_reducible exact (Below.refl _ _)) | (with_reducible refine Below.setCell ?_ ?_ _; rotate_left; focus (first | omega | (simp; done) | (simp; omega) | (simp only [World.size_alloc, size_setRow, World.size_setCell]; omega))) | (with_reducible refine below_setRow ?_ ?_ _; rotate_left; focus (first | omega | (simp; done) | (simp; omega) | (simp only [World.size_alloc, size_setRow, World.size_setCell]; omega))) | (with_reducible refine Below.alloc ?_ ?_ _; rotate_left; focus (first | omega | (simp; done) | (simp; omega) | (simp only [World.size_alloc, size_setRow, World.size_setCell]; omega))) | (with_reducible refine Below.drew ?_) | (with_reducible refine below_drewN ?_ _) | (with_reducible exact Below.refl _ _))) (hb.mono (by simp <;> omega))
    clear hb hb0 c1
    obtain ⟨r0, r1, r2, rf⟩ := B1.cells3
    obtain ⟨q0, qf⟩ := B2.cells1
    obtain ⟨s0, sf⟩ := B3.cells1
    gi_wp2
    exact ⟨.tuple #[pv 0 0 none 0 0, .int .i64 0, .int .i64 170], by simp [results, Try.results10, go_sem, r0, r1, r2, q0, s0], 0, 0, none, 0, 0, [], 0, by rw [E.out], by rw [E.out]; simp, Ow.nil _ _ _, (by repeat (first | (with_reducible exact hB) | (with_reducible refine Below.setCell ?_ ?_ _; rotate_left; focus (first | omega | (simp; done) | (simp; omega) | (simp only [World.size_alloc, size_setRow, World.size_setCell]; omega))) | (with_reducible refine below_setRow ?_ ?_ _; rotate_left; focus (first | omega | (simp; done) | (simp; omega) | (simp only [World.size_alloc, size_setRow, World.size_setCell]; omega))) | (with_reducible refine Below.alloc ?_ ?_ _; rotate_left; focus (first | omega | (simp; done) | (simp; omega) | (simp only [World.size_alloc, size_setRow, World.size_setCell]; omega))) | (with_reducible refine Below.drew ?_) | (with_reducible refine below_drewN ?_ _) | (with_reducible exact Below.refl _ _)))⟩

theorem take_calls (base pages : Int) (A : Option Addr) (n c lo : Nat) (xs : List Int) (w : World) (h : Sl i64 0 w lo w.heap.size A n xs) (hn : n ≤ 500) (hnc : n ≤ c) :
    Calls Try.prog 10 #[pv base pages A n c] w (TakePost w base pages xs) := callsIn_wide.1 (take_any base pages A n c lo xs w h hn hnc)
end Go.Proofs.Ytlidbiaadoigeaa
