/- Walks and plain laws for this claim, part 4. No condition but sizes. -/
import Derived.Test.YtfipdoofgbjbjaaGreatM3
import Derived.Test.YtfipdoofgbjbjaaGreatM1
import Derived.Deep.RegionLaw
import Derived.BigQuiet
import Derived.Laws.EntriesVeiled
import Derived.Shelf.Abstract
/- package queue: Put, End. No condition but sizes. -/
namespace Go.Proofs.YtfipdoofgbjbjaaGreat
open Go.RowKit
set_option maxHeartbeats 400000 in
theorem clone_cb (A : Option Addr) (n c lo : Nat) (xs : List _) (w : World) (h : Sm 2 encC (0, 0) w lo w.heap.size A n xs) (hn : n ≤ 1000000) :
    Calls Tryz.prog 29 #[.slice A n c] w fun e w' => ∃ A' c', e = .returned (.slice A' n c') ∧ Om 2 encC w' w.heap.size 60 A' n c' xs ∧ Below w.heap.size w w' := by
  obtain ⟨i0, hi0, hz00, hz01, hz02⟩ := info_parts info_cb
  have hq := fun W a n c => run_eqnil (P := Tryz.prog) (t := 56) Tryz.underlying56 W a n c
  rcases A with _ | ad
  · obtain ⟨rfl, rfl⟩ := h.none_
    go_enter Tryz.func29, Tryz.ntmps29
    go_wp2
    go_ret
    exact ⟨none, 0, rfl, Om.nil _ _ _, Below.refl _ _⟩
  · go_enter Tryz.func29, Tryz.ntmps29
    go_wp2_with (at_builtin; refine wpList_appm 2 encC (0, 0) _ rfl _ _ 56 rfl w.heap.size 60 i0 _ 16 Tryz.underlying56 hi0 hz00 hz01 hz02 rfl (by omega) _ _ _ [] rfl (Om.empty w _ _ (Nat.le_refl _)) lo w.heap.size (some ad) n c xs rfl (h.alloc (Nat.le_refl _) _) encC_one (by simp only [maxLen]; omega) (by omega) (by simp) ?_; intro A1 c1 w1 hown1 hg1 hat1; simp only [Nat.zero_add, List.nil_append] at hown1)
    go_ret
    refine ⟨A1, c1, by simp, hown1, ?_⟩
    exact ((Below.refl _ w).alloc (Nat.le_refl _) _).grown hg1 (by simp) (fun k hk => by simp [Value.ownBlock] at hk; omega)

/-- a row of callbacks that may be written -/
structure Qown (w : World) (lo : Nat) (A : Option Addr) (n : Nat) (xs : List Cb) : Prop where
  sm : Sm 2 encC (0, 0) w lo w.heap.size A n xs
  free : 0 < n → ∀ b off, A = some ⟨b, off, .none⟩ → ∀ i, w.frozen? ⟨b, i, .none⟩ = false
section
variable {w w' : World} {lo lo' : Nat} {A : Option Addr} {n c : Nat} {xs : List Cb} {e : TypeId}
theorem Qown.ofOm (h : Om 2 encC w lo e A n c xs) : Qown w lo A n xs := by
  refine ⟨h.sm, fun hn b off hA i => ?_⟩
  rcases h.own.2 with ⟨hv, h0⟩ | ⟨k, cap, cur, hv, _, hg, _⟩
  · exact absurd h0 (by omega)
  · simp only [Value.slice.injEq] at hv
    rw [hA] at hv
    obtain ⟨hb, _⟩ := hv
    cases hb
    exact frozen_of_row w b i cur e hg
theorem Qown.nil (w : World) (lo : Nat) : Qown w lo none 0 [] := ⟨Sm.nil _ _ _ _, fun h => absurd h (by omega)⟩
theorem Qown.mono (h : Qown w lo A n xs) (h1 : lo' ≤ lo) : Qown w lo' A n xs := ⟨h.sm.mono h1 (Nat.le_refl _), h.free⟩
theorem Qown.step (h : Qown w lo A n xs) (hb : Below w.heap.size w w') : Qown w' lo A n xs := by
  refine ⟨h.sm.step hb, fun hn b off hA i => ?_⟩
  obtain ⟨b', off', hA', _, hlt, _⟩ := h.sm.row hn
  rw [hA] at hA'
  cases hA'
  exact (hb.frozen (p := ⟨b, i, .none⟩) hlt).trans (h.free hn b off hA i)
theorem Qown.setCell (h : Qown w lo A n xs) {p : Addr} (hp : p.block < lo) (u : Value) : Qown (w.setCell p u) lo A n xs := by
  refine ⟨by have := h.sm.setC (.inl hp) u; simpa using this, fun hn b off hA i => ?_⟩
  obtain ⟨b', off', hA', hlo, hlt, _⟩ := h.sm.row hn
  rw [hA] at hA'
  cases hA'
  rw [World.frozen?_setCell]
  exact h.free hn b off hA i
end
/-- what a function of queues hands back: a queue, and an error -/
def QPost (W : World) (r : Int × List Cb × Int) (e : Ending) (W' : World) : Prop :=
  ∃ A n c, e = .returned (.tuple #[qv A n c r.1, .int .i64 r.2.2]) ∧ Qown W' W.heap.size A n r.2.1 ∧ Below W.heap.size W W' ∧ n ≤ c
def endF (o : Int) (l : List Cb) (x : Int) : Int × List Cb × Int :=
  if ¬ QGood o l then (0, [], 230) else if x < o ∨ 9223372036854775806 < x then (0, [], 2) else (x, l, 0)
set_option maxHeartbeats 1000000 in
theorem qend_any (A : Option Addr) (n c : Nat) (o : Int) (xs : List Cb) (x : Int) (w : World) (h : Sm 2 encC (0, 0) w 0 w.heap.size A n xs) (hn : n ≤ 1000000) (h0 : 0 ≤ o) :
    Calls Tryz.prog 86 #[qv A n c o, .int .u64 x] w (QPost w (endF o xs x)) := by
  have HE := hid (show endF o xs x = if ¬ QGood o xs then (0, [], 230) else if x < o ∨ 9223372036854775806 < x then (0, [], 2) else (x, xs, 0) from rfl)
  have HC := hid (show qcheckC o xs = if QGood o xs then 0 else 230 from rfl)
  have HR := hid h; have HB := hid (Below.refl w.heap.size w)
  clear h
  have bx := below_box w (.cells (qcs A n c o) 58)
  replace HR := hid (HR.out.step bx); replace HB := hid (below_then HB.out bx)
  clear bx
  have PQ := hid (Blk.new w 58 (qcs A n c o))
  have bx := below_box (w.alloc (.cells (qcs A n c o) 58)) (.cells (qcs none 0 0 0) 58)
  replace HR := hid (HR.out.step bx); replace PQ := hid (PQ.out.step bx); replace HB := hid (below_then HB.out bx)
  clear bx
  have PZ := hid (Blk.new2 w 58 (qcs none 0 0 0) (.cells (qcs A n c o) 58))
  obtain ⟨y00, y01, yf0⟩ := PQ.out.cells2
  go_enter Tryz.func86, Tryz.ntmps86
  go_wp2_with fail
  clear y00 y01 yf0
  refine (qcheck_any A n c o xs _ HR.out hn h0).mono ?_
  rintro e w1 ⟨rfl, hb⟩
  replace HR := hid (HR.out.step hb); replace PQ := hid (PQ.out.step hb); replace PZ := hid (PZ.out.step hb); replace HB := hid (below_then HB.out hb)
  clear hb
  by_cases hg : QGood o xs
  · have e0 : qcheckC o xs = 0 := by rw [HC.out, if_pos hg]
    rw [e0]
    clear e0
    have HG := hid hg
    clear hg
    by_cases h1 : x < o
    · have h1b : decide (x < o) = true := decide_eq_true h1
      obtain ⟨y00, y01, yf0⟩ := PQ.out.cells2
      obtain ⟨y00, y01, yf0⟩ := PZ.out.cells2
      go_wp2
      obtain ⟨q0, q1, qf⟩ := ((PZ.out.setCell 0 (.slice none 0 0)).setCell 1 (.int .u64 0)).cells2
      refine bodyPost_ret (v := .tuple #[qv none 0 0 0, .int .i64 2]) (by simp [results, Tryz.results86, go_sem, q0, q1]) rfl ?_
      rw [HE.out, if_neg (not_not_intro HG.out), if_pos (.inl (of_decide_eq_true h1b))]
      exact ⟨none, 0, 0, rfl, Qown.nil _ _, (HB.out.setCell (by simp) _).setCell (by simp) _, Nat.le_refl _⟩
    · have h1b : decide (x < o) = false := decide_eq_false h1
      by_cases h2 : 9223372036854775806 < x
      · have h2b : decide (9223372036854775806 < x) = true := decide_eq_true h2
        obtain ⟨y00, y01, yf0⟩ := PQ.out.cells2
        obtain ⟨y00, y01, yf0⟩ := PZ.out.cells2
        go_wp2
        obtain ⟨q0, q1, qf⟩ := ((PZ.out.setCell 0 (.slice none 0 0)).setCell 1 (.int .u64 0)).cells2
        refine bodyPost_ret (v := .tuple #[qv none 0 0 0, .int .i64 2]) (by simp [results, Tryz.results86, go_sem, q0, q1]) rfl ?_
        rw [HE.out, if_neg (not_not_intro HG.out), if_pos (.inr (of_decide_eq_true h2b))]
        exact ⟨none, 0, 0, rfl, Qown.nil _ _, (HB.out.setCell (by simp) _).setCell (by simp) _, Nat.le_refl _⟩
      · have h2b : decide (9223372036854775806 < x) = false := decide_eq_false h2
        have HE2 := hid (show endF o xs x = (x, xs, 0) by rw [HE.out, if_neg (not_not_intro HG.out), if_neg (by omega)])
        obtain ⟨y00, y01, yf0⟩ := PQ.out.cells2
        go_wp2_with fail
        clear y00 y01 yf0
        refine (clone_cb A n c 0 xs _ HR.out hn).mono ?_
        rintro e w2 ⟨A', c', rfl, ho, hb⟩
        have HO := hid ho; have hs := hid hb.size; have hl := hid PZ.out.lt
        clear ho
        replace HR := hid (HR.out.step hb); replace PQ := hid (PQ.out.step hb); replace PZ := hid (PZ.out.step hb); replace HB := hid (below_then HB.out hb)
        clear hb
        obtain ⟨y00, y01, yf0⟩ := PZ.out.cells2
        go_wp2
        obtain ⟨q0, q1, qf⟩ := ((PZ.out.setCell 0 (.slice A' n c')).setCell 1 (.int .u64 x)).cells2
        refine bodyPost_ret (v := .tuple #[qv A' n c' x, .int .i64 0]) (by simp [results, Tryz.results86, go_sem, q0, q1]) rfl ?_
        rw [HE2.out]
        have o2 := Qown.ofOm HO.out
        exact ⟨A', n, c', rfl, ((o2.setCell (by have := hl.out; simp; omega) _).setCell (by have := hl.out; simp; omega) _).mono (by have := hl.out; omega), (HB.out.setCell (by simp) _).setCell (by simp) _, HO.out.cap.1⟩
  · have e0 : qcheckC o xs = 230 := by rw [HC.out, if_neg hg]
    rw [e0]
    clear e0
    have HG := hid hg
    clear hg
    obtain ⟨y00, y01, yf0⟩ := PZ.out.cells2
    go_wp2
    obtain ⟨q0, q1, qf⟩ := ((PZ.out.setCell 0 (.slice none 0 0)).setCell 1 (.int .u64 0)).cells2
    refine bodyPost_ret (v := .tuple #[qv none 0 0 0, .int .i64 230]) (by simp [results, Tryz.results86, go_sem, q0, q1]) rfl ?_
    rw [HE.out, if_pos HG.out]
    exact ⟨none, 0, 0, rfl, Qown.nil _ _, (HB.out.setCell (by simp) _).setCell (by simp) _, Nat.le_refl _⟩
def putF (o : Int) (l : List Cb) (x a : Int) : Int × List Cb × Int :=
  if ¬ QGood o l then (0, [], 230) else if a < 1 ∨ 2 < a then (0, [], 2) else if 0 < l.length ∧ o + a < perAt l (l.length - 1) then (0, [], 2) else if l.length = 16 then (0, [], 6) else (o, l ++ [(o + a, x)], 0)
set_option maxHeartbeats 4000000 in
theorem qput_any (A : Option Addr) (n c : Nat) (o : Int) (xs : List Cb) (x a : Int) (w : World) (h : Sm 2 encC (0, 0) w 0 w.heap.size A n xs) (hn : n ≤ 1000000) (h0 : 0 ≤ o) (hnc : n ≤ c) :
    Calls Tryz.prog 118 #[qv A n c o, .int .u64 x, .int .i64 a] w (QPost w (putF o xs x a)) := by
  have HE := hid (show putF o xs x a = if ¬ QGood o xs then (0, [], 230) else if a < 1 ∨ 2 < a then (0, [], 2) else if 0 < xs.length ∧ o + a < perAt xs (xs.length - 1) then (0, [], 2) else if xs.length = 16 then (0, [], 6) else (o, xs ++ [(o + a, x)], 0) from rfl)
  have HC := hid (show qcheckC o xs = if QGood o xs then 0 else 230 from rfl)
  have hl := hid h.len
  have eg := enters_of Tryz.func92 (by kernel_rfl) rfl
  have HR := hid h; have HB := hid (Below.refl w.heap.size w)
  clear h
  have bx := below_box w (.cells (qcs A n c o) 58)
  replace HR := hid (HR.out.step bx); replace HB := hid (below_then HB.out bx)
  clear bx
  have PQ := hid (Blk.new w 58 (qcs A n c o))
  have bx := below_box (w.alloc (.cells (qcs A n c o) 58)) (.cells (qcs none 0 0 0) 58)
  replace HR := hid (HR.out.step bx); replace PQ := hid (PQ.out.step bx); replace HB := hid (below_then HB.out bx)
  clear bx
  have PZ := hid (Blk.new2 w 58 (qcs none 0 0 0) (.cells (qcs A n c o) 58))
  obtain ⟨y00, y01, yf0⟩ := PQ.out.cells2
  go_enter Tryz.func118, Tryz.ntmps118
  go_wp2_with fail
  clear y00 y01 yf0
  refine (qcheck_any A n c o xs _ HR.out hn h0).mono ?_
  rintro e w1 ⟨rfl, hb⟩
  replace HR := hid (HR.out.step hb); replace PQ := hid (PQ.out.step hb); replace PZ := hid (PZ.out.step hb); replace HB := hid (below_then HB.out hb)
  clear hb
  by_cases hg : QGood o xs
  · have e0 : qcheckC o xs = 0 := by rw [HC.out, if_pos hg]
    rw [e0]
    clear e0
    have HG := hid hg
    clear hg
    by_cases h1 : a < 1
    · have h1b : decide (a < 1) = true := decide_eq_true h1
      obtain ⟨y00, y01, yf0⟩ := PZ.out.cells2
      go_wp2
      obtain ⟨q0, q1, qf⟩ := ((PZ.out.setCell 0 (.slice none 0 0)).setCell 1 (.int .u64 0)).cells2
      refine bodyPost_ret (v := .tuple #[qv none 0 0 0, .int .i64 2]) (by simp [results, Tryz.results118, go_sem, q0, q1]) rfl ?_
      rw [HE.out, if_neg (not_not_intro HG.out), if_pos (.inl (of_decide_eq_true h1b))]
      exact ⟨none, 0, 0, rfl, Qown.nil _ _, (HB.out.setCell (by simp) _).setCell (by simp) _, Nat.le_refl _⟩
    · have h1b : decide (a < 1) = false := decide_eq_false h1
      by_cases h2 : 2 < a
      · have h2b : decide (2 < a) = true := decide_eq_true h2
        obtain ⟨y00, y01, yf0⟩ := PZ.out.cells2
        go_wp2
        obtain ⟨q0, q1, qf⟩ := ((PZ.out.setCell 0 (.slice none 0 0)).setCell 1 (.int .u64 0)).cells2
        refine bodyPost_ret (v := .tuple #[qv none 0 0 0, .int .i64 2]) (by simp [results, Tryz.results118, go_sem, q0, q1]) rfl ?_
        rw [HE.out, if_neg (not_not_intro HG.out), if_pos (.inr (of_decide_eq_true h2b))]
        exact ⟨none, 0, 0, rfl, Qown.nil _ _, (HB.out.setCell (by simp) _).setCell (by simp) _, Nat.le_refl _⟩
      · have h2b : decide (2 < a) = false := decide_eq_false h2
        have HE2 := hid (show putF o xs x a = if 0 < xs.length ∧ o + a < perAt xs (xs.length - 1) then (0, [], 2) else if xs.length = 16 then (0, [], 6) else (o, xs ++ [(o + a, x)], 0) by rw [HE.out, if_neg (not_not_intro HG.out), if_neg (by omega)])
        have ha := hid (show 1 ≤ a ∧ a ≤ 2 by omega)
        have ho := hid HG.out.1
        have hw1 : IntKind.u64.wrap a = a := by rw [IntKind.wrap_u64]; omega
        have hw2 : IntKind.u64.wrap (o + a) = o + a := by have := HG.out.1; rw [IntKind.wrap_u64]; omega
        have h16 := hid (show n ≤ 16 by have := HG.out.2.1; have := hl.out; omega)
        clear HE HC h1 h2
        obtain ⟨y00, y01, yf0⟩ := PQ.out.cells2
        go_upto_region 7 with fail
        clear y00 y01 yf0 h1b h2b hw1 hw2
        have bx := below_box w1 (.cells #[.int .u64 (o + a), .int .u64 x] 60)
        replace HR := hid (HR.out.step bx); replace PQ := hid (PQ.out.step bx); replace PZ := hid (PZ.out.step bx); replace HB := hid (below_then HB.out bx)
        clear bx
        have PC := hid (Blk.new w1 60 #[.int .u64 (o + a), .int .u64 x])
        obtain ⟨y00, y01, yf0⟩ := PQ.out.cells2
        go_upto_region 8 with fail
        clear y00 y01 yf0
        have hz2 := hid (show (w1.alloc (.cells #[.int .u64 (o + a), .int .u64 x] 60)).heap.size = w1.heap.size + 1 by simp)
        generalize w1.alloc (.cells #[.int .u64 (o + a), .int .u64 x] 60) = W2 at *
        obtain ⟨bL, hbL⟩ : ∃ b, b = decide (0 < xs.length ∧ o + a < perAt xs (xs.length - 1)) := ⟨_, rfl⟩
        have HL := hid hbL
        clear hbL
        go_cut [34] (fun s wx => s = .bool bL ∧ Below W2.heap.size W2 wx)
        case first =>
          rcases Nat.eq_zero_or_pos n with hn0 | hn0
          · have hn0i : (n : Int) = 0 := by omega
            have E := HL.out
            rw [decide_eq_false (fun h => by have := h.1; have := hl.out; omega)] at E
            subst E
            obtain ⟨y0, y1, yf⟩ := PQ.out.cells2
            obtain ⟨z0, z1, zf⟩ := PC.out.cells2
            go_quiet (fail)
            go_wp2_with fail
            go_meet
            exact ⟨rfl, below_drewN (Below.refl _ _) _⟩
          · have hn0i : ¬ (n : Int) = 0 := by omega
            have hn0p : 0 < (n : Int) := by omega
            obtain ⟨q, hq⟩ : ∃ q : Nat, n = q + 1 := ⟨n - 1, by omega⟩
            have hw3 : IntKind.i64.wrap ((n : Int) - 1) = (q : Int) := by rw [IntKind.wrap_i64]; omega
            have hqn : (q : Int) < (n : Int) := by omega
            obtain ⟨b, off, rfl, _, hbh, hc⟩ := HR.out.row (by omega)
            obtain ⟨y, hy⟩ : ∃ y, y = xs[q]?.getD (0, 0) := ⟨_, rfl⟩
            obtain ⟨c0, c1⟩ := Sm.cb (lo := 0) (hi := W2.heap.size) hc (show q < n by omega)
            rw [← hy] at c0 c1
            have HY : Hid (bL = decide (o + a < y.1)) := hid (by
              rw [HL.out]
              refine decide_eq_decide.2 ?_
              rw [hl.out, show n - 1 = q by omega, show perAt xs q = y.1 by rw [hy]; rfl]
              exact ⟨fun h => h.2, fun h => ⟨by omega, h⟩⟩)
            have HS : Hid (∀ W, Below W2.heap.size W2 W → (W.cell? ⟨w.heap.size, 0, none⟩ = some (.slice (some ⟨b, off, none⟩) n c) ∧ W.cell? ⟨w1.heap.size, 0, none⟩ = some (.int .u64 (o + a)) ∧ W.cell? ⟨w1.heap.size, 1, none⟩ = some (.int .u64 x) ∧ W.cell? ⟨b, off + q * 2, none⟩ = some (.int .u64 y.1) ∧ W.cell? ⟨b, off + q * 2 + 1, none⟩ = some (.int .u64 y.2))) :=
              hid (fun W hb => ⟨(PQ.out.step hb).cells2.1, (PC.out.step hb).cells2.1, (PC.out.step hb).cells2.2.1, (hb.cell (p := ⟨b, off + q * 2, none⟩) hbh).trans c0, (hb.cell (p := ⟨b, off + q * 2 + 1, none⟩) hbh).trans c1⟩)
            have HQ := hid hq
            have HE3 := hid (show cmpZ y.1 (o + a) = if y.1 < o + a then -1 else if o + a < y.1 then 1 else 0 from rfl)
            clear hy hc c0 c1 hq
            obtain ⟨f0, f1, f2, f3, f4⟩ := HS.out W2 (Below.refl _ _)
            go_region_held3 (fun W => W.cell? ⟨w.heap.size, 0, none⟩ = some (.slice (some ⟨b, off, none⟩) n c) ∧ W.cell? ⟨w1.heap.size, 0, none⟩ = some (.int .u64 (o + a)) ∧ W.cell? ⟨w1.heap.size, 1, none⟩ = some (.int .u64 x) ∧ W.cell? ⟨b, off + q * 2, none⟩ = some (.int .u64 y.1) ∧ W.cell? ⟨b, off + q * 2 + 1, none⟩ = some (.int .u64 y.2))
              (first | (exact HS.out _ (Below.refl _ _).drew) | (exact HS.out _ hq1))
              (first | (go_at_call 92; go_split_ands; (with_reducible refine (period_any y (o + a, x) W2.drew).mono ?_); rintro e w5 ⟨rfl, hb⟩; have hq1 := below_then (Below.refl W2.heap.size W2).drew hb))
            have HB1 := hid hq1
            clear hb hq1 f0 f1 f2 f3 f4
            go_wp2_with fail
            go_meet
            refine ⟨?_, HB1.out⟩
            rw [HY.out]
            congr 1
            refine decide_eq_decide.2 ?_
            rw [HE3.out]
            constructor
            · intro h
              split at h
              · omega
              · split at h <;> omega
            · intro h
              rw [if_neg (by omega), if_pos h]
              omega
        case rest =>
          obtain ⟨rfl, hb⟩ := hcut
          rename World => W3
          replace HR := hid (HR.out.step hb); replace PQ := hid (PQ.out.step hb); replace PZ := hid (PZ.out.step hb); replace PC := hid (PC.out.step hb); replace HB := hid (below_then HB.out hb)
          clear hb
          rcases bL with _ | _
          · by_cases h6 : n = 16
            · have h6i : (n : Int) = 16 := by omega
              obtain ⟨y00, y01, yf0⟩ := PZ.out.cells2
              go_wp2
              obtain ⟨q0, q1, qf⟩ := ((PZ.out.setCell 0 (.slice none 0 0)).setCell 1 (.int .u64 0)).cells2
              refine bodyPost_ret (v := .tuple #[qv none 0 0 0, .int .i64 6]) (by simp [results, Tryz.results118, go_sem, q0, q1]) rfl ?_
              rw [HE2.out, if_neg (of_decide_eq_false HL.out.symm), if_pos (hl.out.trans h6)]
              exact ⟨none, 0, 0, rfl, Qown.nil _ _, (HB.out.setCell (by simp) _).setCell (by simp) _, Nat.le_refl _⟩
            · have h6i : ¬ (n : Int) = 16 := by omega
              obtain ⟨y00, y01, yf0⟩ := PQ.out.cells2
              obtain ⟨y10, y11, yf1⟩ := PC.out.cells2
              go_wp2_with fail
              clear y00 y01 yf0 y10 y11 yf1
              obtain ⟨i0, hi0, hz00, hz01, hz02⟩ := info_parts info_cb
              have hnn : (n : Int) ≤ (c : Int) := by omega
              have hnn0 : (0 : Int) ≤ (n : Int) := by omega
              have hn16 := h16.out
              have HC2 : Hid (∀ j, j < 2 → (#[.int .u64 (o + a), .int .u64 x] : Array Value)[j]? = some (encC (o + a, x) j)) := hid (by intro j hj; match j, hj with | 0, _ => rfl | 1, _ => rfl)
              obtain ⟨y0, y1, yf⟩ := PQ.out.cells2
              obtain ⟨z0, z1, zf⟩ := PC.out.cells2
              obtain ⟨v0, v1, vf⟩ := (PQ.out.step (below_box W3 (.cells #[.int .u64 (o + a), .int .u64 x] 60))).cells2
              go_region_law (refine step_appmf 2 encC (0, 0) _ rfl _ _ 56 rfl 60 i0 _ 16 Tryz.underlying56 hi0 hz00 hz01 hz02 rfl (by omega) 0 (W3.alloc (.cells #[.int .u64 (o + a), .int .u64 x] 60)).drew.heap.size A n n xs rfl (HR.out.step (below_box W3 (.cells #[.int .u64 (o + a), .int .u64 x] 60)).drew) 0 (W3.alloc (.cells #[.int .u64 (o + a), .int .u64 x] 60)).drew.heap.size _ 1 _ [(o + a, x)] rfl ((Sm.one (o + a, x) rfl HC2.out).step (Below.refl (W3.alloc (.cells #[.int .u64 (o + a), .int .u64 x] 60)).heap.size (W3.alloc (.cells #[.int .u64 (o + a), .int .u64 x] 60))).drew) (by omega) encC_one (by omega) (by simp only [maxLen]; omega) (by omega) (by omega) W3.heap.size (by simp) ?_; intro ca wA ownA bA sA; have bW := below_then (below_box W3 (.cells #[.int .u64 (o + a), .int .u64 x] 60)).drew bA; obtain ⟨s0, s1, sf⟩ := (PQ.out.step bW).cells2)
              all_goals
                have sv : Value := .slice (some ⟨W3.heap.size + 1, 0, none⟩) (n + 1) ca
                have hlq := PQ.out.lt
                rw [show (W3.alloc (.cells #[.int .u64 (o + a), .int .u64 x] 60)).drew.heap.size = W3.heap.size + 1 by simp] at ownA
                have hca := hid ownA.cap.1
                have O9 := hid ((Qown.ofOm ownA).setCell (p := ⟨w.heap.size, 0, none⟩) (by simp; omega) (.slice (some ⟨W3.heap.size + 1, 0, none⟩) (n + 1) ca))
                have P9 := hid ((PQ.out.step bW).setCell 0 (.slice (some ⟨W3.heap.size + 1, 0, none⟩) (n + 1) ca))
                have Z9 := hid ((PZ.out.step bW).far (p := ⟨w.heap.size, 0, none⟩) (by simp) (.slice (some ⟨W3.heap.size + 1, 0, none⟩) (n + 1) ca))
                have B9 := hid ((below_then HB.out bW).setCell (p := ⟨w.heap.size, 0, none⟩) (Nat.le_refl _) (.slice (some ⟨W3.heap.size + 1, 0, none⟩) (n + 1) ca))
                clear s0 s1 sf ownA bA sA bW y0 y1 yf z0 z1 zf v0 v1 vf hi0 hz00 hz01 hz02
                obtain ⟨q0, q1, qf⟩ := P9.out.cells2
                obtain ⟨r0, r1, rf⟩ := Z9.out.cells2
                go_wp2
                clear q0 q1 qf r0 r1 rf
                obtain ⟨r0, r1, rf⟩ := ((Z9.out.setCell 0 (.slice (some ⟨W3.heap.size + 1, 0, none⟩) (n + 1) ca)).setCell 1 (.int .u64 o)).cells2
                refine bodyPost_ret (v := .tuple #[qv (some ⟨W3.heap.size + 1, 0, none⟩) (n + 1) ca o, .int .i64 0]) (by simp [results, Tryz.results118, go_sem, r0, r1]) rfl ?_
                rw [HE2.out, if_neg (of_decide_eq_false HL.out.symm), if_neg (by rw [hl.out]; exact h6)]
                have hlz := PZ.out.lt
                exact ⟨some ⟨W3.heap.size + 1, 0, none⟩, n + 1, ca, rfl, ((O9.out.setCell (p := ⟨w.heap.size + 1, 0, none⟩) hlz _).setCell (p := ⟨w.heap.size + 1, 1, none⟩) hlz _).mono (Nat.le_of_lt hlq), (B9.out.setCell (by simp) _).setCell (by simp) _, hca.out⟩
          · skip
            obtain ⟨y00, y01, yf0⟩ := PZ.out.cells2
            go_wp2
            obtain ⟨q0, q1, qf⟩ := ((PZ.out.setCell 0 (.slice none 0 0)).setCell 1 (.int .u64 0)).cells2
            refine bodyPost_ret (v := .tuple #[qv none 0 0 0, .int .i64 2]) (by simp [results, Tryz.results118, go_sem, q0, q1]) rfl ?_
            rw [HE2.out, if_pos (of_decide_eq_true HL.out.symm)]
            exact ⟨none, 0, 0, rfl, Qown.nil _ _, (HB.out.setCell (by simp) _).setCell (by simp) _, Nat.le_refl _⟩
  · have e0 : qcheckC o xs = 230 := by rw [HC.out, if_neg hg]
    rw [e0]
    clear e0
    have HG := hid hg
    clear hg
    obtain ⟨y00, y01, yf0⟩ := PZ.out.cells2
    go_wp2
    obtain ⟨q0, q1, qf⟩ := ((PZ.out.setCell 0 (.slice none 0 0)).setCell 1 (.int .u64 0)).cells2
    refine bodyPost_ret (v := .tuple #[qv none 0 0 0, .int .i64 230]) (by simp [results, Tryz.results118, go_sem, q0, q1]) rfl ?_
    rw [HE.out, if_pos HG.out]
    exact ⟨none, 0, 0, rfl, Qown.nil _ _, (HB.out.setCell (by simp) _).setCell (by simp) _, Nat.le_refl _⟩
end Go.Proofs.YtfipdoofgbjbjaaGreat

/- package queue: take. No condition but sizes. -/
namespace Go.Proofs.YtfipdoofgbjbjaaGreat
open Go.RowKit
/-- the two cells of a queue that is being drained -/
abbrev dcs (A : Option Addr) (m c : Nat) (o : Int) : Array Value := #[.slice A m c, .int .u64 o]
set_option maxHeartbeats 2000000 in
theorem take_none (D : Nat) (A : Option Addr) (m c : Nat) (o lo hi : Nat) (oo : Int) (xs : List Cb) (w : World) (hP : Blk w D 183 (dcs A m c oo)) (h : Sm 2 encC (0, 0) w lo hi A m xs) (hn : m ≤ 1000000) (hno : ¬ (0 < m ∧ perAt xs 0 ≤ oo)) :
    Calls Tryz.prog 154 #[ptr D] w fun e w' => e = .returned (.tuple #[.int .u64 0, .bool false]) ∧ ∃ q, w' = w.drewN q := by
  obtain ⟨p0, p1, pf⟩ := hP.cells2
  rcases Nat.eq_zero_or_pos m with h0 | h0
  · have h0i : (m : Int) = 0 := by omega
    go_enter Tryz.func154, Tryz.ntmps154
    go_wp2_with fail
    go_quiet (fail)
    go_wp2
    exact bodyPost_ret (v := .tuple #[.int .u64 0, .bool false]) (by simp [results, Tryz.results154, go_sem]) rfl ⟨rfl, _, rfl⟩
  · have h0i : ((m : Int) == 0) = false := by simp; omega
    have h0p : (0 : Int) < (m : Int) := by omega
    obtain ⟨b, off, rfl, _, hbh, hc⟩ := h.row h0
    obtain ⟨c0, c1⟩ := Sm.cb (lo := lo) (hi := hi) hc h0
    obtain ⟨x, hx⟩ : ∃ x, x = xs[0]?.getD (0, 0) := ⟨_, rfl⟩
    rw [← hx] at c0 c1
    have hgt : oo < x.1 := by
      have : perAt xs 0 = x.1 := by rw [hx]; rfl
      rw [this] at hno
      omega
    rw [Nat.zero_mul, Nat.add_zero] at c0 c1
    clear hx hc hno
    go_enter Tryz.func154, Tryz.ntmps154
    go_wp2_with fail
    go_quiet (fail)
    go_wp2
    exact bodyPost_ret (v := .tuple #[.int .u64 0, .bool false]) (by simp [results, Tryz.results154, go_sem]) rfl ⟨rfl, _, rfl⟩
theorem take_some (D : Nat) (A : Option Addr) (m c lo hi : Nat) (oo : Int) (xs : List Cb) (w : World) (hP : Blk w D 183 (dcs A m c oo)) (h : Sm 2 encC (0, 0) w lo hi A m xs) (hn : m ≤ 1000000) (hmc : m ≤ c) (h0 : 0 < m) (hle : perAt xs 0 ≤ oo) :
    Calls Tryz.prog 154 #[ptr D] w fun e w' => e = .returned (.tuple #[.int .u64 (xs[0]?.getD (0, 0)).2, .bool true]) ∧ ∃ A', w.grownBy w' (some D) ∧ Blk w' D 183 (dcs A' (m - 1) (m - 1) oo) ∧ (1 < m → ∃ b off, A = some ⟨b, off, none⟩ ∧ A' = some ⟨b, off + 2, none⟩) := by
  have PD := hid hP
  obtain ⟨p0, p1, pf⟩ := hP.cells2
  have h0i : ((m : Int) == 0) = false := by simp; omega
  have h0p : (0 : Int) < (m : Int) := by omega
  obtain ⟨b, off, rfl, _, hbh, hc⟩ := h.row h0
  obtain ⟨c0, c1⟩ := Sm.cb (lo := lo) (hi := hi) hc h0
  obtain ⟨x, hx⟩ : ∃ x, x = xs[0]?.getD (0, 0) := ⟨_, rfl⟩
  rw [← hx] at c0 c1 ⊢
  have hgt : ¬ oo < x.1 := by
    have : perAt xs 0 = x.1 := by rw [hx]; rfl
    rw [this] at hle
    omega
  rw [Nat.zero_mul, Nat.add_zero] at c0 c1
  have h1m : (1 : Int) ≤ (m : Int) := by omega
  have hmci : (m : Int) ≤ (c : Int) := by omega
  clear hx hc hle hP
  go_enter Tryz.func154, Tryz.ntmps154
  go_wp2_with fail
  go_quiet (fail)
  go_wp2_with fail
  clear p0 p1 c0 c1
  have P2 := hid (PD.out.drewN nq)
  have hgr : w.grownBy (w.drewN nq) (some D) := ⟨rfl, rfl, rfl, Nat.le_refl _, fun _ _ _ => rfl⟩
  have HG := hid hgr
  clear hgr
  generalize w.drewN nq = w2 at *
  obtain ⟨p0, p1, pf⟩ := P2.out.cells2
  go_region
  clear p0 p1 pf
  generalize hA : (if m = 1 then some (⟨b, off, none⟩ : Addr) else some ⟨b, off + 2, none⟩) = A'
  have hgw := HG.out.trans (grownBy_setCell' w2 D (.slice A' (m - 1) (m - 1)))
  have hbk := P2.out.setCell 0 (.slice A' (m - 1) (m - 1))
  have HW := hid hgw; have HK := hid hbk
  have HA : Hid (1 < m → A' = some ⟨b, off + 2, none⟩) := hid (fun h1 => by rw [← hA, if_neg (by omega)])
  clear hgw hbk hA
  go_wp2
  exact bodyPost_ret (v := .tuple #[.int .u64 x.2, .bool true]) (by simp [results, Tryz.results154, go_sem]) rfl ⟨rfl, A', ⟨HW.out.os, HW.out.tape, HW.out.output, HW.out.size, HW.out.block⟩, HK.out, fun h1 => ⟨b, off, rfl, HA.out h1⟩⟩
end Go.Proofs.YtfipdoofgbjbjaaGreat

/- package queue: the iterator done. No condition but sizes. -/
namespace Go.Proofs.YtfipdoofgbjbjaaGreat
open Go.RowKit Go.Shelf
attribute [local go_sem] Oper.semAt_some
/-- how many are done -/
def doneN (o : Int) (xs : List Cb) : Nat := (xs.takeWhile fun c => decide (c.1 ≤ o)).length
theorem doneN_le (o : Int) (xs : List Cb) : doneN o xs ≤ xs.length := List.IsPrefix.length_le (List.takeWhile_prefix _)
theorem doneN_lt {o : Int} : ∀ {xs : List Cb} {k : Nat}, k < doneN o xs → perAt xs k ≤ o
  | [], k, h => by simp [doneN] at h
  | x :: xs, k, h => by
    unfold doneN at h
    by_cases hx : x.1 ≤ o
    · rw [List.takeWhile_cons_of_pos (by simpa using hx)] at h
      cases k with
      | zero => exact hx
      | succ k => exact doneN_lt (xs := xs) (by simpa [doneN] using h)
    · rw [List.takeWhile_cons_of_neg (by simpa using hx)] at h
      simp at h
theorem doneN_stop {o : Int} : ∀ {xs : List Cb}, ¬ (doneN o xs < xs.length ∧ perAt xs (doneN o xs) ≤ o)
  | [], h => by simp at h
  | x :: xs, h => by
    unfold doneN at h
    by_cases hx : x.1 ≤ o
    · rw [List.takeWhile_cons_of_pos (by simpa using hx)] at h
      refine doneN_stop (xs := xs) ⟨by have := h.1; simp at this; exact this, ?_⟩
      have := h.2
      simpa [perAt, doneN] using this
    · rw [List.takeWhile_cons_of_neg (by simpa using hx)] at h
      exact hx h.2
/-- the queue behind k takings -/
structure Drs (D Tb lo hi : Nat) (o : Int) (xs : List Cb) (k : Nat) (W : World) : Prop where
  fn : Blk W Tb 199 #[.func (.func 154) #[ptr D] #[]]
  box : ∃ A c, Blk W D 183 (dcs A (xs.length - k) c o) ∧ xs.length - k ≤ c ∧ Sm 2 encC (0, 0) W lo hi A (xs.length - k) (xs.drop k) ∧ (0 < xs.length - k → ∀ b off, A = some ⟨b, off, none⟩ → ∀ i, W.frozen? ⟨b, i, none⟩ = false)
def lenAt (D : Nat) (W : World) : Nat := match W.cell? ⟨D, 0, none⟩ with | some (.slice _ m _) => m | _ => 0
section
variable {D Tb lo hi : Nat} {o : Int} {xs : List Cb} {k : Nat} {W W' : World}
theorem Drs.lenAt (h : Drs D Tb lo hi o xs k W) : Go.Proofs.YtfipdoofgbjbjaaGreat.lenAt D W = xs.length - k := by
  obtain ⟨A, c, hb, _⟩ := h.box
  unfold Go.Proofs.YtfipdoofgbjbjaaGreat.lenAt
  rw [hb.cells2.1]
/-- what turns neither the boxes nor the row -/
theorem Drs.kept (h : Drs D Tb lo hi o xs k W) (hT : W'.heap[Tb]? = W.heap[Tb]?) (hD : W'.heap[D]? = W.heap[D]?) (hr : ∀ b, lo ≤ b → b < hi → W'.heap[b]? = W.heap[b]?) : Drs D Tb lo hi o xs k W' := by
  obtain ⟨A, c, h1, h2, h3, h4⟩ := h.box
  refine ⟨hT.trans h.fn, A, c, hD.trans h1, h2, h3.keep fun b i e1 e2 => by unfold World.cell?; rw [hr b e1 e2], fun hn b off hA i => ?_⟩
  obtain ⟨b', off', hA', e1, e2, _⟩ := h3.row hn
  rw [hA] at hA'
  cases hA'
  rw [← h4 hn b off hA i]
  unfold World.frozen?
  rw [hr b e1 e2]
theorem Drs.next (h : Drs D Tb lo hi o xs k W) (hg : W.grownBy W' (some D)) (hT : Tb ≠ D) (hTl : Tb < W.heap.size) (hlo : D < lo) (hhi : hi ≤ W.heap.size) (hk : k < xs.length) {A : Option Addr} {m c : Nat} (hb0 : Blk W D 183 (dcs A m c o)) {A' : Option Addr} (hb : Blk W' D 183 (dcs A' (xs.length - k - 1) (xs.length - k - 1) o)) (hA : 1 < xs.length - k → ∃ b off, A = some ⟨b, off, none⟩ ∧ A' = some ⟨b, off + 2, none⟩) :
    Drs D Tb lo hi o xs (k + 1) W' := by
  obtain ⟨A0, c0, h1, h2, h3, h4⟩ := h.box
  have hA0 : A0 = A := by
    have e := h1.cells2.1
    rw [hb0.cells2.1] at e
    simp at e
    exact e.1.symm
  subst hA0
  refine ⟨(hg.block _ hTl (fun e => by cases e; exact hT rfl)).trans h.fn, A', xs.length - k - 1, hb, Nat.le_refl _, ?_, ?_⟩
  · refine ⟨by rw [List.length_drop], fun hn => ?_⟩
    obtain ⟨b, off, rfl, rfl⟩ := hA (by omega)
    obtain ⟨b', off', e, e1, e2, hc⟩ := h3.row (by omega)
    cases e
    refine ⟨b, off + 2, rfl, e1, e2, fun j hj i hi => ?_⟩
    have hx := hc (j + 1) (by omega) i hi
    rw [show off + 2 + j * 2 + i = off + (j + 1) * 2 + i by omega]
    have he : (xs.drop (k + 1))[j]? = (xs.drop k)[j + 1]? := by rw [List.getElem?_drop, List.getElem?_drop, show k + 1 + j = k + (j + 1) by omega]
    rw [he, ← hx]
    unfold World.cell?
    rw [hg.block b (by omega) (fun e => by cases e; omega)]
  · intro hn b2 off2 hb2 i
    obtain ⟨b, off, rfl, rfl⟩ := hA (by omega)
    cases hb2
    obtain ⟨b', off', e, e1, e2, _⟩ := h3.row (by omega)
    cases e
    rw [← h4 (by omega) _ off rfl i]
    unfold World.frozen?
    rw [hg.block b2 (by omega) (fun e => by cases e; omega)]
end
theorem done_any (D : Nat) (w : World) : Calls Tryz.prog 148 #[ptr D] w fun e w' => e = .returned (.func (.func 155) #[] #[ptr w.heap.size]) ∧ w.alloc (.cells #[.func (.func 154) #[ptr D] #[]] 199) = w' := by
  go_enter Tryz.func148, Tryz.ntmps148
  go_wp2
  go_ret
  exact ⟨rfl, rfl⟩
set_option maxRecDepth 100000 in
set_option maxHeartbeats 4000000 in
theorem done_seq (M D Tb lo hi : Nat) (o : Int) (xs : List Cb) (B0 : Nat) (hm : 1 ≤ M) (hn : xs.length ≤ 1000000) (hT : Tb ≠ D) (hlo : D < lo) (hlh : lo ≤ hi) (hTh : hi ≤ Tb) :
    StateSeq Fence.wide M Tryz.prog 155 #[ptr Tb] (fun k => #[.int .u64 (xs[k]?.getD (0, 0)).2]) (doneN o xs) D (Drs D Tb lo hi o xs) := by
  intro l J Jx W hJD hY hJ0 hI0
  have ek := enters_of Tryz.func154 (by kernel_rfl) rfl
  refine callsIn_of_wp Tryz.func155 rfl trivial ?_ rfl
  simp only [Tryz.ntmps155, List.size_toArray, List.length_cons, List.length_nil, Nat.reduceAdd, Nat.reduceSub, Array.replicate_succ, Array.replicate_zero, List.push_toArray, List.append_toArray, List.nil_append, List.cons_append]
  refine wpIn_wide.2 ?_
  go_wp2_with fail
  go_loopw [3, 4] (fun _ _ wr => ∃ k : Nat, k ≤ doneN o xs ∧ J k wr ∧ Drs D Tb lo hi o xs k wr) (fun _ _ wr => lenAt D wr)
  case atStart => exact ⟨0, Nat.zero_le _, hJ0, hI0⟩
  case round =>
    obtain ⟨k, hk, hj, hd⟩ := hrel
    have HJ := hid hj; have HD := hid hd
    have HYH := hid (show hi ≤ wr.heap.size from Nat.le_trans hTh (Nat.le_of_lt hd.fn.lt))
    clear hj hd hJ0 hI0
    obtain ⟨A, c, hb, hc, hs, hf⟩ := HD.out.box
    obtain ⟨t0, tf⟩ := HD.out.fn.cells1
    by_cases hlt : k < doneN o xs
    · have hkn : k < xs.length := Nat.lt_of_lt_of_le hlt (doneN_le o xs)
      have htake := hid (take_some D A (xs.length - k) c lo hi o (xs.drop k) wr hb hs (by omega) hc (by omega) (by have := doneN_lt hlt; unfold perAt at this ⊢; rw [List.getElem?_drop, Nat.add_zero]; exact this))
      have HBK := hid hb; have HSM := hid hs
      clear hb hs hf hc
      go_wp2_with fail
      clear t0 tf
      refine htake.out.mono ?_
      rintro e w1 ⟨rfl, A', hg, hb', hA⟩
      have hd1 := HD.out.next hg hT HD.out.fn.lt hlo HYH.out hkn HBK.out hb' hA
      have hj1 := hJD k _ _ HJ.out hg
      have hx : ((xs.drop k)[0]?.getD (0, 0)).2 = (xs[k]?.getD (0, 0)).2 := by rw [List.getElem?_drop, Nat.add_zero]
      obtain ⟨v, hv⟩ : ∃ v, v = (xs[k]?.getD (0, 0)).2 := ⟨_, rfl⟩
      have hy0 := hY k w1 hlt hj1 hd1
      rw [hx, ← hv]
      rw [← hv] at hy0
      obtain ⟨fn, tmps, assign, body, hy, hR⟩ := hy0
      clear htake hx hg hb' hA hj1 hv
      have HL := hid (show lenAt D wr = xs.length - k from HD.out.lenAt)
      clear HD HBK HSM HJ hd1 hY
      go_upto_region 1 with fail
      refine (wpIn_wide (n := M)).1 ?_
      gi_wp2
      refine hR.mono ?_
      rintro e W3 (⟨rfl, hJ3, hI3⟩ | ⟨rfl, hJx3⟩)
      · gi_wp2
        go_wp2_with fail
        go_roundw
        case rel => exact ⟨k + 1, by omega, hJ3, hI3⟩
        case measure => rw [HL.out, hI3.lenAt]; omega
      · gi_wp2
        go_wp2_with fail
        exact bodyPost_ret (v := .tuple #[]) (by simp [results, Tryz.results155, go_sem]) rfl ⟨⟨_, rfl⟩, .inr ⟨_, hJx3⟩⟩
    · obtain rfl : k = doneN o xs := by omega
      have hst := doneN_stop (o := o) (xs := xs)
      have htake := hid (take_none D A (xs.length - doneN o xs) c o.toNat lo hi o (xs.drop (doneN o xs)) wr hb hs (by omega) (fun h => hst ⟨by omega, by have := h.2; unfold perAt at this ⊢; rwa [List.getElem?_drop, Nat.add_zero] at this⟩))
      clear hb hs hf hc hst hY
      go_wp2_with fail
      clear t0 tf
      refine htake.out.mono ?_
      rintro e w1 ⟨rfl, q, rfl⟩
      have hg : wr.grownBy (wr.drewN q) (some D) := ⟨rfl, rfl, rfl, Nat.le_refl _, fun _ _ _ => rfl⟩
      have hj1 := hid (hJD _ _ _ HJ.out hg)
      have hd1 := hid (HD.out.kept (W' := wr.drewN q) rfl rfl (fun _ _ _ => rfl))
      clear htake hg
      go_wp2
      exact bodyPost_ret (v := .tuple #[]) (by simp [results, Tryz.results155, go_sem]) rfl ⟨⟨_, rfl⟩, .inl ⟨hj1.out, hd1.out⟩⟩
end Go.Proofs.YtfipdoofgbjbjaaGreat

/- package queue: Drain. No condition but sizes. -/
namespace Go.Proofs.YtfipdoofgbjbjaaGreat
open Go.RowKit Go.Shelf
attribute [local go_sem] Oper.semAt_some
def drainF (o : Int) (l : List Cb) (most : Int) : Int × List Cb × List Int × Int :=
  if ¬ QGood o l then (0, [], [], 230) else if most < 0 then (0, [], [], 2) else (o, l.drop (min (doneN o l) most.toNat), (l.take (min (doneN o l) most.toNat)).map (·.2), 0)
def DrPost (W : World) (r : Int × List Cb × List Int × Int) (e : Ending) (W' : World) : Prop :=
  ∃ A n c B m d, e = .returned (.tuple #[qv A n c r.1, .slice B m d, .int .i64 r.2.2.2]) ∧ Qown W' W.heap.size A n r.2.1 ∧ Ow u64v W' W.heap.size 35 B m d r.2.2.1 ∧ Below W.heap.size W W' ∧ n ≤ c
/-- what the rounds of Drain keep -/
structure DrI (w1 W4 : World) (g8 : Nat) (xs : List Cb) (k : Nat) (W : World) : Prop where
  out : ∃ G cg, Blk W g8 40 #[.slice G k cg] ∧ Ow u64v W W4.heap.size 35 G k cg ((xs.take k).map (·.2))
  be : Below w1.heap.size w1 W
  size : W4.heap.size ≤ W.heap.size
theorem cell_lt {W : World} {p : Addr} {v : Value} (h : W.cell? p = some v) : p.block < W.heap.size := by
  obtain ⟨o, ho, _⟩ := not_walk_of_cell h
  exact (Array.getElem?_eq_some_iff.1 ho).1
section
variable {w1 W4 : World} {g8 : Nat} {xs : List Cb} {k : Nat} {W W' : World} {row : Option Nat}
theorem Ow.grownL {α : Type} {enc : α → Value} {e : TypeId} {A : Option Addr} {n c lo : Nat} {xs : List α} (h : Ow enc W lo e A n c xs) (hg : W.grownBy W' row) (hr : ∀ k, row = some k → k < lo) : Ow enc W' lo e A n c xs := by
  refine ⟨h.len, h.own.1, ?_⟩
  rcases h.own.2 with hh | ⟨g, cap, cur, hv, hb1, hgg, r⟩
  · exact .inl hh
  · exact .inr ⟨g, cap, cur, hv, hb1, (hg.block g (Array.getElem?_eq_some_iff.1 hgg).1 (fun e => by have := hr g e.symm; omega)).trans hgg, r⟩
theorem DrI.books (h : DrI w1 W4 g8 xs k W) (h14 : w1.heap.size ≤ W4.heap.size) (hg : W.grownBy W' row) (hr : ∀ r, row = some r → W4.heap.size ≤ r ∧ ∃ o : Obj, W.heap[r]? = some o ∧ o.isCells = false) : DrI w1 W4 g8 xs k W' := by
  obtain ⟨G, cg, h1, h2⟩ := h.out
  exact ⟨⟨G, cg, h1.abides hg (fun r e => (hr r e).2), h2.abides hg (fun r e => (hr r e).2)⟩, h.be.grown hg h.be.size (fun r e => Nat.le_trans h14 (hr r e).1), Nat.le_trans h.size hg.size⟩
theorem DrI.stepD (h : DrI w1 W4 g8 xs k W) (h8 : g8 ≠ w1.heap.size) (h14 : w1.heap.size < W4.heap.size) (hg : W.grownBy W' (some w1.heap.size)) : DrI w1 W4 g8 xs k W' := by
  obtain ⟨G, cg, h1, h2⟩ := h.out
  exact ⟨⟨G, cg, h1.grown hg (fun e => by cases e; exact h8 rfl), h2.grownL hg (fun r e => by cases e; exact h14)⟩, h.be.grown hg h.be.size (fun r e => by cases e; exact Nat.le_refl _), Nat.le_trans h.size hg.size⟩
end
theorem Drs.books {D Tb lo hi B0 : Nat} {o : Int} {xs : List Cb} {k : Nat} {W W' : World} {row : Option Nat} (h : Drs D Tb lo hi o xs k W) (hT : Tb < B0) (hD : D < B0) (hh : hi ≤ B0) (hg : W.grownBy W' row) (hr : ∀ r, row = some r → B0 ≤ r ∧ ∃ o : Obj, W.heap[r]? = some o ∧ o.isCells = false) : Drs D Tb lo hi o xs k W' := by
  have hs := h.fn.lt
  obtain ⟨A, c, h1, h2, h3, h4⟩ := h.box
  refine ⟨h.fn.grown hg (fun e => by have := (hr _ e.symm).1; omega), A, c, h1.grown hg (fun e => by have := (hr _ e.symm).1; omega), h2, ?_, ?_⟩
  · refine ⟨h3.len, fun hn => ?_⟩
    obtain ⟨b, off, e, e1, e2, hc⟩ := h3.row hn
    have hbl := cell_lt (hc 0 hn 0 (by omega))
    refine ⟨b, off, e, e1, e2, fun j hj i hi => ?_⟩
    rw [← hc j hj i hi]
    unfold World.cell?
    rw [hg.block b hbl (fun e => by have := (hr _ e.symm).1; omega)]
  · intro hn b off hA i
    obtain ⟨b', off', e, e1, e2, hc⟩ := h3.row hn
    rw [hA] at e
    cases e
    have hbl := cell_lt (hc 0 hn 0 (by omega))
    rw [← h4 hn b off hA i]
    unfold World.frozen?
    rw [hg.block b hbl (fun e => by have := (hr _ e.symm).1; omega)]
theorem cell_ne_deferred {W : World} {b : Nat} {ds : Option (List Deferred)} {p : Addr} {v : Value} (h : W.cell? p = some v) (hd : W.heap[b]? = some (.deferred ds)) : p.block ≠ b := by
  rintro rfl
  unfold World.cell? at h
  rw [hd] at h
  simp at h
theorem Qown.put {W : World} {lo : Nat} {A : Option Addr} {n : Nat} {xs : List Cb} {b : Nat} {ds : Option (List Deferred)} (h : Qown W lo A n xs) (hd : W.heap[b]? = some (.deferred ds)) (o' : Obj) : Qown (W.putObj b o') lo A n xs := by
  have hsz : (W.putObj b o').heap.size = W.heap.size := by simp [World.putObj]
  refine ⟨⟨h.sm.len, fun hn => ?_⟩, fun hn b' off hA i => ?_⟩
  · obtain ⟨b', off, e, e1, e2, hc⟩ := h.sm.row hn
    refine ⟨b', off, e, e1, by rw [hsz]; exact e2, fun j hj i hi => ?_⟩
    have hx := hc j hj i hi
    rw [← hx]
    unfold World.cell?
    rw [World.putObj_heap_other (cell_ne_deferred hx hd)]
  · obtain ⟨b2, off2, e, e1, e2, hc⟩ := h.sm.row hn
    rw [hA] at e
    cases e
    rw [← h.free hn b' off hA i]
    unfold World.frozen?
    rw [World.putObj_heap_other (cell_ne_deferred (hc 0 hn 0 (by omega)) hd)]
set_option maxRecDepth 100000 in
set_option maxHeartbeats 8000000 in
theorem drain_in (A : Option Addr) (n c : Nat) (o : Int) (xs : List Cb) (most : Int) (w : World) (h : Sm 2 encC (0, 0) w 0 w.heap.size A n xs) (hn : n ≤ 1000000) (h0 : 0 ≤ o) :
    CallsIn Fence.wide 5 Tryz.prog 126 #[qv A n c o, .int .i64 most] w (DrPost w (drainF o xs most)) := by
  have HE := hid (show drainF o xs most = if ¬ QGood o xs then (0, [], [], 230) else if most < 0 then (0, [], [], 2) else (o, xs.drop (min (doneN o xs) most.toNat), (xs.take (min (doneN o xs) most.toNat)).map (·.2), 0) from rfl)
  have HC := hid (show qcheckC o xs = if QGood o xs then 0 else 230 from rfl)
  have hl := hid h.len
  obtain ⟨i0, hi0, hz00, hz01, hz02⟩ := info_parts info_u64
  have HI0 := hid hi0; have HZ0 := hid hz00; have HZ1 := hid hz01; have HZ2 := hid hz02
  clear hi0 hz00 hz01 hz02
  have HR := hid h; have HB := hid (Below.refl w.heap.size w)
  clear h
  have bx := below_box w (.cells (qcs A n c o) 58)
  replace HR := hid (HR.out.step bx); replace HB := hid (below_then HB.out bx)
  clear bx
  have PQ := hid (Blk.new w 58 (qcs A n c o))
  have bx := below_box (w.alloc (.cells (qcs A n c o) 58)) (.cells #[.int .i64 most] 3)
  replace HR := hid (HR.out.step bx); replace PQ := hid (PQ.out.step bx); replace HB := hid (below_then HB.out bx)
  clear bx
  have PM := hid (Blk.new2 w 3 #[.int .i64 most] (.cells (qcs A n c o) 58))
  have bx := below_box ((w.alloc (.cells (qcs A n c o) 58)).alloc (.cells #[.int .i64 most] 3)) (.cells (qcs none 0 0 0) 58)
  replace HR := hid (HR.out.step bx); replace PQ := hid (PQ.out.step bx); replace PM := hid (PM.out.step bx); replace HB := hid (below_then HB.out bx)
  clear bx
  have PZ := hid (Blk.new3 w 58 (qcs none 0 0 0) (.cells (qcs A n c o) 58) (.cells #[.int .i64 most] 3))
  obtain ⟨y00, y01, yf0⟩ := PQ.out.cells2
  refine callsIn_of_wp_marks Tryz.func126 rfl trivial ?_ rfl
  simp only [Tryz.ntmps126, List.size_toArray, List.length_cons, List.length_nil, Nat.reduceAdd, Nat.reduceSub, Array.replicate_succ, Array.replicate_zero, List.push_toArray, List.append_toArray, List.nil_append, List.cons_append]
  refine wpIn_wide.2 ?_
  go_wp2_with fail
  go_step3
  go_wp2_with fail
  clear y00 y01 yf0
  refine (qcheck_any A n c o xs _ HR.out hn h0).mono ?_
  rintro e w1 ⟨rfl, hb⟩
  replace HR := hid (HR.out.step hb); replace PQ := hid (PQ.out.step hb); replace PM := hid (PM.out.step hb); replace PZ := hid (PZ.out.step hb); replace HB := hid (below_then HB.out hb)
  clear hb
  have hz1 := hid PZ.out.lt; have PM1 := PM; have PZ1 := PZ; have HB1 := HB
  by_cases hg : QGood o xs
  · have e0 : qcheckC o xs = 0 := by rw [HC.out, if_pos hg]
    rw [e0]
    clear e0
    have HG := hid hg
    clear hg
    by_cases h1 : most < 0
    · have h1b : decide (most < 0) = true := decide_eq_true h1
      have H1 := hid h1
      clear h1
      obtain ⟨y00, y01, yf0⟩ := PZ.out.cells2
      obtain ⟨y10, yf1⟩ := PM.out.cells1
      go_wp2
      rw [Exit.noGoto_ret]
      obtain ⟨q0, q1, qf⟩ := ((PZ.out.setCell 0 (.slice none 0 0)).setCell 1 (.int .u64 0)).cells2
      have E : drainF o xs most = (0, [], [], 2) := by rw [HE.out, if_neg (not_not_intro HG.out), if_pos H1.out]
      rw [E]
      exact ⟨.tuple #[qv none 0 0 0, .slice none 0 0, .int .i64 2], (by simp [results, Tryz.results126, go_sem, q0, q1]), none, 0, 0, none, 0, 0, rfl, Qown.nil _ _, Ow.nil _ _ _, (HB.out.setCell (by simp; omega) _).setCell (by simp; omega) _, Nat.le_refl _⟩
    · have h1b : decide (most < 0) = false := decide_eq_false h1
      have hm := hid (show 0 ≤ most by omega)
      have HE2 := hid (show drainF o xs most = (o, xs.drop (min (doneN o xs) most.toNat), (xs.take (min (doneN o xs) most.toNat)).map (·.2), 0) by rw [HE.out, if_neg (not_not_intro HG.out), if_neg h1])
      clear HE HC h1
      obtain ⟨y00, y01, yf0⟩ := PQ.out.cells2
      obtain ⟨y10, yf1⟩ := PM.out.cells1
      go_upto_region 6 with fail
      clear h1b y00 y01 yf0 y10 yf1
      have bx := below_box w1 (.cells (dcs A n c o) 183)
      replace HR := hid (HR.out.step bx); replace PQ := hid (PQ.out.step bx); replace PM := hid (PM.out.step bx); replace PZ := hid (PZ.out.step bx); replace HB := hid (below_then HB.out bx)
      clear bx
      have PD := hid (Blk.new w1 183 (dcs A n c o))
      have HD0 := hid (Below.refl w1.heap.size w1)
      have HD1 := hid (below_box w1 (.cells (dcs A n c o) 183))
      have hz2 := hid (show (w1.alloc (.cells (dcs A n c o) 183)).heap.size = w1.heap.size + 1 by simp)
      generalize w1.alloc (.cells (dcs A n c o) 183) = W2 at *
      obtain ⟨y00, y01, yf0⟩ := PQ.out.cells2
      obtain ⟨y10, y11, yf1⟩ := PD.out.cells2
      go_wp2_with fail
      clear y00 y01 yf0 y10 y11 yf1
      refine (clone_cb A n c 0 xs _ HR.out hn).mono ?_
      rintro e w3 ⟨A3, c3, rfl, ho, hb⟩
      have HO := hid ho; have hs3 := hid hb.size
      clear ho
      replace HR := hid (HR.out.step hb); replace PQ := hid (PQ.out.step hb); replace PM := hid (PM.out.step hb); replace PZ := hid (PZ.out.step hb); replace PD := hid (PD.out.step hb); replace HB := hid (below_then HB.out hb); replace HD1 := hid (below_then HD1.out hb)
      clear hb
      clear HR
      obtain ⟨y00, y01, yf0⟩ := PD.out.cells2
      go_upto_region 8 with fail
      clear y00 y01 yf0
      replace PQ := hid (PQ.out.far (p := ⟨w1.heap.size, 0, none⟩) (by have := hz1.out; simp; omega) (.slice A3 n c3)); replace PM := hid (PM.out.far (p := ⟨w1.heap.size, 0, none⟩) (by have := hz1.out; simp; omega) (.slice A3 n c3)); replace PZ := hid (PZ.out.far (p := ⟨w1.heap.size, 0, none⟩) (by have := hz1.out; simp; omega) (.slice A3 n c3))
      replace PD := hid (PD.out.setCell 0 (.slice A3 n c3))
      replace HO := hid (HO.out.setCell (p := ⟨w1.heap.size, 0, none⟩) (by have := hz2.out; simp; omega) (.slice A3 n c3))
      replace HB := hid (HB.out.setCell (p := ⟨w1.heap.size, 0, none⟩) (by have := hz1.out; simp; omega) (.slice A3 n c3))
      replace HD1 := hid (HD1.out.setCell (p := ⟨w1.heap.size, 0, none⟩) (Nat.le_refl _) (.slice A3 n c3))
      have hsx : (w3.setCell ⟨w1.heap.size, 0, none⟩ (.slice A3 n c3)).heap.size = w3.heap.size := by simp
      have bx := below_box (w3.setCell ⟨w1.heap.size, 0, none⟩ (.slice A3 n c3)) (.cells #[.slice none 0 0] 40)
      have P8 := hid (Blk.at (w := w3.setCell ⟨w1.heap.size, 0, none⟩ (.slice A3 n c3)) (t := 40) (cs := #[.slice none 0 0]) hsx.symm)
      have hs5 := hid (show ((w3.setCell ⟨w1.heap.size, 0, none⟩ (.slice A3 n c3)).alloc (.cells #[.slice none 0 0] 40)).heap.size = w3.heap.size + 1 by simp)
      have HSM := hid (show Sm 2 encC (0, 0) (w3.setCell ⟨w1.heap.size, 0, none⟩ (.slice A3 n c3)) W2.heap.size w3.heap.size A3 n xs by have := HO.out.sm (d := ((0, 0) : Cb)); rwa [hsx] at this)
      replace HSM := hid (HSM.out.below bx (Nat.le_of_eq hsx.symm))
      have HFZ := hid ((Qown.ofOm HO.out).step bx).free
      replace PQ := hid (PQ.out.step bx); replace PM := hid (PM.out.step bx); replace PZ := hid (PZ.out.step bx); replace PD := hid (PD.out.step bx); replace HO := hid (HO.out.step bx); replace HB := hid (below_then HB.out bx); replace HD1 := hid (below_then HD1.out bx)
      clear bx hsx
      generalize (w3.setCell ⟨w1.heap.size, 0, none⟩ (.slice A3 n c3)).alloc (.cells #[.slice none 0 0] 40) = W5 at *
      by_cases hm0 : most = 0
      · have hm0b : (most == 0) = true := by simpa using hm0
        have HE3 := hid (show drainF o xs most = (o, xs, [], 0) by rw [HE2.out, hm0]; simp)
        obtain ⟨y00, yf0⟩ := PM.out.cells1
        obtain ⟨y10, y11, yf1⟩ := PD.out.cells2
        obtain ⟨y20, y21, yf2⟩ := PZ.out.cells2
        go_wp2
        rw [Exit.noGoto_ret]
        obtain ⟨q0, q1, qf⟩ := ((PZ.out.setCell 0 (.slice A3 n c3)).setCell 1 (.int .u64 o)).cells2
        have hzl := hid (show w.heap.size + 1 + 1 < W2.heap.size by have := hz1.out; have := hz2.out; omega)
        have o5 := Qown.ofOm HO.out
        exact ⟨.tuple #[qv A3 n c3 o, .slice none 0 0, .int .i64 0], (by simp [results, Tryz.results126, go_sem, q0, q1]), A3, n, c3, none, 0, 0, by rw [HE3.out], by rw [HE3.out]; exact ((o5.setCell (p := ⟨w.heap.size + 1 + 1, 0, none⟩) hzl.out _).setCell (p := ⟨w.heap.size + 1 + 1, 1, none⟩) hzl.out _).mono (by have := hzl.out; omega), by rw [HE3.out]; exact Ow.nil _ _ _, (HB.out.setCell (by simp; omega) _).setCell (by simp; omega) _, HO.out.cap.1⟩
      · have hm0b : (most == 0) = false := by simpa using hm0
        obtain ⟨y00, yf0⟩ := PM.out.cells1
        go_wp2_with fail
        clear y00 yf0
        go_step3
        go_wp2_with fail
        refine (done_any w1.heap.size W5).mono ?_
        rintro e W6 ⟨rfl, rfl⟩
        have bx := below_box W5 (.cells #[.func (.func 154) #[ptr w1.heap.size] #[]] 199)
        have PT := hid (Blk.new W5 199 #[.func (.func 154) #[ptr w1.heap.size] #[]])
        have hs6 := hid (show (W5.alloc (.cells #[.func (.func 154) #[ptr w1.heap.size] #[]] 199)).heap.size = W5.heap.size + 1 by simp)
        have h85 := hid (show w3.heap.size < W5.heap.size by have := hs5.out; omega)
        replace HSM := hid (HSM.out.below bx (Nat.le_of_lt h85.out))
        replace HFZ := hid (show 0 < n → ∀ b off, A3 = some ⟨b, off, none⟩ → ∀ i, (W5.alloc (.cells #[.func (.func 154) #[ptr w1.heap.size] #[]] 199)).frozen? ⟨b, i, none⟩ = false from ((⟨HO.out.sm, HFZ.out⟩ : Qown W5 _ A3 n xs).step bx).free)
        replace P8 := hid (P8.out.step bx)
        replace PQ := hid (PQ.out.step bx); replace PM := hid (PM.out.step bx); replace PZ := hid (PZ.out.step bx); replace PD := hid (PD.out.step bx); replace HO := hid (HO.out.step bx); replace HB := hid (below_then HB.out bx); replace HD1 := hid (below_then HD1.out bx)
        clear bx
        go_wp2_with fail
        generalize W5.alloc (.cells #[.func (.func 154) #[ptr w1.heap.size] #[]] 199) = W6 at *
        have hDrs0 : Drs w1.heap.size W5.heap.size W2.heap.size w3.heap.size o xs 0 W6 := ⟨PT.out, A3, c3, by rw [Nat.sub_zero, hl.out]; exact PD.out, by rw [Nat.sub_zero, hl.out]; exact HO.out.cap.1, by rw [Nat.sub_zero, hl.out, List.drop_zero]; exact HSM.out, by rw [Nat.sub_zero, hl.out]; exact HFZ.out⟩
        have hDrI0 : DrI w1 W6 w3.heap.size xs 0 W6 := ⟨⟨none, 0, P8.out, Ow.nil _ _ _⟩, HD1.out, Nat.le_refl _⟩
        have a1 := hid (show w1.heap.size < W2.heap.size ∧ W2.heap.size ≤ w3.heap.size ∧ w3.heap.size < W5.heap.size ∧ W5.heap.size < W6.heap.size from ⟨by have := hz2.out; omega, hs3.out, h85.out, by have := hs6.out; omega⟩)
        have a2 := a1.out
        refine (wpIn_wide (n := 5)).1 ?_
        refine' wpIn_rangeFunc_state rfl (by omega) (gf := 155) (lb := #[ptr W5.heap.size]) rfl trivial (enters_of Tryz.func155 (by kernel_rfl) rfl)
          (done_seq (5 - 1) w1.heap.size W5.heap.size W2.heap.size w3.heap.size o xs 0 (by omega) (by rw [hl.out]; exact hn) (by omega) (by omega) (by omega) (by omega)) (fun _ => rfl) (by omega)
          (fun k W => (k : Int) < most ∧ DrI w1 W6 w3.heap.size xs k W) (fun cc k W => cc = .exit 1 ∧ (k : Int) = most ∧ k ≤ doneN o xs ∧ DrI w1 W6 w3.heap.size xs k W ∧ Drs w1.heap.size W5.heap.size W2.heap.size w3.heap.size o xs k W)
          ?hI ?hT ?hX ?hID ?h0 hDrs0 _ ?assign ?body ?done ?stop
        case assign =>
          intro l k W K hK
          have HK := hid hK
          clear hK
          gi_wp2_with fail
          exact HK.out
        case hI => exact fun k X Y row hs hg hr => ⟨hs.1, hs.2.books (by omega) hg hr⟩
        case hT => exact fun k X Y row hs hg hr => hs.books (by omega) (by omega) (by omega) hg hr
        case hX => exact fun cc k X Y row hs hg hr => ⟨hs.1, hs.2.1, hs.2.2.1, hs.2.2.2.1.books (by omega) hg hr, hs.2.2.2.2.books (by omega) (by omega) (by omega) hg hr⟩
        case hID => exact fun k X Y hs hg => ⟨hs.1, hs.2.stepD (by omega) (by omega) hg⟩
        case h0 => exact ⟨by have := hm.out; show ((0 : Nat) : Int) < most; omega, hDrI0⟩
        case body =>
          rintro l k W hk ⟨hkm, hi⟩ ht
          obtain ⟨v, hv⟩ : ∃ v, v = (xs[k]?.getD (0, 0)).2 := ⟨_, rfl⟩
          rw [← hv]
          have hkx : k < xs.length := Nat.lt_of_lt_of_le hk (doneN_le o xs)
          have HV := hid (show ((xs.take k).map fun x => x.2) ++ [v] = (xs.take (k + 1)).map fun x => x.2 by rw [List.take_add_one, List.map_append, hv, List.getElem?_eq_getElem hkx]; rfl)
          obtain ⟨G, cg, h1, h2⟩ := hi.out
          have hk6 : k ≤ 1000000 := by have := hl.out; omega
          have PMW := hid (PM1.out.below hi.be (by have := hz1.out; omega))
          have hi0 := HI0.out; have hz00 := HZ0.out; have hz01 := HZ1.out; have hz02 := HZ2.out
          obtain ⟨o0, of⟩ := h1.cells1
          have hsz := hid hi.size
          have hbe := hid hi.be
          have HT := hid ht; have H1 := hid h1; have H2 := hid h2; have HKM := hid hkm; have HK := hid hk
          clear hv hi ht h1 h2 hkm hk hkx
          have ne1 : ¬ w3.heap.size = w.heap.size + 1 := by have := hz1.out; omega
          have ne2 : ¬ w.heap.size + 1 = w3.heap.size := by have := hz1.out; omega
          by_cases hend : (k : Int) + 1 = most
          · have hendb : ((k : Int) + 1 == most) = true := by simpa using hend
            gi_wp2_with (gi_at_builtin; refine wpListIn_app u64v 0 _ rfl _ _ 40 rfl W6.heap.size 35 i0 _ 8 Tryz.underlying40 hi0 hz00 hz01 hz02 rfl G k cg ((xs.take k).map fun x => x.2) rfl (H2.out.alloc _) W.heap.size (W.heap.size + 1) _ 1 _ [v] rfl (Sl.one' (by simp)) (fun _ => rfl) (by simp only [maxLen]; omega) (by omega) (by have := hsz.out; simp; omega) ?_; intro G' cg' w7 og' hg' hat'; have hrow := hid H2.out.row_ge; have b7 := (H1.out.alloc (.cells #[.int .u64 v] 35)).grown hg' (H2.out.ne_row (by omega)); have hbe7 := (hbe.out.alloc (by have := hsz.out; omega) (.cells #[.int .u64 v] 35)).grown hg' (by have := hsz.out; simp; omega) (fun r e => by have := hrow.out r e; omega); obtain ⟨u0, uf⟩ := b7.cells1; obtain ⟨m0, mf⟩ := (PM1.out.below hbe7 (by have := hz1.out; omega)).cells1)
            rw [HV.out] at og'
            have hrw := HKM.out
            have hss := hsz.out
            have hkeep : ∀ q, q < W6.heap.size → q ≠ w3.heap.size → (w7.setCell ⟨w3.heap.size, 0, none⟩ (.slice G' (k + 1) cg')).heap[q]? = W.heap[q]? := fun q e1 e2 =>
              (Below.heap_setCell w7 ⟨w3.heap.size, 0, none⟩ _ q e2).trans ((hg'.block q (by simp; omega) (fun e => by have := H2.out.row_ge q e.symm; omega)).trans (Below.heap_alloc W _ q (by omega)))
            have k1 := KeepsFrom.of_grownBy (B := W6.heap.size) (World.grownBy_alloc W (.cells #[.int .u64 v] 35) none) (fun j e => by cases e)
            have k2 := (H2.out.alloc (.cells #[.int .u64 v] 35)).keeps (B := W6.heap.size) hg'
            have k3 := KeepsFrom.of_grownBy (B := W6.heap.size) (grownBy_setCell' w7 w3.heap.size (.slice G' (k + 1) cg')) (fun j e => by cases e; omega)
            have hz7 := hg'.size
            simp at hz7
            have hdr : DrI w1 W6 w3.heap.size xs (k + 1) (w7.setCell ⟨w3.heap.size, 0, none⟩ (.slice G' (k + 1) cg')) := ⟨⟨G', cg', by have := b7.setCell 0 (.slice G' (k + 1) cg'); simpa using this, og'.setCell (p := ⟨w3.heap.size, 0, none⟩) (by show w3.heap.size < W6.heap.size; omega) _⟩, hbe7.setCell (p := ⟨w3.heap.size, 0, none⟩) (by show w1.heap.size ≤ w3.heap.size; omega) _, by simp; omega⟩
            have hds := HT.out.kept (hkeep _ (by omega) (by omega)) (hkeep _ (by omega) (by omega)) (fun q e1 e2 => hkeep q (by omega) (by omega))
            exact ⟨(k1.trans k2).trans k3, rfl, by push_cast; exact hend, HK.out, hdr, hds⟩
          · have hendb : ((k : Int) + 1 == most) = false := by simpa using hend
            gi_wp2_with (gi_at_builtin; refine wpListIn_app u64v 0 _ rfl _ _ 40 rfl W6.heap.size 35 i0 _ 8 Tryz.underlying40 hi0 hz00 hz01 hz02 rfl G k cg ((xs.take k).map fun x => x.2) rfl (H2.out.alloc _) W.heap.size (W.heap.size + 1) _ 1 _ [v] rfl (Sl.one' (by simp)) (fun _ => rfl) (by simp only [maxLen]; omega) (by omega) (by have := hsz.out; simp; omega) ?_; intro G' cg' w7 og' hg' hat'; have hrow := hid H2.out.row_ge; have b7 := (H1.out.alloc (.cells #[.int .u64 v] 35)).grown hg' (H2.out.ne_row (by omega)); have hbe7 := (hbe.out.alloc (by have := hsz.out; omega) (.cells #[.int .u64 v] 35)).grown hg' (by have := hsz.out; simp; omega) (fun r e => by have := hrow.out r e; omega); obtain ⟨u0, uf⟩ := b7.cells1; obtain ⟨m0, mf⟩ := (PM1.out.below hbe7 (by have := hz1.out; omega)).cells1)
            rw [HV.out] at og'
            have hrw := HKM.out
            have hss := hsz.out
            have hkeep : ∀ q, q < W6.heap.size → q ≠ w3.heap.size → (w7.setCell ⟨w3.heap.size, 0, none⟩ (.slice G' (k + 1) cg')).heap[q]? = W.heap[q]? := fun q e1 e2 =>
              (Below.heap_setCell w7 ⟨w3.heap.size, 0, none⟩ _ q e2).trans ((hg'.block q (by simp; omega) (fun e => by have := H2.out.row_ge q e.symm; omega)).trans (Below.heap_alloc W _ q (by omega)))
            have k1 := KeepsFrom.of_grownBy (B := W6.heap.size) (World.grownBy_alloc W (.cells #[.int .u64 v] 35) none) (fun j e => by cases e)
            have k2 := (H2.out.alloc (.cells #[.int .u64 v] 35)).keeps (B := W6.heap.size) hg'
            have k3 := KeepsFrom.of_grownBy (B := W6.heap.size) (grownBy_setCell' w7 w3.heap.size (.slice G' (k + 1) cg')) (fun j e => by cases e; omega)
            have hz7 := hg'.size
            simp at hz7
            have hdr : DrI w1 W6 w3.heap.size xs (k + 1) (w7.setCell ⟨w3.heap.size, 0, none⟩ (.slice G' (k + 1) cg')) := ⟨⟨G', cg', by have := b7.setCell 0 (.slice G' (k + 1) cg'); simpa using this, og'.setCell (p := ⟨w3.heap.size, 0, none⟩) (by show w3.heap.size < W6.heap.size; omega) _⟩, hbe7.setCell (p := ⟨w3.heap.size, 0, none⟩) (by show w1.heap.size ≤ w3.heap.size; omega) _, by simp; omega⟩
            have hds := HT.out.kept (hkeep _ (by omega) (by omega)) (hkeep _ (by omega) (by omega)) (fun q e1 e2 => hkeep q (by omega) (by omega))
            exact ⟨(k1.trans k2).trans k3, ⟨by push_cast; omega, hdr⟩, hds⟩
        case done =>
          rintro b W hb ⟨hkm, hi⟩ ht hD
          have hmin : min (doneN o xs) most.toNat = doneN o xs := by omega
          obtain ⟨G, cg, g1, g2⟩ := hi.out
          obtain ⟨A9, c9, d1, d2, d3, d4⟩ := ht.box
          have PZ9 := hid (PZ1.out.below hi.be (by have := hz1.out; omega))
          obtain ⟨o0, of⟩ := g1.cells1
          obtain ⟨v0, v1, vf⟩ := d1.cells2
          obtain ⟨z0, z1, zf⟩ := PZ9.out.cells2
          have HMIN := hid hmin; have G2 := hid g2; have D3 := hid d3; have D4 := hid d4; have D2 := hid d2; have HBE := hid hi.be; have HSI := hid hi.size
          clear hmin g1 g2 d1 d2 d3 d4 hi ht hkm
          have ne1 : ¬ w3.heap.size = w.heap.size + 1 + 1 := by have := hz1.out; omega
          have ne2 : ¬ w.heap.size + 1 + 1 = w3.heap.size := by have := hz1.out; omega
          have ne3 : ¬ w1.heap.size = w.heap.size + 1 + 1 := by have := hz1.out; omega
          have ne4 : ¬ w.heap.size + 1 + 1 = w1.heap.size := by have := hz1.out; omega
          go_wp2_with fail
          go_region
          all_goals
            have hlw := hz1.out
            have hs6' := HSI.out
            have hD2 : ((W.setCell ⟨w.heap.size + 1 + 1, 0, none⟩ (.slice A9 (xs.length - (doneN o xs)) c9)).setCell ⟨w.heap.size + 1 + 1, 1, none⟩ (.int .u64 o)).drew.heap[b]? = some (.deferred (some [])) := (Below.heap_setCell _ ⟨w.heap.size + 1 + 1, 1, none⟩ _ b (by show b ≠ w.heap.size + 1 + 1; omega)).trans ((Below.heap_setCell _ ⟨w.heap.size + 1 + 1, 0, none⟩ _ b (by show b ≠ w.heap.size + 1 + 1; omega)).trans hD)
            have HD2 := hid hD2
            clear hD2 o0 of v0 v1 vf z0 z1 zf
            go_wp2
            rw [Exit.noGoto_ret]
            refine ⟨by simp, .inl ⟨_, _, rfl, run_takeDeferred HD2.out, ?_⟩⟩
            have hg := grownBy_putObj' (((W.setCell ⟨w.heap.size + 1 + 1, 0, none⟩ (.slice A9 (xs.length - (doneN o xs)) c9)).setCell ⟨w.heap.size + 1 + 1, 1, none⟩ (.int .u64 o)).drew) b (.deferred none)
            have hr : ∀ r, some b = some r → ∃ o' : Obj, (((W.setCell ⟨w.heap.size + 1 + 1, 0, none⟩ (.slice A9 (xs.length - (doneN o xs)) c9)).setCell ⟨w.heap.size + 1 + 1, 1, none⟩ (.int .u64 o)).drew).heap[r]? = some o' ∧ o'.isCells = false := fun r e => by cases e; exact ⟨_, HD2.out, rfl⟩
            have zz := (show Blk ((W.setCell ⟨w.heap.size + 1 + 1, 0, none⟩ (.slice A9 (xs.length - (doneN o xs)) c9)).setCell ⟨w.heap.size + 1 + 1, 1, none⟩ (.int .u64 o)).drew (w.heap.size + 1 + 1) 58 #[.slice A9 (xs.length - (doneN o xs)) c9, .int .u64 o] from ((PZ9.out.setCell 0 (.slice A9 (xs.length - (doneN o xs)) c9)).setCell 1 (.int .u64 o)).drew).abides hg hr
            obtain ⟨q0, q1, qf⟩ := zz.cells2
            refine ⟨.tuple #[qv A9 (xs.length - (doneN o xs)) c9 o, .slice G (doneN o xs) cg, .int .i64 0], (by simp [results, Tryz.results126, go_sem, q0, q1]), A9, xs.length - (doneN o xs), c9, G, (doneN o xs), cg, by rw [HE2.out], ?_, ?_, ?_, D2.out⟩
            · rw [HE2.out, HMIN.out]
              have qo : Qown W w.heap.size A9 (xs.length - (doneN o xs)) (xs.drop (doneN o xs)) := ⟨⟨D3.out.len, fun hn => by
                obtain ⟨b', off, e, e1, e2, hc⟩ := D3.out.row hn
                exact ⟨b', off, e, by omega, cell_lt (hc 0 hn 0 (by omega)), hc⟩⟩, D4.out⟩
              have qo2 : Qown W W2.heap.size A9 (xs.length - (doneN o xs)) (xs.drop (doneN o xs)) := ⟨⟨D3.out.len, fun hn => by
                obtain ⟨b', off, e, e1, e2, hc⟩ := D3.out.row hn
                exact ⟨b', off, e, e1, cell_lt (hc 0 hn 0 (by omega)), hc⟩⟩, D4.out⟩
              have qs := (qo2.setCell (p := ⟨w.heap.size + 1 + 1, 0, none⟩) (by show w.heap.size + 1 + 1 < W2.heap.size; omega) (.slice A9 (xs.length - (doneN o xs)) c9)).setCell (p := ⟨w.heap.size + 1 + 1, 1, none⟩) (by show w.heap.size + 1 + 1 < W2.heap.size; omega) (.int .u64 o)
              exact ((qs.step (Below.refl _ _).drew).put HD2.out _).mono (by omega)
            · rw [HE2.out, HMIN.out]
              exact (((G2.out.setCell (p := ⟨w.heap.size + 1 + 1, 0, none⟩) (by show w.heap.size + 1 + 1 < W6.heap.size; omega) _).setCell (p := ⟨w.heap.size + 1 + 1, 1, none⟩) (by show w.heap.size + 1 + 1 < W6.heap.size; omega) _).drewN 1 |>.abides hg hr).mono (by omega)
            · exact ((((below_then HB1.out HBE.out).setCell (p := ⟨w.heap.size + 1 + 1, 0, none⟩) (by show w.heap.size ≤ w.heap.size + 1 + 1; omega) _).setCell (p := ⟨w.heap.size + 1 + 1, 1, none⟩) (by show w.heap.size ≤ w.heap.size + 1 + 1; omega) _).drew).trans (belowK_b (w := w) (Nat.le_refl _) _ b _ _ (by omega) HD2.out rfl rfl)
        case stop =>
          rintro b k cc W hb ⟨rfl, hkm, hkn, hi, ht⟩ hD
          have hmin : min (doneN o xs) most.toNat = k := by omega
          gi_wp2
          obtain ⟨G, cg, g1, g2⟩ := hi.out
          obtain ⟨A9, c9, d1, d2, d3, d4⟩ := ht.box
          have PZ9 := hid (PZ1.out.below hi.be (by have := hz1.out; omega))
          obtain ⟨o0, of⟩ := g1.cells1
          obtain ⟨v0, v1, vf⟩ := d1.cells2
          obtain ⟨z0, z1, zf⟩ := PZ9.out.cells2
          have HMIN := hid hmin; have G2 := hid g2; have D3 := hid d3; have D4 := hid d4; have D2 := hid d2; have HBE := hid hi.be; have HSI := hid hi.size
          clear hmin g1 g2 d1 d2 d3 d4 hi ht hkm
          have ne1 : ¬ w3.heap.size = w.heap.size + 1 + 1 := by have := hz1.out; omega
          have ne2 : ¬ w.heap.size + 1 + 1 = w3.heap.size := by have := hz1.out; omega
          have ne3 : ¬ w1.heap.size = w.heap.size + 1 + 1 := by have := hz1.out; omega
          have ne4 : ¬ w.heap.size + 1 + 1 = w1.heap.size := by have := hz1.out; omega
          go_wp2_with fail
          go_region
          all_goals
            have hlw := hz1.out
            have hs6' := HSI.out
            have hD2 : ((W.setCell ⟨w.heap.size + 1 + 1, 0, none⟩ (.slice A9 (xs.length - k) c9)).setCell ⟨w.heap.size + 1 + 1, 1, none⟩ (.int .u64 o)).drew.heap[b]? = some (.deferred (some [])) := (Below.heap_setCell _ ⟨w.heap.size + 1 + 1, 1, none⟩ _ b (by show b ≠ w.heap.size + 1 + 1; omega)).trans ((Below.heap_setCell _ ⟨w.heap.size + 1 + 1, 0, none⟩ _ b (by show b ≠ w.heap.size + 1 + 1; omega)).trans hD)
            have HD2 := hid hD2
            clear hD2 o0 of v0 v1 vf z0 z1 zf
            go_wp2
            rw [Exit.noGoto_ret]
            refine ⟨by simp, .inl ⟨_, _, rfl, run_takeDeferred HD2.out, ?_⟩⟩
            have hg := grownBy_putObj' (((W.setCell ⟨w.heap.size + 1 + 1, 0, none⟩ (.slice A9 (xs.length - k) c9)).setCell ⟨w.heap.size + 1 + 1, 1, none⟩ (.int .u64 o)).drew) b (.deferred none)
            have hr : ∀ r, some b = some r → ∃ o' : Obj, (((W.setCell ⟨w.heap.size + 1 + 1, 0, none⟩ (.slice A9 (xs.length - k) c9)).setCell ⟨w.heap.size + 1 + 1, 1, none⟩ (.int .u64 o)).drew).heap[r]? = some o' ∧ o'.isCells = false := fun r e => by cases e; exact ⟨_, HD2.out, rfl⟩
            have zz := (show Blk ((W.setCell ⟨w.heap.size + 1 + 1, 0, none⟩ (.slice A9 (xs.length - k) c9)).setCell ⟨w.heap.size + 1 + 1, 1, none⟩ (.int .u64 o)).drew (w.heap.size + 1 + 1) 58 #[.slice A9 (xs.length - k) c9, .int .u64 o] from ((PZ9.out.setCell 0 (.slice A9 (xs.length - k) c9)).setCell 1 (.int .u64 o)).drew).abides hg hr
            obtain ⟨q0, q1, qf⟩ := zz.cells2
            refine ⟨.tuple #[qv A9 (xs.length - k) c9 o, .slice G k cg, .int .i64 0], (by simp [results, Tryz.results126, go_sem, q0, q1]), A9, xs.length - k, c9, G, k, cg, by rw [HE2.out], ?_, ?_, ?_, D2.out⟩
            · rw [HE2.out, HMIN.out]
              have qo : Qown W w.heap.size A9 (xs.length - k) (xs.drop k) := ⟨⟨D3.out.len, fun hn => by
                obtain ⟨b', off, e, e1, e2, hc⟩ := D3.out.row hn
                exact ⟨b', off, e, by omega, cell_lt (hc 0 hn 0 (by omega)), hc⟩⟩, D4.out⟩
              have qo2 : Qown W W2.heap.size A9 (xs.length - k) (xs.drop k) := ⟨⟨D3.out.len, fun hn => by
                obtain ⟨b', off, e, e1, e2, hc⟩ := D3.out.row hn
                exact ⟨b', off, e, e1, cell_lt (hc 0 hn 0 (by omega)), hc⟩⟩, D4.out⟩
              have qs := (qo2.setCell (p := ⟨w.heap.size + 1 + 1, 0, none⟩) (by show w.heap.size + 1 + 1 < W2.heap.size; omega) (.slice A9 (xs.length - k) c9)).setCell (p := ⟨w.heap.size + 1 + 1, 1, none⟩) (by show w.heap.size + 1 + 1 < W2.heap.size; omega) (.int .u64 o)
              exact ((qs.step (Below.refl _ _).drew).put HD2.out _).mono (by omega)
            · rw [HE2.out, HMIN.out]
              exact (((G2.out.setCell (p := ⟨w.heap.size + 1 + 1, 0, none⟩) (by show w.heap.size + 1 + 1 < W6.heap.size; omega) _).setCell (p := ⟨w.heap.size + 1 + 1, 1, none⟩) (by show w.heap.size + 1 + 1 < W6.heap.size; omega) _).drewN 1 |>.abides hg hr).mono (by omega)
            · exact ((((below_then HB1.out HBE.out).setCell (p := ⟨w.heap.size + 1 + 1, 0, none⟩) (by show w.heap.size ≤ w.heap.size + 1 + 1; omega) _).setCell (p := ⟨w.heap.size + 1 + 1, 1, none⟩) (by show w.heap.size ≤ w.heap.size + 1 + 1; omega) _).drew).trans (belowK_b (w := w) (Nat.le_refl _) _ b _ _ (by omega) HD2.out rfl rfl)
  · have e0 : qcheckC o xs = 230 := by rw [HC.out, if_neg hg]
    rw [e0]
    clear e0
    have HG := hid hg
    clear hg
    obtain ⟨y00, y01, yf0⟩ := PZ.out.cells2
    obtain ⟨y10, yf1⟩ := PM.out.cells1
    go_wp2
    rw [Exit.noGoto_ret]
    obtain ⟨q0, q1, qf⟩ := ((PZ.out.setCell 0 (.slice none 0 0)).setCell 1 (.int .u64 0)).cells2
    have E : drainF o xs most = (0, [], [], 230) := by rw [HE.out, if_pos HG.out]
    rw [E]
    exact ⟨.tuple #[qv none 0 0 0, .slice none 0 0, .int .i64 230], (by simp [results, Tryz.results126, go_sem, q0, q1]), none, 0, 0, none, 0, 0, rfl, Qown.nil _ _, Ow.nil _ _ _, (HB.out.setCell (by simp; omega) _).setCell (by simp; omega) _, Nat.le_refl _⟩
theorem drain_any (A : Option Addr) (n c : Nat) (o : Int) (xs : List Cb) (most : Int) (w : World) (h : Sm 2 encC (0, 0) w 0 w.heap.size A n xs) (hn : n ≤ 1000000) (h0 : 0 ≤ o) :
    Calls Tryz.prog 126 #[qv A n c o, .int .i64 most] w (DrPost w (drainF o xs most)) := callsIn_wide.1 (drain_in A n c o xs most w h hn h0)
end Go.Proofs.YtfipdoofgbjbjaaGreat

/- package queue: New, Take, Segments. No condition but sizes. -/
namespace Go.Proofs.YtfipdoofgbjbjaaGreat
open Go.RowKit
def newQ (o : Int) : Int × List Cb × Int := if 9223372036854775806 < o then (0, [], 2) else (o, [], 0)
def NwPost (W : World) (r : Int × List Cb × Int) (e : Ending) (W' : World) : Prop := e = .returned (.tuple #[qv none 0 0 r.1, .int .i64 r.2.2]) ∧ Below W.heap.size W W'
def takeF (o : Int) (l : List Cb) : Int × List Cb × Int × Int :=
  if ¬ QGood o l then (0, [], 0, 230) else if doneN o l = 0 then (0, [], 0, 4) else (o, l.drop 1, (l[0]?.getD (0, 0)).2, 0)
def TkPost (W : World) (r : Int × List Cb × Int × Int) (e : Ending) (W' : World) : Prop :=
  ∃ A n c, e = .returned (.tuple #[qv A n c r.1, .int .u64 r.2.2.1, .int .i64 r.2.2.2]) ∧ Qown W' W.heap.size A n r.2.1 ∧ Below W.heap.size W W' ∧ n ≤ c
set_option maxHeartbeats 2000000 in
theorem qtake_any (A : Option Addr) (n c : Nat) (o : Int) (xs : List Cb) (w : World) (h : Sm 2 encC (0, 0) w 0 w.heap.size A n xs) (hn : n ≤ 1000000) (h0 : 0 ≤ o) :
    Calls Tryz.prog 88 #[qv A n c o] w (TkPost w (takeF o xs)) := by
  have HE := hid (show takeF o xs = if ¬ QGood o xs then (0, [], 0, 230) else if doneN o xs = 0 then (0, [], 0, 4) else (o, xs.drop 1, (xs[0]?.getD (0, 0)).2, 0) from rfl)
  have HR := hid h; have HB := hid (Below.refl w.heap.size w)
  have hl := hid h.len
  clear h
  have bx := below_box w (.cells (qcs A n c o) 58)
  replace HR := hid (HR.out.step bx); replace HB := hid (below_then HB.out bx)
  clear bx
  have PQ := hid (Blk.new w 58 (qcs A n c o))
  have bx := below_box (w.alloc (.cells (qcs A n c o) 58)) (.cells (qcs none 0 0 0) 58)
  replace HR := hid (HR.out.step bx); replace PQ := hid (PQ.out.step bx); replace HB := hid (below_then HB.out bx)
  clear bx
  have PZ := hid (Blk.new2 w 58 (qcs none 0 0 0) (.cells (qcs A n c o) 58))
  obtain ⟨y00, y01, yf0⟩ := PQ.out.cells2
  go_enter Tryz.func88, Tryz.ntmps88
  go_wp2_with fail
  clear y00 y01 yf0
  refine (drain_any A n c o xs 1 _ HR.out hn h0).mono ?_
  rintro e w1 ⟨A1, n1, c1, B1, m1, d1, rfl, o1, b1, hb, hnc⟩
  replace HR := hid (HR.out.step hb); replace PQ := hid (PQ.out.step hb); replace PZ := hid (PZ.out.step hb); replace HB := hid (below_then HB.out hb)
  obtain ⟨r, hr⟩ : ∃ r, r = drainF o xs 1 := ⟨_, rfl⟩
  rw [← hr] at o1 b1 ⊢
  obtain ⟨ro, rl, rw_, rc⟩ := r
  have HRR := hid hr
  have hb1 := hid hb.size; have hzl := hid PZ.out.lt
  clear hb hr
  dsimp only at o1 b1 ⊢
  have O1 := hid o1; have B1 := hid b1
  clear o1 b1
  have bx := below_box w1 (.cells (qcs A1 n1 c1 ro) 58)
  replace PZ := hid (PZ.out.step bx); replace O1 := hid (O1.out.step bx); replace B1 := hid (B1.out.step bx); replace HB := hid (below_then HB.out bx)
  clear bx
  have P5 := hid (Blk.new w1 58 (qcs A1 n1 c1 ro))
  go_upto_region 2 with fail
  generalize w1.alloc (.cells (qcs A1 n1 c1 ro) 58) = W2 at *
  by_cases hg : QGood o xs
  · have E := HRR.out
    rw [drainF, if_neg (not_not_intro hg), if_neg (by decide)] at E
    simp only [Prod.mk.injEq] at E
    obtain ⟨rfl, e2, e3, rfl⟩ := E
    have HG := hid hg; have E2 := hid e2; have E3 := hid e3
    have hm1 := hid B1.out.len
    clear e2 e3 hg
    rcases Nat.eq_zero_or_pos (doneN ro xs) with hd | hd
    · have hm0 : m1 = 0 := by rw [← hm1.out, E3.out, hd]; simp
      have hm0i : (m1 : Int) = 0 := by omega
      have HD := hid hd
      clear hd
      obtain ⟨y00, y01, yf0⟩ := PZ.out.cells2
      go_wp2
      obtain ⟨q0, q1, qf⟩ := ((PZ.out.setCell 0 (.slice none 0 0)).setCell 1 (.int .u64 0)).cells2
      refine bodyPost_ret (v := .tuple #[qv none 0 0 0, .int .u64 0, .int .i64 4]) (by simp [results, Tryz.results88, go_sem, q0, q1]) rfl ?_
      rw [HE.out, if_neg (not_not_intro HG.out), if_pos HD.out]
      exact ⟨none, 0, 0, rfl, Qown.nil _ _, (HB.out.setCell (by simp) _).setCell (by simp) _, Nat.le_refl _⟩
    · have hnx : 0 < xs.length := Nat.lt_of_lt_of_le hd (doneN_le _ _)
      have hmin : min (doneN ro xs) (1 : Int).toNat = 1 := by simp; omega
      have hm0 : m1 = 1 := by rw [← hm1.out, E3.out, hmin, List.length_map, List.length_take]; omega
      have HE2 := hid (show takeF ro xs = (ro, xs.drop 1, (xs[0]?.getD (0, 0)).2, 0) by rw [HE.out, if_neg (not_not_intro HG.out), if_neg (by omega)])
      have HM := hid hmin
      clear hmin hd
      obtain ⟨x, xt, rfl⟩ : ∃ x xt, xs = x :: xt := by cases xs with | nil => simp at hnx | cons x xt => exact ⟨x, xt, rfl⟩
      have E4 := hid (show rw_ = [x.2] by rw [E3.out, HM.out]; rfl)
      have E5 := hid (show rl = (x :: xt).drop 1 by rw [E2.out, HM.out])
      have hm1i : ((m1 : Int) == 0) = false := by simp; omega
      obtain ⟨b, off, rfl, hlo, hbh, hc⟩ := (B1.out.sl (d := (0 : Int))).row (by omega)
      have c0 := hc 0 (by omega)
      rw [E4.out] at c0
      simp only [Nat.add_zero, List.getElem?_cons_zero, Option.getD_some] at c0
      have hm1p : (0 : Int) < (m1 : Int) := by omega
      have hzz := hid PZ.out.lt
      have h15 := hid P5.out.lt
      have ne1 : ¬ w1.heap.size = w.heap.size + 1 := by have := hzl.out; have := hb1.out; simp at this; omega
      have ne2 : ¬ w.heap.size + 1 = w1.heap.size := by omega
      have ne3 : ¬ b = w.heap.size + 1 := by simp at hlo; omega
      have ne4 : ¬ w.heap.size + 1 = b := by omega
      clear hc
      obtain ⟨y00, y01, yf0⟩ := P5.out.cells2
      obtain ⟨y10, y11, yf1⟩ := PZ.out.cells2
      go_wp2_with fail
      go_region
      all_goals
        clear y00 y01 yf0 y10 y11 yf1 c0
        have hlz := hid (show w.heap.size + 1 < ((w.alloc (.cells (qcs A n c ro) 58)).alloc (.cells (qcs none 0 0 0) 58)).heap.size by simp)
        go_wp2
        obtain ⟨q0, q1, qf⟩ := ((PZ.out.setCell 0 (.slice A1 n1 c1)).setCell 1 (.int .u64 ro)).cells2
        refine bodyPost_ret (v := .tuple #[qv A1 n1 c1 ro, .int .u64 x.2, .int .i64 0]) (by simp [results, Tryz.results88, go_sem, q0, q1]) rfl ?_
        rw [HE2.out]
        have oo := ((O1.out.setCell (p := ⟨w.heap.size + 1, 0, none⟩) hlz.out (.slice A1 n1 c1)).setCell (p := ⟨w.heap.size + 1, 1, none⟩) hlz.out (.int .u64 ro)).step (Below.refl _ _).drew
        rw [E5.out] at oo
        exact ⟨A1, n1, c1, rfl, oo.mono (by simp; omega), ((HB.out.setCell (by simp) _).setCell (by simp) _).drew, hnc⟩
  · have E := HRR.out
    rw [drainF, if_pos hg] at E
    simp only [Prod.mk.injEq] at E
    obtain ⟨rfl, rfl, rfl, rfl⟩ := E
    have HG := hid hg
    clear hg
    obtain ⟨y00, y01, yf0⟩ := PZ.out.cells2
    go_wp2
    obtain ⟨q0, q1, qf⟩ := ((PZ.out.setCell 0 (.slice none 0 0)).setCell 1 (.int .u64 0)).cells2
    refine bodyPost_ret (v := .tuple #[qv none 0 0 0, .int .u64 0, .int .i64 230]) (by simp [results, Tryz.results88, go_sem, q0, q1]) rfl ?_
    rw [HE.out, if_pos HG.out]
    exact ⟨none, 0, 0, rfl, Qown.nil _ _, (HB.out.setCell (by simp) _).setCell (by simp) _, Nat.le_refl _⟩
/-- how many are done, and how many come next -/
def seg0 (o : Int) (l : List Cb) : Nat := l.countP fun c => decide (c.1 ≤ o)
def seg1 (o : Int) (l : List Cb) : Nat := l.countP fun c => decide (c.1 = o + 1)
def segF (o : Int) (l : List Cb) : Int × Int × Int := if QGood o l then (seg0 o l, seg1 o l, (l.length : Int) - seg0 o l - seg1 o l) else (0, 0, 0)
abbrev tri (a b c : Int) : Value := .agg #[.int .i64 a, .int .i64 b, .int .i64 c]
def SgPost (W : World) (r : Int × Int × Int) (e : Ending) (W' : World) : Prop := e = .returned (tri r.1 r.2.1 r.2.2) ∧ Below W.heap.size W W'
end Go.Proofs.YtfipdoofgbjbjaaGreat

/- package rcu: rows of queues; all. No condition but sizes. -/
namespace Go.Proofs.YtfipdoofgbjbjaaGreat
open Go.RowKit
attribute [local go_sem] Oper.semAt_some
/-- a queue in a row: its callbacks, the number that is over, and where its row lies -/
structure Qe where
  l : List Cb
  o : Int
  A : Option Addr
  n : Nat
  c : Nat
def zQe : Qe := ⟨[], 0, none, 0, 0⟩
def encQ (x : Qe) : Nat → Value
  | 0 => .slice x.A x.n x.c
  | _ => .int .u64 x.o
set_option maxRecDepth 100000 in
set_option maxHeartbeats 4000000 in
theorem indexf_cb (A : Option Addr) (n c lo hi : Nat) (xs : List Cb) (F : Nat) (caps : Array Value) (p : Cb → Bool) (w : World) (h : Sm 2 encC (0, 0) w lo hi A n xs) (hhi : hi ≤ w.heap.size) (hn : n ≤ 1000000) (hF : Enters Tryz.prog F) (hcon : ∀ (x : Cb) (W : World), x ∈ xs → Below w.heap.size w W → Calls Tryz.prog F (#[cbv x.1 x.2] ++ caps) W fun e W' => e = .returned (.bool (p x)) ∧ Below W.heap.size W W') :
    Calls Tryz.prog 128 #[.slice A n c, .func (.func F) #[] caps] w fun e w' => (∃ v, e = .returned (.int .i64 v) ∧ decide (0 ≤ v) = xs.any p) ∧ Below w.heap.size w w' := by
  have HR := hid h; have hl := hid h.len; have HF := hid hF; have HC := hid hcon
  have HS := hid hhi
  clear h hhi hF hcon
  go_enter Tryz.func128, Tryz.ntmps128
  go_wp2_with fail
  go_loopw [5, 8] (fun _ i wr => ∃ j : Nat, j ≤ n ∧ i = .int .i64 j ∧ Below w.heap.size w wr ∧ ∀ k, k < j → p (xs[k]?.getD (0, 0)) = false) (fun _ i _ => n - (intOf i).toNat)
  case atStart => exact ⟨0, Nat.zero_le _, rfl, Below.refl _ _, fun k hk => absurd hk (Nat.not_lt_zero _)⟩
  case round =>
    obtain ⟨j, hj, rfl, hbw, hall⟩ := hrel
    have HA := hid hall; have HB := hid hbw
    clear hall hbw
    by_cases hjn : j < n
    · obtain ⟨b, off, rfl, _, hbh, hc⟩ := HR.out.row (by omega)
      have hs := HS.out
      have c0 := hc j hjn 0 (by omega)
      have c1 := hc j hjn 1 (by omega)
      rw [Nat.add_zero] at c0
      have f0 := (HB.out.cell (p := ⟨b, off + j * 2, none⟩) (by show b < _; omega)).trans c0
      have f1 := (HB.out.cell (p := ⟨b, off + j * 2 + 1, none⟩) (by show b < _; omega)).trans c1
      clear c0 c1
      obtain ⟨x, hx⟩ : ∃ x, x = xs[j]?.getD (0, 0) := ⟨_, rfl⟩
      rw [← hx] at f0 f1
      replace f0 : wr.cell? ⟨b, off + j * 2, none⟩ = some (.int .u64 x.1) := f0
      replace f1 : wr.cell? ⟨b, off + j * 2 + 1, none⟩ = some (.int .u64 x.2) := f1
      have HX := hid hx
      have HM := hid (show x ∈ xs by rw [hx, List.getElem?_eq_getElem (by rw [hl.out]; exact hjn)]; exact List.getElem_mem _)
      have hji : (j : Int) < (n : Int) := by omega
      clear hx hc hs
      go_wp2_with fail
      clear f0 f1
      rw [HF.out (#[cbv x.1 x.2] ++ caps) wr, Oper.upon_enter]
      refine (HC.out x wr HM.out HB.out).mono ?_
      rintro e w1 ⟨rfl, hb⟩
      have HB1 := hid (below_then HB.out hb)
      clear hb HB
      obtain ⟨q, hq⟩ : ∃ q, q = p x := ⟨_, rfl⟩
      have HQ := hid hq
      rw [← hq]
      clear hq
      rcases q with _ | _
      · go_wp2
        go_roundw
        case rel => exact ⟨j + 1, by omega, by go_num, HB1.out, fun k hk => by
          rcases Nat.lt_or_ge k j with h | h
          · exact HA.out k h
          · obtain rfl : k = j := by omega
            rw [← HX.out]; exact HQ.out.symm⟩
        case measure => simp [intOf]; omega
      · have HY := hid (show xs.any p = true from List.any_eq_true.2 ⟨x, HM.out, HQ.out.symm⟩)
        go_wp2
        go_ret
        exact ⟨⟨_, rfl, by rw [HY.out]; simp⟩, HB1.out⟩
    · obtain rfl : j = n := by omega
      have HY := hid (show xs.any p = false from by
        rw [List.any_eq_false]
        intro x hx
        obtain ⟨k, hk, rfl⟩ := List.mem_iff_getElem.1 hx
        have := HA.out k (by rw [← hl.out]; exact hk)
        rw [List.getElem?_eq_getElem hk] at this
        simpa using this)
      have hnn : ¬ ((j : Int) < (j : Int)) := by omega
      go_wp2
      go_ret
      exact ⟨⟨_, rfl, by rw [HY.out]; simp⟩, HB.out⟩
theorem containsf_cb (A : Option Addr) (n c lo hi : Nat) (xs : List Cb) (F : Nat) (caps : Array Value) (p : Cb → Bool) (w : World) (h : Sm 2 encC (0, 0) w lo hi A n xs) (hhi : hi ≤ w.heap.size) (hn : n ≤ 1000000) (hF : Enters Tryz.prog F) (hcon : ∀ (x : Cb) (W : World), x ∈ xs → Below w.heap.size w W → Calls Tryz.prog F (#[cbv x.1 x.2] ++ caps) W fun e W' => e = .returned (.bool (p x)) ∧ Below W.heap.size W W') :
    Calls Tryz.prog 93 #[.slice A n c, .func (.func F) #[] caps] w fun e w' => e = .returned (.bool (xs.any p)) ∧ Below w.heap.size w w' := by
  have HI := hid (indexf_cb A n c lo hi xs F caps p w h hhi hn hF hcon)
  clear h hF hcon
  go_enter Tryz.func93, Tryz.ntmps93
  go_wp2_with fail
  refine HI.out.mono ?_
  rintro e w' ⟨⟨v, rfl, hv⟩, hb⟩
  have HV := hid hv; have HB := hid hb
  clear hv hb
  go_wp2
  go_ret
  exact ⟨ret_bool HV.out, HB.out⟩
set_option maxRecDepth 100000 in
theorem all1_cb (x : Cb) (F : Nat) (caps : Array Value) (g : Nat) (b : Bool) (w : World) (hP : Blk w g 96 #[.func (.func F) #[] caps]) (hF : Enters Tryz.prog F)
    (hcon : ∀ W, Below w.heap.size w W → Calls Tryz.prog F (#[cbv x.1 x.2] ++ caps) W fun e W' => e = .returned (.bool b) ∧ Below W.heap.size W W') :
    Calls Tryz.prog 94 #[cbv x.1 x.2, ptr g] w fun e w' => e = .returned (.bool (!b)) ∧ Below w.heap.size w w' := by
  have HF := hid hF; have HC := hid hcon
  have HBB := hid (below_box w (.cells #[.int .u64 x.1, .int .u64 x.2] 60))
  obtain ⟨y0, yf⟩ := (hP.step HBB.out).cells1
  obtain ⟨z0, z1, zf⟩ := (Blk.new w 60 #[.int .u64 x.1, .int .u64 x.2]).cells2
  clear hF hcon hP
  go_enter Tryz.func94, Tryz.ntmps94
  go_wp2_with fail
  rw [HF.out (#[cbv x.1 x.2] ++ caps) _, Oper.upon_enter]
  clear y0 yf
  refine (HC.out _ HBB.out).mono ?_
  rintro e w1 ⟨rfl, hb⟩
  have HB := hid (below_then HBB.out hb)
  clear hb HBB HC
  go_wp2
  go_ret
  exact ⟨rfl, HB.out⟩
set_option maxRecDepth 100000 in
theorem all_cb (A : Option Addr) (n c : Nat) (xs : List Cb) (F : Nat) (caps : Array Value) (p : Cb → Bool) (w : World) (h : Sm 2 encC (0, 0) w 0 w.heap.size A n xs) (hn : n ≤ 1000000) (hF : Enters Tryz.prog F) (hcon : ∀ (x : Cb) (W : World), x ∈ xs → Below w.heap.size w W → Calls Tryz.prog F (#[cbv x.1 x.2] ++ caps) W fun e W' => e = .returned (.bool (p x)) ∧ Below W.heap.size W W') :
    Calls Tryz.prog 57 #[.slice A n c, .func (.func F) #[] caps] w fun e w' => e = .returned (.bool (xs.all p)) ∧ Below w.heap.size w w' := by
  have HBB := hid (below_box w (.cells #[.func (.func F) #[] caps] 96))
  have P := hid (Blk.new w 96 #[.func (.func F) #[] caps])
  have HR := hid (h.below HBB.out (Nat.le_refl _))
  have HF := hid hF; have HC := hid hcon
  have hmf : ∀ (fn : Fn) (first cap : Array Value) (w : World), (Instr.makeFunc fn first cap).run Tryz.prog w = .ok (.func fn first cap) w := fun _ _ _ _ => rfl
  have EQ : Hid ((!xs.any (fun x => !p x)) = xs.all p) := hid (by rw [List.not_any_eq_all_not]; simp)
  clear h hF hcon
  go_enter Tryz.func57, Tryz.ntmps57
  go_wp2_with fail
  clear hmf
  have hz := hid (show (w.alloc (.cells #[.func (.func F) #[] caps] 96)).heap.size = w.heap.size + 1 by simp)
  generalize w.alloc (.cells #[.func (.func F) #[] caps] 96) = W0 at *
  refine (containsf_cb A n c 0 w.heap.size xs 94 #[ptr w.heap.size] (fun x => !p x) W0 HR.out (by have := hz.out; omega) hn (enters_of Tryz.func94 (by kernel_rfl) rfl) (fun x W hx hbW => all1_cb x F caps w.heap.size (p x) W (P.out.step hbW) HF.out (fun W2 hb2 => HC.out x W2 hx (below_then (below_then HBB.out hbW) hb2)))).mono ?_
  rintro e w1 ⟨rfl, hb⟩
  have HB := hid (below_then HBB.out hb)
  clear hb
  go_wp2
  go_ret
  exact ⟨ret_bool EQ.out, HB.out⟩

set_option maxRecDepth 100000 in
set_option maxHeartbeats 4000000 in
theorem indexf_qe (A : Option Addr) (n c lo hi : Nat) (xs : List Qe) (F : Nat) (caps : Array Value) (p : Qe → Bool) (w : World) (h : Sm 2 encQ zQe w lo hi A n xs) (hhi : hi ≤ w.heap.size) (hn : n ≤ 1000000) (hF : Enters Tryz.prog F) (hcon : ∀ (x : Qe) (W : World), x ∈ xs → Below w.heap.size w W → Calls Tryz.prog F (#[qv x.A x.n x.c x.o] ++ caps) W fun e W' => e = .returned (.bool (p x)) ∧ Below W.heap.size W W') :
    Calls Tryz.prog 132 #[.slice A n c, .func (.func F) #[] caps] w fun e w' => (∃ v, e = .returned (.int .i64 v) ∧ decide (0 ≤ v) = xs.any p) ∧ Below w.heap.size w w' := by
  have HR := hid h; have hl := hid h.len; have HF := hid hF; have HC := hid hcon
  have HS := hid hhi
  clear h hhi hF hcon
  go_enter Tryz.func132, Tryz.ntmps132
  go_wp2_with fail
  go_loopw [5, 8] (fun _ i wr => ∃ j : Nat, j ≤ n ∧ i = .int .i64 j ∧ Below w.heap.size w wr ∧ ∀ k, k < j → p (xs[k]?.getD zQe) = false) (fun _ i _ => n - (intOf i).toNat)
  case atStart => exact ⟨0, Nat.zero_le _, rfl, Below.refl _ _, fun k hk => absurd hk (Nat.not_lt_zero _)⟩
  case round =>
    obtain ⟨j, hj, rfl, hbw, hall⟩ := hrel
    have HA := hid hall; have HB := hid hbw
    clear hall hbw
    by_cases hjn : j < n
    · obtain ⟨b, off, rfl, _, hbh, hc⟩ := HR.out.row (by omega)
      have hs := HS.out
      have c0 := hc j hjn 0 (by omega)
      have c1 := hc j hjn 1 (by omega)
      rw [Nat.add_zero] at c0
      have f0 := (HB.out.cell (p := ⟨b, off + j * 2, none⟩) (by show b < _; omega)).trans c0
      have f1 := (HB.out.cell (p := ⟨b, off + j * 2 + 1, none⟩) (by show b < _; omega)).trans c1
      clear c0 c1
      obtain ⟨x, hx⟩ : ∃ x, x = xs[j]?.getD zQe := ⟨_, rfl⟩
      rw [← hx] at f0 f1
      replace f0 : wr.cell? ⟨b, off + j * 2, none⟩ = some (.slice x.A x.n x.c) := f0
      replace f1 : wr.cell? ⟨b, off + j * 2 + 1, none⟩ = some (.int .u64 x.o) := f1
      have HX := hid hx
      have HM := hid (show x ∈ xs by rw [hx, List.getElem?_eq_getElem (by rw [hl.out]; exact hjn)]; exact List.getElem_mem _)
      have hji : (j : Int) < (n : Int) := by omega
      clear hx hc hs
      go_wp2_with fail
      clear f0 f1
      rw [HF.out (#[qv x.A x.n x.c x.o] ++ caps) wr, Oper.upon_enter]
      refine (HC.out x wr HM.out HB.out).mono ?_
      rintro e w1 ⟨rfl, hb⟩
      have HB1 := hid (below_then HB.out hb)
      clear hb HB
      obtain ⟨q, hq⟩ : ∃ q, q = p x := ⟨_, rfl⟩
      have HQ := hid hq
      rw [← hq]
      clear hq
      rcases q with _ | _
      · go_wp2
        go_roundw
        case rel => exact ⟨j + 1, by omega, by go_num, HB1.out, fun k hk => by
          rcases Nat.lt_or_ge k j with h | h
          · exact HA.out k h
          · obtain rfl : k = j := by omega
            rw [← HX.out]; exact HQ.out.symm⟩
        case measure => simp [intOf]; omega
      · have HY := hid (show xs.any p = true from List.any_eq_true.2 ⟨x, HM.out, HQ.out.symm⟩)
        go_wp2
        go_ret
        exact ⟨⟨_, rfl, by rw [HY.out]; simp⟩, HB1.out⟩
    · obtain rfl : j = n := by omega
      have HY := hid (show xs.any p = false from by
        rw [List.any_eq_false]
        intro x hx
        obtain ⟨k, hk, rfl⟩ := List.mem_iff_getElem.1 hx
        have := HA.out k (by rw [← hl.out]; exact hk)
        rw [List.getElem?_eq_getElem hk] at this
        simpa using this)
      have hnn : ¬ ((j : Int) < (j : Int)) := by omega
      go_wp2
      go_ret
      exact ⟨⟨_, rfl, by rw [HY.out]; simp⟩, HB.out⟩
theorem containsf_qe (A : Option Addr) (n c lo hi : Nat) (xs : List Qe) (F : Nat) (caps : Array Value) (p : Qe → Bool) (w : World) (h : Sm 2 encQ zQe w lo hi A n xs) (hhi : hi ≤ w.heap.size) (hn : n ≤ 1000000) (hF : Enters Tryz.prog F) (hcon : ∀ (x : Qe) (W : World), x ∈ xs → Below w.heap.size w W → Calls Tryz.prog F (#[qv x.A x.n x.c x.o] ++ caps) W fun e W' => e = .returned (.bool (p x)) ∧ Below W.heap.size W W') :
    Calls Tryz.prog 98 #[.slice A n c, .func (.func F) #[] caps] w fun e w' => e = .returned (.bool (xs.any p)) ∧ Below w.heap.size w w' := by
  have HI := hid (indexf_qe A n c lo hi xs F caps p w h hhi hn hF hcon)
  clear h hF hcon
  go_enter Tryz.func98, Tryz.ntmps98
  go_wp2_with fail
  refine HI.out.mono ?_
  rintro e w' ⟨⟨v, rfl, hv⟩, hb⟩
  have HV := hid hv; have HB := hid hb
  clear hv hb
  go_wp2
  go_ret
  exact ⟨ret_bool HV.out, HB.out⟩
set_option maxRecDepth 100000 in
theorem all1_qe (x : Qe) (F : Nat) (caps : Array Value) (g : Nat) (b : Bool) (w : World) (hP : Blk w g 71 #[.func (.func F) #[] caps]) (hF : Enters Tryz.prog F)
    (hcon : ∀ W, Below w.heap.size w W → Calls Tryz.prog F (#[qv x.A x.n x.c x.o] ++ caps) W fun e W' => e = .returned (.bool b) ∧ Below W.heap.size W W') :
    Calls Tryz.prog 99 #[qv x.A x.n x.c x.o, ptr g] w fun e w' => e = .returned (.bool (!b)) ∧ Below w.heap.size w w' := by
  have HF := hid hF; have HC := hid hcon
  have HBB := hid (below_box w (.cells #[.slice x.A x.n x.c, .int .u64 x.o] 58))
  obtain ⟨y0, yf⟩ := (hP.step HBB.out).cells1
  obtain ⟨z0, z1, zf⟩ := (Blk.new w 58 #[.slice x.A x.n x.c, .int .u64 x.o]).cells2
  clear hF hcon hP
  go_enter Tryz.func99, Tryz.ntmps99
  go_wp2_with fail
  rw [HF.out (#[qv x.A x.n x.c x.o] ++ caps) _, Oper.upon_enter]
  clear y0 yf
  refine (HC.out _ HBB.out).mono ?_
  rintro e w1 ⟨rfl, hb⟩
  have HB := hid (below_then HBB.out hb)
  clear hb HBB HC
  go_wp2
  go_ret
  exact ⟨rfl, HB.out⟩
set_option maxRecDepth 100000 in
theorem all_qe (A : Option Addr) (n c : Nat) (xs : List Qe) (F : Nat) (caps : Array Value) (p : Qe → Bool) (w : World) (h : Sm 2 encQ zQe w 0 w.heap.size A n xs) (hn : n ≤ 1000000) (hF : Enters Tryz.prog F) (hcon : ∀ (x : Qe) (W : World), x ∈ xs → Below w.heap.size w W → Calls Tryz.prog F (#[qv x.A x.n x.c x.o] ++ caps) W fun e W' => e = .returned (.bool (p x)) ∧ Below W.heap.size W W') :
    Calls Tryz.prog 60 #[.slice A n c, .func (.func F) #[] caps] w fun e w' => e = .returned (.bool (xs.all p)) ∧ Below w.heap.size w w' := by
  have HBB := hid (below_box w (.cells #[.func (.func F) #[] caps] 71))
  have P := hid (Blk.new w 71 #[.func (.func F) #[] caps])
  have HR := hid (h.below HBB.out (Nat.le_refl _))
  have HF := hid hF; have HC := hid hcon
  have hmf : ∀ (fn : Fn) (first cap : Array Value) (w : World), (Instr.makeFunc fn first cap).run Tryz.prog w = .ok (.func fn first cap) w := fun _ _ _ _ => rfl
  have EQ : Hid ((!xs.any (fun x => !p x)) = xs.all p) := hid (by rw [List.not_any_eq_all_not]; simp)
  clear h hF hcon
  go_enter Tryz.func60, Tryz.ntmps60
  go_wp2_with fail
  clear hmf
  have hz := hid (show (w.alloc (.cells #[.func (.func F) #[] caps] 71)).heap.size = w.heap.size + 1 by simp)
  generalize w.alloc (.cells #[.func (.func F) #[] caps] 71) = W0 at *
  refine (containsf_qe A n c 0 w.heap.size xs 99 #[ptr w.heap.size] (fun x => !p x) W0 HR.out (by have := hz.out; omega) hn (enters_of Tryz.func99 (by kernel_rfl) rfl) (fun x W hx hbW => all1_qe x F caps w.heap.size (p x) W (P.out.step hbW) HF.out (fun W2 hb2 => HC.out x W2 hx (below_then (below_then HBB.out hbW) hb2)))).mono ?_
  rintro e w1 ⟨rfl, hb⟩
  have HB := hid (below_then HBB.out hb)
  clear hb
  go_wp2
  go_ret
  exact ⟨ret_bool EQ.out, HB.out⟩

set_option maxRecDepth 100000 in
set_option maxHeartbeats 4000000 in
theorem indexf_int (A : Option Addr) (n c lo hi : Nat) (xs : List Int) (F : Nat) (caps : Array Value) (p : Int → Bool) (w : World) (h : Sl i64 0 w lo hi A n xs) (hhi : hi ≤ w.heap.size) (hn : n ≤ 1000000) (hF : Enters Tryz.prog F) (hcon : ∀ (x : Int) (W : World), x ∈ xs → Below w.heap.size w W → Calls Tryz.prog F (#[Value.int .i64 x] ++ caps) W fun e W' => e = .returned (.bool (p x)) ∧ Below W.heap.size W W') :
    Calls Tryz.prog 142 #[.slice A n c, .func (.func F) #[] caps] w fun e w' => (∃ v, e = .returned (.int .i64 v) ∧ decide (0 ≤ v) = xs.any p) ∧ Below w.heap.size w w' := by
  have HR := hid h; have hl := hid h.len; have HF := hid hF; have HC := hid hcon
  have HS := hid hhi
  clear h hhi hF hcon
  go_enter Tryz.func142, Tryz.ntmps142
  go_wp2_with fail
  go_loopw [5, 8] (fun _ i wr => ∃ j : Nat, j ≤ n ∧ i = .int .i64 j ∧ Below w.heap.size w wr ∧ ∀ k, k < j → p (xs[k]?.getD 0) = false) (fun _ i _ => n - (intOf i).toNat)
  case atStart => exact ⟨0, Nat.zero_le _, rfl, Below.refl _ _, fun k hk => absurd hk (Nat.not_lt_zero _)⟩
  case round =>
    obtain ⟨j, hj, rfl, hbw, hall⟩ := hrel
    have HA := hid hall; have HB := hid hbw
    clear hall hbw
    by_cases hjn : j < n
    · obtain ⟨b, off, rfl, _, hbh, hc⟩ := HR.out.row (by omega)
      have hs := HS.out
      have f0 := (HB.out.cell (p := ⟨b, off + j, none⟩) (by show b < _; omega)).trans (hc j hjn)
      obtain ⟨x, hx⟩ : ∃ x, x = xs[j]?.getD 0 := ⟨_, rfl⟩
      rw [← hx] at f0
      replace f0 : wr.cell? ⟨b, off + j, none⟩ = some (Value.int .i64 x) := f0
      have HX := hid hx
      have HM := hid (show x ∈ xs by rw [hx, List.getElem?_eq_getElem (by rw [hl.out]; exact hjn)]; exact List.getElem_mem _)
      have hji : (j : Int) < (n : Int) := by omega
      clear hx hc hs
      go_wp2_with fail
      clear f0
      rw [HF.out (#[Value.int .i64 x] ++ caps) wr, Oper.upon_enter]
      refine (HC.out x wr HM.out HB.out).mono ?_
      rintro e w1 ⟨rfl, hb⟩
      have HB1 := hid (below_then HB.out hb)
      clear hb HB
      obtain ⟨q, hq⟩ : ∃ q, q = p x := ⟨_, rfl⟩
      have HQ := hid hq
      rw [← hq]
      clear hq
      rcases q with _ | _
      · go_wp2
        go_roundw
        case rel => exact ⟨j + 1, by omega, by go_num, HB1.out, fun k hk => by
          rcases Nat.lt_or_ge k j with h | h
          · exact HA.out k h
          · obtain rfl : k = j := by omega
            rw [← HX.out]; exact HQ.out.symm⟩
        case measure => simp [intOf]; omega
      · have HY := hid (show xs.any p = true from List.any_eq_true.2 ⟨x, HM.out, HQ.out.symm⟩)
        go_wp2
        go_ret
        exact ⟨⟨_, rfl, by rw [HY.out]; simp⟩, HB1.out⟩
    · obtain rfl : j = n := by omega
      have HY := hid (show xs.any p = false from by
        rw [List.any_eq_false]
        intro x hx
        obtain ⟨k, hk, rfl⟩ := List.mem_iff_getElem.1 hx
        have := HA.out k (by rw [← hl.out]; exact hk)
        rw [List.getElem?_eq_getElem hk] at this
        simpa using this)
      have hnn : ¬ ((j : Int) < (j : Int)) := by omega
      go_wp2
      go_ret
      exact ⟨⟨_, rfl, by rw [HY.out]; simp⟩, HB.out⟩
theorem containsf_int (A : Option Addr) (n c lo hi : Nat) (xs : List Int) (F : Nat) (caps : Array Value) (p : Int → Bool) (w : World) (h : Sl i64 0 w lo hi A n xs) (hhi : hi ≤ w.heap.size) (hn : n ≤ 1000000) (hF : Enters Tryz.prog F) (hcon : ∀ (x : Int) (W : World), x ∈ xs → Below w.heap.size w W → Calls Tryz.prog F (#[Value.int .i64 x] ++ caps) W fun e W' => e = .returned (.bool (p x)) ∧ Below W.heap.size W W') :
    Calls Tryz.prog 121 #[.slice A n c, .func (.func F) #[] caps] w fun e w' => e = .returned (.bool (xs.any p)) ∧ Below w.heap.size w w' := by
  have HI := hid (indexf_int A n c lo hi xs F caps p w h hhi hn hF hcon)
  clear h hF hcon
  go_enter Tryz.func121, Tryz.ntmps121
  go_wp2_with fail
  refine HI.out.mono ?_
  rintro e w' ⟨⟨v, rfl, hv⟩, hb⟩
  have HV := hid hv; have HB := hid hb
  clear hv hb
  go_wp2
  go_ret
  exact ⟨ret_bool HV.out, HB.out⟩
set_option maxRecDepth 100000 in
theorem all1_int (x : Int) (F : Nat) (caps : Array Value) (g : Nat) (b : Bool) (w : World) (hP : Blk w g 120 #[.func (.func F) #[] caps]) (hF : Enters Tryz.prog F)
    (hcon : ∀ W, Below w.heap.size w W → Calls Tryz.prog F (#[Value.int .i64 x] ++ caps) W fun e W' => e = .returned (.bool b) ∧ Below W.heap.size W W') :
    Calls Tryz.prog 122 #[Value.int .i64 x, ptr g] w fun e w' => e = .returned (.bool (!b)) ∧ Below w.heap.size w w' := by
  have HF := hid hF; have HC := hid hcon
  have HBB := hid (Below.refl w.heap.size w)
  obtain ⟨y0, yf⟩ := hP.cells1
  clear hF hcon hP
  go_enter Tryz.func122, Tryz.ntmps122
  go_wp2_with fail
  rw [HF.out (#[Value.int .i64 x] ++ caps) _, Oper.upon_enter]
  clear y0 yf
  refine (HC.out _ HBB.out).mono ?_
  rintro e w1 ⟨rfl, hb⟩
  have HB := hid (below_then HBB.out hb)
  clear hb HBB HC
  go_wp2
  go_ret
  exact ⟨rfl, HB.out⟩
set_option maxRecDepth 100000 in
theorem all_int (A : Option Addr) (n c : Nat) (xs : List Int) (F : Nat) (caps : Array Value) (p : Int → Bool) (w : World) (h : Sl i64 0 w 0 w.heap.size A n xs) (hn : n ≤ 1000000) (hF : Enters Tryz.prog F) (hcon : ∀ (x : Int) (W : World), x ∈ xs → Below w.heap.size w W → Calls Tryz.prog F (#[Value.int .i64 x] ++ caps) W fun e W' => e = .returned (.bool (p x)) ∧ Below W.heap.size W W') :
    Calls Tryz.prog 80 #[.slice A n c, .func (.func F) #[] caps] w fun e w' => e = .returned (.bool (xs.all p)) ∧ Below w.heap.size w w' := by
  have HBB := hid (below_box w (.cells #[.func (.func F) #[] caps] 120))
  have P := hid (Blk.new w 120 #[.func (.func F) #[] caps])
  have HR := hid (h.below HBB.out (Nat.le_refl _))
  have HF := hid hF; have HC := hid hcon
  have hmf : ∀ (fn : Fn) (first cap : Array Value) (w : World), (Instr.makeFunc fn first cap).run Tryz.prog w = .ok (.func fn first cap) w := fun _ _ _ _ => rfl
  have EQ : Hid ((!xs.any (fun x => !p x)) = xs.all p) := hid (by rw [List.not_any_eq_all_not]; simp)
  clear h hF hcon
  go_enter Tryz.func80, Tryz.ntmps80
  go_wp2_with fail
  clear hmf
  have hz := hid (show (w.alloc (.cells #[.func (.func F) #[] caps] 120)).heap.size = w.heap.size + 1 by simp)
  generalize w.alloc (.cells #[.func (.func F) #[] caps] 120) = W0 at *
  refine (containsf_int A n c 0 w.heap.size xs 122 #[ptr w.heap.size] (fun x => !p x) W0 HR.out (by have := hz.out; omega) hn (enters_of Tryz.func122 (by kernel_rfl) rfl) (fun x W hx hbW => all1_int x F caps w.heap.size (p x) W (P.out.step hbW) HF.out (fun W2 hb2 => HC.out x W2 hx (below_then (below_then HBB.out hbW) hb2)))).mono ?_
  rintro e w1 ⟨rfl, hb⟩
  have HB := hid (below_then HBB.out hb)
  clear hb
  go_wp2
  go_ret
  exact ⟨ret_bool EQ.out, HB.out⟩

end Go.Proofs.YtfipdoofgbjbjaaGreat

/- package rcu: the deferred function of tries. No condition. -/
namespace Go.Proofs.YtfipdoofgbjbjaaGreat
open Go.RowKit
@[reducible] def cpu0 : Array Value := #[.int .i64 0, .slice none 0 0, .slice none 0 0, .int .i64 0, .int .i64 0, .bool false, .slice none 0 0, .slice none 0 0, .int .i64 0, .int .u64 0, .slice none 0 0]
/-- what the deferred function leaves: a new both, and the error -/
def RCaught (lo gb ge : Nat) (e : Int) (w w' : World) : Prop := ∃ gn, w.heap.size ≤ gn ∧ Below lo w w' ∧ Blk w' gn 78 cpu0 ∧ Blk w' gb 72 #[ptr gn] ∧ Blk w' ge 39 #[.int .i64 e]
set_option maxRecDepth 100000 in
set_option maxHeartbeats 400000 in
theorem rcatch_panicking (gb ge lo : Nat) (e : Int) (v0 v1 : Value) (w : World) (hb : Blk w gb 72 #[v0]) (he : Blk w ge 39 #[v1]) (hl : lo ≤ gb) (hl' : lo ≤ ge) (hls : lo ≤ w.heap.size) :
    CallsD Tryz.prog 71 #[ptr gb, ptr ge] (.panicking [{ v := .iface 39 (.int .i64 e), recovered := false }]) w fun x u' w' =>
      x = .returned (.tuple #[]) ∧ u' = .panicking [{ v := .iface 39 (.int .i64 e), recovered := true }] ∧ RCaught lo gb ge e w w' := by
  have HB := hid hb; have HE := hid he
  have hlt := hid hb.lt; have hlt' := hid he.lt
  have hne := hid (show gb ≠ ge from fun h => by subst h; unfold Blk at hb he; rw [hb] at he; simp at he)
  clear hb he
  refine callsD_of_wpS Tryz.func71 rfl fun c₀ cs hu => ?_
  apply wpS_seq
  apply wpS_region
  simp [wpOpsS, go_sem, recoverD, hu, Tryz.ntmps71, Exit.thenS]
  clear hu
  refine wpS_of_wp (wp_weak (RCaught lo gb ge e w) (fun Q hQ => ?_) ?_)
  · have HQ := hid hQ
    clear hQ
    have P := hid (Blk.new w 78 cpu0)
    have HB1 := hid (HB.out.alloc (.cells #[.int .i64 0, .slice none 0 0, .slice none 0 0, .int .i64 0, .int .i64 0, .bool false, .slice none 0 0, .slice none 0 0, .int .i64 0, .int .u64 0, .slice none 0 0] 78))
    have HE1 := hid (HE.out.alloc (.cells #[.int .i64 0, .slice none 0 0, .slice none 0 0, .int .i64 0, .int .i64 0, .bool false, .slice none 0 0, .slice none 0 0, .int .i64 0, .int .u64 0, .slice none 0 0] 78))
    have hN : ∀ w : World, (binOp .neq 20 (.iface 39 (.int .i64 e)) .nilIface).run Tryz.prog w = .ok (.bool true) w := neq_nil e
    have hT : ∀ w : World, (Instr.typeAssert (.iface 39 (.int .i64 e)) 20 39 true).run Tryz.prog w = .ok (.tuple #[.int .i64 e, .bool true]) w := is_errno e

    change Code.wp _ _ Q { tmps := #[ptr gb, ptr ge, .iface 39 (.int .i64 e), undef, undef, .iface 39 (.int .i64 e), undef, undef, undef, undef, undef, undef, undef, undef, undef, undef, undef, undef, undef], defers := [] } w
    go_upto_region 5 with fail
    have c0 := HB1.out.cell 0
    have f0 := HB1.out.frozen 0
    have c1 := HE1.out.cell 0
    have f1 := HE1.out.frozen 0
    have n1 : ¬ gb = ge := hne.out
    have n2 : ¬ ge = gb := fun h => hne.out h.symm
    clear hN hT
    go_wp2_with fail
    exact HQ.out _ _ rfl ⟨w.heap.size, Nat.le_refl _, (((Below.refl lo w).alloc hls _).setCell hl _).setCell hl' _, (P.out.far (p := ⟨gb, 0, none⟩) (Nat.ne_of_gt hlt.out) _).far (p := ⟨ge, 0, none⟩) (Nat.ne_of_gt hlt'.out) _, (HB1.out.setCell 0 _).far (p := ⟨ge, 0, none⟩) hne.out _, (HE1.out.far (p := ⟨gb, 0, none⟩) (fun h => hne.out h.symm) _).setCell 0 _⟩
  · rintro a' W' hd hR
    exact ⟨hd, _, rfl, .tuple #[], results_none rfl _ _ _, rfl, rfl, hR⟩
set_option maxRecDepth 100000 in
set_option maxHeartbeats 4000000 in
theorem rcatch_idle (gb ge : Nat) (w : World) :
    CallsD Tryz.prog 71 #[ptr gb, ptr ge] .returning w fun x u' w' => x = .returned (.tuple #[]) ∧ u' = .returning ∧ w' = w := by
  refine callsD_of_wpS Tryz.func71 rfl fun c₀ cs hu => ?_
  apply wpS_seq
  apply wpS_region
  simp [wpOpsS, go_sem, recoverD, hu, Tryz.ntmps71, Exit.thenS]
  refine wpS_of_wp (wp_weak (fun W' => W' = w) (fun Q hQ => ?_) ?_)
  · have HQ := hid hQ
    clear hQ hu
    have hN : ∀ w : World, (binOp .neq 20 .nilIface .nilIface).run Tryz.prog w = .ok (.bool false) w := nil_nil
    change Code.wp _ _ Q { tmps := #[ptr gb, ptr ge, .nilIface, undef, undef, .nilIface, undef, undef, undef, undef, undef, undef, undef, undef, undef, undef, undef, undef, undef], defers := [] } w
    apply wp_seq
    go_upto_region 1 with fail
    go_upto_region 2 with fail
    exact HQ.out _ _ rfl rfl
  · rintro a' W' hd rfl
    refine ⟨hd, .returning, ?_, .tuple #[], results_none rfl _ _ _, rfl, rfl, rfl⟩
    rw [← hu]
end Go.Proofs.YtfipdoofgbjbjaaGreat

/- package rcu: Check. No condition but sizes, and that numbers are of their kinds. -/
namespace Go.Proofs.YtfipdoofgbjbjaaGreat
open Go.RowKit
attribute [local go_sem] Oper.semAt_some
/-- where all of it lies -/
structure Ra where
  A : Option Addr
  n : Nat
  k : Nat
  B : Option Addr
  m : Nat
  d : Nat
  D : Option Addr
  kd : Nat
  Q : Option Addr
  nq : Nat
  kq : Nat
@[reducible] def rcells (s : St) (g : Gr) (a : Ra) : Array Value := #[.int .i64 s.1, .slice a.A a.n a.k, .slice a.B a.m a.d, .int .i64 g.dn, .int .i64 g.ak, .bool g.on, .slice a.D g.nd.length a.kd, .slice a.Q a.nq a.kq]
@[reducible] def rcv (s : St) (g : Gr) (a : Ra) : Value := .agg (rcells s g a)
def QeR (w : World) (x : Qe) : Prop := Sm 2 encC (0, 0) w 0 w.heap.size x.A x.n x.l ∧ x.n ≤ x.c ∧ x.n ≤ 1000 ∧ 0 ≤ x.o ∧ x.o ≤ 18446744073709551615
/-- all of it can be read -/
structure RcR (w : World) (s : St) (g : Gr) (es : List Qe) (a : Ra) : Prop where
  rd : Rds w a.A a.n a.k a.B a.m a.d s.2.1 s.2.2
  gd : Sl blv false w 0 w.heap.size a.D g.nd.length g.nd
  gl : g.nd.length ≤ 1000
  gi : g.dn ≤ 9223372036854775807 ∧ g.ak ≤ 9223372036854775807
  qs : Sm 2 encQ zQe w 0 w.heap.size a.Q a.nq es
  ql : a.nq ≤ 1000
  qe : ∀ x ∈ es, QeR w x
theorem QeR.step {w w' : World} {x : Qe} (h : QeR w x) (hb : Below w.heap.size w w') : QeR w' x := ⟨h.1.step hb, h.2⟩
theorem RcR.step {w w' : World} {s : St} {g : Gr} {es : List Qe} {a : Ra} (h : RcR w s g es a) (hb : Below w.heap.size w w') : RcR w' s g es a :=
  ⟨h.rd.step hb, h.gd.step hb, h.gl, h.gi, h.qs.step hb, h.ql, fun x hx => (h.qe x hx).step hb⟩
def rightQ (g : Gr) (x : Qe) : Bool := decide (QGood x.o x.l) && (decide (x.o = max g.dn 0) && x.l.all (fun c => decide (c.1 ≤ max g.ak 0)))
def RcOk (s : St) (g : Gr) (es : List Qe) : Prop := Good s.1 s.2.1 s.2.2 ∧ gchkC g = 0 ∧ g.nd.length = s.2.1.length ∧ es.length = s.2.1.length ∧ es.all (rightQ g) = true
instance {s : St} {g : Gr} {es : List Qe} : Decidable (RcOk s g es) := by unfold RcOk; infer_instance
def rcheckC (s : St) (g : Gr) (es : List Qe) : Int := if RcOk s g es then 0 else 240
/-- a number that may be is a word -/
theorem u64_pos {a : Int} (h : a ≤ 9223372036854775807) : IntKind.u64.wrap (max a 0) = max a 0 := by rw [IntKind.wrap_u64]; omega
set_option maxRecDepth 100000 in
set_option maxHeartbeats 1000000 in
theorem asked_any (p x : Int) (gr : Nat) (s : St) (g : Gr) (a : Ra) (w : World) (hP : Blk w gr 30 (rcells s g a)) (hk : g.ak ≤ 9223372036854775807) :
    Calls Tryz.prog 54 #[cbv p x, ptr gr] w fun e w' => e = .returned (.bool (decide (p ≤ max g.ak 0))) ∧ Below w.heap.size w w' := by
  have hu := u64_pos hk
  have hmx : (if g.ak < 0 then (0 : Int) else g.ak) = max g.ak 0 := by split <;> omega
  have hmy : max g.ak 0 = max g.ak 0 := rfl
  obtain ⟨M, hM⟩ : ∃ M, M = max g.ak 0 := ⟨_, rfl⟩
  rw [← hM] at hu hmx ⊢
  have hmz : max g.ak 0 = M := hM.symm
  have HB := hid (below_box w (.cells #[.int .u64 p, .int .u64 x] 60))
  obtain ⟨y0, y1, y2, y3, y4, y5, y6, y7, yf⟩ := (hP.step HB.out).cells8
  obtain ⟨z0, z1, zf⟩ := (Blk.new w 60 #[.int .u64 p, .int .u64 x]).cells2
  clear hP hk hM hmy
  go_enter Tryz.func54, Tryz.ntmps54
  go_wp2
  all_goals
    go_ret
    refine ⟨ret_bool ?_, HB.out⟩
    first | rfl | (rw [decide_eq_decide]; omega)
set_option maxRecDepth 100000 in
set_option maxHeartbeats 2000000 in
theorem rightq_any (x : Qe) (gr gk : Nat) (s : St) (g : Gr) (a : Ra) (w : World) (hx : QeR w x) (hP : Blk w gr 30 (rcells s g a)) (hF : Blk w gk 96 #[.func (.func 54) #[] #[ptr gr]]) (hi : g.dn ≤ 9223372036854775807 ∧ g.ak ≤ 9223372036854775807) :
    Calls Tryz.prog 55 #[qv x.A x.n x.c x.o, ptr gr, ptr gk] w fun e w' => e = .returned (.bool (rightQ g x)) ∧ Below w.heap.size w w' := by
  obtain ⟨l, o, A, n, c⟩ := x
  have HX := hid hx; have P := hid hP; have PF := hid hF; have HI := hid hi; have HB := hid (Below.refl w.heap.size w)
  have HE : Hid (rightQ g ⟨l, o, A, n, c⟩ = (decide (QGood o l) && (decide (o = max g.dn 0) && l.all (fun c => decide (c.1 ≤ max g.ak 0))))) := hid rfl
  obtain ⟨R, hR⟩ : ∃ R, R = rightQ g ⟨l, o, A, n, c⟩ := ⟨_, rfl⟩
  rw [← hR] at HE ⊢
  clear hx hP hF hi hR
  dsimp only
  have bx := below_box w (.cells #[.slice A n c, .int .u64 o] 58)
  replace HX := hid (HX.out.step bx); replace P := hid (P.out.step bx); replace PF := hid (PF.out.step bx); replace HB := hid (below_then HB.out bx)
  clear bx
  have PQ := hid (Blk.new w 58 #[.slice A n c, .int .u64 o])
  obtain ⟨y00, y01, yf0⟩ := PQ.out.cells2
  go_enter Tryz.func55, Tryz.ntmps55
  go_wp2_with fail
  clear y00 y01 yf0
  generalize w.alloc (.cells #[.slice A n c, .int .u64 o] 58) = W0 at *
  refine (qcheck_any A n c o l _ HX.out.1 (by have := HX.out.2.2.1; dsimp only at this; omega) HX.out.2.2.2.1).mono ?_
  rintro e w1 ⟨rfl, hb⟩
  replace HX := hid (HX.out.step hb); replace P := hid (P.out.step hb); replace PF := hid (PF.out.step hb); replace PQ := hid (PQ.out.step hb); replace HB := hid (below_then HB.out hb)
  clear hb
  by_cases h1 : QGood o l
  rotate_left
  ·skip
   have e1 : qcheckC o l = 230 := if_neg h1
   have HR := hid (show R = false by rw [HE.out, decide_eq_false h1]; rfl)
   rw [e1]
   clear e1 h1
   go_wp2
   go_ret
   exact ⟨ret_bool HR.out.symm, HB.out⟩
  have e1 : qcheckC o l = 0 := if_pos h1
  replace HE := hid (show R = (decide (o = max g.dn 0) && l.all (fun c => decide (c.1 ≤ max g.ak 0))) by rw [HE.out, decide_eq_true h1]; rfl)
  rw [e1]
  clear e1 h1
  have hu := u64_pos HI.out.1
  obtain ⟨M, hM⟩ : ∃ M, M = max g.dn 0 := ⟨_, rfl⟩
  rw [← hM] at hu HE
  have hmz : max g.dn 0 = M := hM.symm
  have hmx : (if g.dn < 0 then (0 : Int) else g.dn) = M := by split <;> omega
  clear hM
  obtain ⟨y00, y01, yf0⟩ := PQ.out.cells2
  obtain ⟨y10, y11, y12, y13, y14, y15, y16, y17, yf1⟩ := P.out.cells8
  obtain ⟨y20, yf2⟩ := PF.out.cells1
  by_cases h2 : o = M
  rotate_left
  ·skip
   have HR := hid (show R = false by rw [HE.out, decide_eq_false h2]; rfl)
   have h2b : (o == M) = false := by simpa using h2
   clear h2
   go_wp2
   all_goals
     go_ret
     exact ⟨ret_bool HR.out.symm, HB.out⟩
  have h2b : (o == M) = true := by simpa using h2
  replace HE := hid (show R = l.all (fun c => decide (c.1 ≤ max g.ak 0)) by rw [HE.out, decide_eq_true h2]; rfl)
  clear h2
  go_wp2_with fail
  clear y00 y01 yf0 y10 y11 y12 y13 y14 y15 y16 y17 yf1 y20 yf2 hu hmz hmx h2b
  refine (all_cb A n c l 54 #[ptr gr] (fun c => decide (c.1 ≤ max g.ak 0)) w1 HX.out.1 (by have := HX.out.2.2.1; dsimp only at this; omega) (enters_of Tryz.func54 (by kernel_rfl) rfl) (fun y W hy hbW => asked_any y.1 y.2 gr s g a W (P.out.step hbW) HI.out.2)).mono ?_
  rintro e w2 ⟨rfl, hb⟩
  replace HX := hid (HX.out.step hb); replace P := hid (P.out.step hb); replace PF := hid (PF.out.step hb); replace PQ := hid (PQ.out.step hb); replace HB := hid (below_then HB.out hb)
  clear hb
  rw [← HE.out]
  go_wp2
  go_ret
  exact ⟨rfl, HB.out⟩
set_option maxRecDepth 100000 in
set_option maxHeartbeats 4000000 in
theorem rcheck_any (s : St) (g : Gr) (es : List Qe) (a : Ra) (w : World) (h : RcR w s g es a) :
    Calls Tryz.prog 19 #[rcv s g a] w fun e w' => e = .returned (.int .i64 (rcheckC s g es)) ∧ Below w.heap.size w w' := by
  have HR := hid h; have HB := hid (Below.refl w.heap.size w)
  have NO : Hid (¬ RcOk s g es → rcheckC s g es = 240) := hid (fun h => if_neg h)
  have YES : Hid (RcOk s g es → rcheckC s g es = 0) := hid (fun h => if_pos h)
  obtain ⟨cd, hcd⟩ : ∃ c, c = rcheckC s g es := ⟨_, rfl⟩
  rw [← hcd] at NO YES ⊢
  clear h hcd
  obtain ⟨A, n, k, B, m, d, D, kd, Q, nq, kq⟩ := a
  have hl1 := hid HR.out.rd.lenx; have hl2 := hid HR.out.gd.len; have hl3 := hid HR.out.qs.len
  obtain ⟨now, ns, os⟩ := s
  have bx := below_box w (.cells (rcells (now, ns, os) g ⟨A, n, k, B, m, d, D, kd, Q, nq, kq⟩) 30)
  replace HR := hid (HR.out.step bx); replace HB := hid (below_then HB.out bx)
  clear bx
  have PR := hid (Blk.new w 30 (rcells (now, ns, os) g ⟨A, n, k, B, m, d, D, kd, Q, nq, kq⟩))
  have bx := below_box (w.alloc (.cells (rcells (now, ns, os) g ⟨A, n, k, B, m, d, D, kd, Q, nq, kq⟩) 30)) (.cells #[.func (.func 54) #[] #[ptr w.heap.size]] 96)
  replace HR := hid (HR.out.step bx); replace PR := hid (PR.out.step bx); replace HB := hid (below_then HB.out bx)
  clear bx
  have PF := hid (Blk.new2 w 96 #[.func (.func 54) #[] #[ptr w.heap.size]] (.cells (rcells (now, ns, os) g ⟨A, n, k, B, m, d, D, kd, Q, nq, kq⟩) 30))
  have hmf : ∀ (fn : Fn) (first cap : Array Value) (w : World), (Instr.makeFunc fn first cap).run Tryz.prog w = .ok (.func fn first cap) w := fun _ _ _ _ => rfl
  have P1 := hid (Blk.new w 30 (rcells (now, ns, os) g ⟨A, n, k, B, m, d, D, kd, Q, nq, kq⟩))
  obtain ⟨z0, z1, z2, z3, z4, z5, z6, z7, zf⟩ := P1.out.cells8
  go_enter Tryz.func19, Tryz.ntmps19
  go_upto_region 4 with fail
  clear z0 z1 z2 z3 z4 z5 z6 z7 zf hmf P1
  generalize (w.alloc (.cells (rcells (now, ns, os) g ⟨A, n, k, B, m, d, D, kd, Q, nq, kq⟩) 30)).alloc (.cells #[.func (.func 54) #[] #[ptr w.heap.size]] 96) = W0 at *
  obtain ⟨y00, y01, y02, y03, y04, y05, y06, y07, yf0⟩ := PR.out.cells8
  go_wp2_with fail
  clear y00 y01 y02 y03 y04 y05 y06 y07 yf0
  by_cases h1 : Good now ns os
  rotate_left
  ·skip
   refine (check_bad now A n k B m d ns os _ HR.out.rd h1).mono ?_
   rintro e w1 ⟨rfl, hb⟩
   replace HR := hid (HR.out.step hb); replace PR := hid (PR.out.step hb); replace PF := hid (PF.out.step hb); replace HB := hid (below_then HB.out hb)
   clear hb
   have E := hid (NO.out (fun h => h1 h.1))
   clear h1
   go_wp2
   go_ret
   exact ⟨ret_int E.out.symm, HB.out⟩
  refine (check_good now A n k B m d ns os _ HR.out.rd h1).mono ?_
  rintro e w1 ⟨rfl, hb⟩
  replace HR := hid (HR.out.step hb); replace PR := hid (PR.out.step hb); replace PF := hid (PF.out.step hb); replace HB := hid (below_then HB.out hb)
  clear hb
  have H1 := hid h1
  clear h1
  obtain ⟨y00, y01, y02, y03, y04, y05, y06, y07, yf0⟩ := PR.out.cells8
  go_wp2_with fail
  clear y00 y01 y02 y03 y04 y05 y06 y07 yf0
  refine (gcheck_any g D g.nd.length kd 0 _ (HR.out.gd) (by have := HR.out.gl; omega)).mono ?_
  rintro e w2 ⟨rfl, hb⟩
  replace HR := hid (HR.out.step hb); replace PR := hid (PR.out.step hb); replace PF := hid (PF.out.step hb); replace HB := hid (below_then HB.out hb)
  clear hb
  by_cases h2 : gchkC g = 0
  rotate_left
  ·skip
   have E := hid (NO.out (fun h => h2 h.2.1))
   have h2b : (gchkC g == 0) = false := by simpa using h2
   clear h2
   go_wp2
   go_ret
   exact ⟨ret_int E.out.symm, HB.out⟩
  have H2 := hid h2
  rw [h2]
  clear h2
  by_cases h3 : g.nd.length = n
  rotate_left
  ·skip
   have E := hid (NO.out (fun h => h3 (by rw [h.2.2.1]; exact hl1.out)))
   have h3b : ((g.nd.length : Int) != (n : Int)) = true := by simp; omega
   clear h3
   obtain ⟨y00, y01, y02, y03, y04, y05, y06, y07, yf0⟩ := PR.out.cells8
   go_wp2
   go_ret
   exact ⟨ret_int E.out.symm, HB.out⟩
  have H3 := hid h3
  have h3b : ((g.nd.length : Int) != (n : Int)) = false := by rw [h3]; simp
  clear h3
  by_cases h4 : nq = n
  rotate_left
  ·skip
   have E := hid (NO.out (fun h => h4 (by have := h.2.2.2.1; have h5 := hl1.out; have h6 := hl3.out; dsimp only at this h5 h6; omega)))
   have h4b : ((nq : Int) != (n : Int)) = true := by simp; omega
   clear h4
   obtain ⟨y00, y01, y02, y03, y04, y05, y06, y07, yf0⟩ := PR.out.cells8
   go_wp2
   go_ret
   exact ⟨ret_int E.out.symm, HB.out⟩
  have H4 := hid h4
  have h4b : ((nq : Int) != (n : Int)) = false := by rw [h4]; simp
  clear h4
  obtain ⟨y00, y01, y02, y03, y04, y05, y06, y07, yf0⟩ := PR.out.cells8
  go_wp2_with fail
  clear h3b h4b y00 y01 y02 y03 y04 y05 y06 y07 yf0
  refine (all_qe Q nq kq es 55 #[ptr w.heap.size, ptr (w.heap.size + 1)] (rightQ g) w2 HR.out.qs (by have := HR.out.ql; dsimp only at this; omega) (enters_of Tryz.func55 (by kernel_rfl) rfl) (fun x W hx hbW => rightq_any x w.heap.size (w.heap.size + 1) (now, ns, os) g ⟨A, n, k, B, m, d, D, kd, Q, nq, kq⟩ W ((HR.out.qe x hx).step hbW) (PR.out.step hbW) (PF.out.step hbW) HR.out.gi)).mono ?_
  rintro e w3 ⟨rfl, hb⟩
  replace HR := hid (HR.out.step hb); replace PR := hid (PR.out.step hb); replace PF := hid (PF.out.step hb); replace HB := hid (below_then HB.out hb)
  clear hb
  obtain ⟨q, hq⟩ : ∃ q, q = es.all (rightQ g) := ⟨_, rfl⟩
  have HQ := hid hq
  rw [← hq]
  clear hq
  rcases q with _ | _
  · have E := hid (NO.out (fun h => by have h5 := h.2.2.2.2; rw [← HQ.out] at h5; cases h5))
    go_wp2
    go_ret
    exact ⟨ret_int E.out.symm, HB.out⟩
  · have E := hid (YES.out ⟨H1.out, H2.out, by have h5 := hl1.out; have h6 := H3.out; dsimp only at h5 ⊢; omega, by have h5 := hl1.out; have h6 := H4.out; have h7 := hl3.out; dsimp only at h5 h7 ⊢; omega, HQ.out.symm⟩)
    go_wp2
    go_ret
    exact ⟨ret_int E.out.symm, HB.out⟩
end Go.Proofs.YtfipdoofgbjbjaaGreat
