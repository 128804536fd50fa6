/- package queue: Put, End. No condition but sizes. -/
import Derived.Test.YtfipdoofgbjbjaaQu2
import Derived.Test.YtfipdoofgbjbjaaKitA
import Derived.Deep.RegionLaw
namespace Go.Proofs.Ytfipdoofgbjbjaa
open Go.RowKit
set_option maxHeartbeats 400000 in
theorem clone_cb (A : Option Addr) (n c lo : Nat) (xs : List _) (w : World) (h : Sm 2 encC (0, 0) w lo w.heap.size A n xs) (hn : n ≤ 1000000) :
    Calls Try.prog 19 #[.slice A n c] w fun e w' => ∃ A' c', e = .returned (.slice A' n c') ∧ Om 2 encC w' w.heap.size 65 A' n c' xs ∧ Below w.heap.size w w' := by
  obtain ⟨i0, hi0, hz00, hz01, hz02⟩ := info_parts info_cb
  have hq := fun W a n c => run_eqnil (P := Try.prog) (t := 37) Try.underlying37 W a n c
  rcases A with _ | ad
  · obtain ⟨rfl, rfl⟩ := h.none_
    go_enter Try.func19, Try.ntmps19
    go_wp2
    go_ret
    exact ⟨none, 0, rfl, Om.nil _ _ _, Below.refl _ _⟩
  · go_enter Try.func19, Try.ntmps19
    go_wp2_with (at_builtin; refine wpList_appm 2 encC (0, 0) _ rfl _ _ 37 rfl w.heap.size 65 i0 _ 16 Try.underlying37 hi0 hz00 hz01 hz02 rfl (by omega) _ _ _ [] rfl (Om.empty w _ _ (Nat.le_refl _)) lo w.heap.size (some ad) n c xs rfl (h.alloc (Nat.le_refl _) _) encC_one (by simp only [maxLen]; omega) (by omega) (by simp) ?_; intro A1 c1 w1 hown1 hg1 hat1; simp only [Nat.zero_add, List.nil_append] at hown1)
    go_ret
    refine ⟨A1, c1, by simp, hown1, ?_⟩
    exact ((Below.refl _ w).alloc (Nat.le_refl _) _).grown hg1 (by simp) (fun k hk => by simp [Value.ownBlock] at hk; omega)

/-- a row of callbacks that may be written -/
structure Qown (w : World) (lo : Nat) (A : Option Addr) (n : Nat) (xs : List Cb) : Prop where
  sm : Sm 2 encC (0, 0) w lo w.heap.size A n xs
  free : 0 < n → ∀ b off, A = some ⟨b, off, .none⟩ → ∀ i, w.frozen? ⟨b, i, .none⟩ = false
section
variable {w w' : World} {lo lo' : Nat} {A : Option Addr} {n c : Nat} {xs : List Cb} {e : TypeId}
theorem Qown.ofOm (h : Om 2 encC w lo e A n c xs) : Qown w lo A n xs := by
  refine ⟨h.sm, fun hn b off hA i => ?_⟩
  rcases h.own.2 with ⟨hv, h0⟩ | ⟨k, cap, cur, hv, _, hg, _⟩
  · exact absurd h0 (by omega)
  · simp only [Value.slice.injEq] at hv
    rw [hA] at hv
    obtain ⟨hb, _⟩ := hv
    cases hb
    exact frozen_of_row w b i cur e hg
theorem Qown.nil (w : World) (lo : Nat) : Qown w lo none 0 [] := ⟨Sm.nil _ _ _ _, fun h => absurd h (by omega)⟩
theorem Qown.mono (h : Qown w lo A n xs) (h1 : lo' ≤ lo) : Qown w lo' A n xs := ⟨h.sm.mono h1 (Nat.le_refl _), h.free⟩
theorem Qown.step (h : Qown w lo A n xs) (hb : Below w.heap.size w w') : Qown w' lo A n xs := by
  refine ⟨h.sm.step hb, fun hn b off hA i => ?_⟩
  obtain ⟨b', off', hA', _, hlt, _⟩ := h.sm.row hn
  rw [hA] at hA'
  cases hA'
  exact (hb.frozen (p := ⟨b, i, .none⟩) hlt).trans (h.free hn b off hA i)
theorem Qown.setCell (h : Qown w lo A n xs) {p : Addr} (hp : p.block < lo) (u : Value) : Qown (w.setCell p u) lo A n xs := by
  refine ⟨by have := h.sm.setC (.inl hp) u; simpa using this, fun hn b off hA i => ?_⟩
  obtain ⟨b', off', hA', hlo, hlt, _⟩ := h.sm.row hn
  rw [hA] at hA'
  cases hA'
  rw [World.frozen?_setCell]
  exact h.free hn b off hA i
end
/-- what a function of queues hands back: a queue, and an error -/
def QPost (W : World) (r : Int × List Cb × Int) (e : Ending) (W' : World) : Prop :=
  ∃ A n c, e = .returned (.tuple #[qv A n c r.1, .int .i64 r.2.2]) ∧ Qown W' W.heap.size A n r.2.1 ∧ Below W.heap.size W W' ∧ n ≤ c
def endF (o : Int) (l : List Cb) (x : Int) : Int × List Cb × Int :=
  if ¬ QGood o l then (0, [], 230) else if x < o ∨ 9223372036854775806 < x then (0, [], 2) else (x, l, 0)
set_option maxHeartbeats 1000000 in
theorem qend_any (A : Option Addr) (n c : Nat) (o : Int) (xs : List Cb) (x : Int) (w : World) (h : Sm 2 encC (0, 0) w 0 w.heap.size A n xs) (hn : n ≤ 1000000) (h0 : 0 ≤ o) :
    Calls Try.prog 63 #[qv A n c o, .int .u64 x] w (QPost w (endF o xs x)) := by
  have HE := hid (show endF o xs x = if ¬ QGood o xs then (0, [], 230) else if x < o ∨ 9223372036854775806 < x then (0, [], 2) else (x, xs, 0) from rfl)
  have HC := hid (show qcheckC o xs = if QGood o xs then 0 else 230 from rfl)
  have HR := hid h; have HB := hid (Below.refl w.heap.size w)
  clear h
  have bx := below_box w (.cells (qcs A n c o) 40)
  replace HR := hid (HR.out.step bx); replace HB := hid (below_then HB.out bx)
  clear bx
  have PQ := hid (Blk.new w 40 (qcs A n c o))
  have bx := below_box (w.alloc (.cells (qcs A n c o) 40)) (.cells (qcs none 0 0 0) 40)
  replace HR := hid (HR.out.step bx); replace PQ := hid (PQ.out.step bx); replace HB := hid (below_then HB.out bx)
  clear bx
  have PZ := hid (Blk.new2 w 40 (qcs none 0 0 0) (.cells (qcs A n c o) 40))
  obtain ⟨y00, y01, yf0⟩ := PQ.out.cells2
  go_enter Try.func63, Try.ntmps63
  go_wp2_with fail
  clear y00 y01 yf0
  refine (qcheck_any A n c o xs _ HR.out hn h0).mono ?_
  rintro e w1 ⟨rfl, hb⟩
  replace HR := hid (HR.out.step hb); replace PQ := hid (PQ.out.step hb); replace PZ := hid (PZ.out.step hb); replace HB := hid (below_then HB.out hb)
  clear hb
  by_cases hg : QGood o xs
  · have e0 : qcheckC o xs = 0 := by rw [HC.out, if_pos hg]
    rw [e0]
    clear e0
    have HG := hid hg
    clear hg
    by_cases h1 : x < o
    · have h1b : decide (x < o) = true := decide_eq_true h1
      obtain ⟨y00, y01, yf0⟩ := PQ.out.cells2
      obtain ⟨y00, y01, yf0⟩ := PZ.out.cells2
      go_wp2
      obtain ⟨q0, q1, qf⟩ := ((PZ.out.setCell 0 (.slice none 0 0)).setCell 1 (.int .u64 0)).cells2
      refine bodyPost_ret (v := .tuple #[qv none 0 0 0, .int .i64 2]) (by simp [results, Try.results63, go_sem, q0, q1]) rfl ?_
      rw [HE.out, if_neg (not_not_intro HG.out), if_pos (.inl (of_decide_eq_true h1b))]
      exact ⟨none, 0, 0, rfl, Qown.nil _ _, (HB.out.setCell (by simp) _).setCell (by simp) _, Nat.le_refl _⟩
    · have h1b : decide (x < o) = false := decide_eq_false h1
      by_cases h2 : 9223372036854775806 < x
      · have h2b : decide (9223372036854775806 < x) = true := decide_eq_true h2
        obtain ⟨y00, y01, yf0⟩ := PQ.out.cells2
        obtain ⟨y00, y01, yf0⟩ := PZ.out.cells2
        go_wp2
        obtain ⟨q0, q1, qf⟩ := ((PZ.out.setCell 0 (.slice none 0 0)).setCell 1 (.int .u64 0)).cells2
        refine bodyPost_ret (v := .tuple #[qv none 0 0 0, .int .i64 2]) (by simp [results, Try.results63, go_sem, q0, q1]) rfl ?_
        rw [HE.out, if_neg (not_not_intro HG.out), if_pos (.inr (of_decide_eq_true h2b))]
        exact ⟨none, 0, 0, rfl, Qown.nil _ _, (HB.out.setCell (by simp) _).setCell (by simp) _, Nat.le_refl _⟩
      · have h2b : decide (9223372036854775806 < x) = false := decide_eq_false h2
        have HE2 := hid (show endF o xs x = (x, xs, 0) by rw [HE.out, if_neg (not_not_intro HG.out), if_neg (by omega)])
        obtain ⟨y00, y01, yf0⟩ := PQ.out.cells2
        go_wp2_with fail
        clear y00 y01 yf0
        refine (clone_cb A n c 0 xs _ HR.out hn).mono ?_
        rintro e w2 ⟨A', c', rfl, ho, hb⟩
        have HO := hid ho; have hs := hid hb.size; have hl := hid PZ.out.lt
        clear ho
        replace HR := hid (HR.out.step hb); replace PQ := hid (PQ.out.step hb); replace PZ := hid (PZ.out.step hb); replace HB := hid (below_then HB.out hb)
        clear hb
        obtain ⟨y00, y01, yf0⟩ := PZ.out.cells2
        go_wp2
        obtain ⟨q0, q1, qf⟩ := ((PZ.out.setCell 0 (.slice A' n c')).setCell 1 (.int .u64 x)).cells2
        refine bodyPost_ret (v := .tuple #[qv A' n c' x, .int .i64 0]) (by simp [results, Try.results63, go_sem, q0, q1]) rfl ?_
        rw [HE2.out]
        have o2 := Qown.ofOm HO.out
        exact ⟨A', n, c', rfl, ((o2.setCell (by have := hl.out; simp; omega) _).setCell (by have := hl.out; simp; omega) _).mono (by have := hl.out; omega), (HB.out.setCell (by simp) _).setCell (by simp) _, HO.out.cap.1⟩
  · have e0 : qcheckC o xs = 230 := by rw [HC.out, if_neg hg]
    rw [e0]
    clear e0
    have HG := hid hg
    clear hg
    obtain ⟨y00, y01, yf0⟩ := PZ.out.cells2
    go_wp2
    obtain ⟨q0, q1, qf⟩ := ((PZ.out.setCell 0 (.slice none 0 0)).setCell 1 (.int .u64 0)).cells2
    refine bodyPost_ret (v := .tuple #[qv none 0 0 0, .int .i64 230]) (by simp [results, Try.results63, go_sem, q0, q1]) rfl ?_
    rw [HE.out, if_pos HG.out]
    exact ⟨none, 0, 0, rfl, Qown.nil _ _, (HB.out.setCell (by simp) _).setCell (by simp) _, Nat.le_refl _⟩
def putF (o : Int) (l : List Cb) (x a : Int) : Int × List Cb × Int :=
  if ¬ QGood o l then (0, [], 230) else if a < 1 ∨ 2 < a then (0, [], 2) else if 0 < l.length ∧ o + a < perAt l (l.length - 1) then (0, [], 2) else if l.length = 16 then (0, [], 6) else (o, l ++ [(o + a, x)], 0)
set_option maxHeartbeats 4000000 in
theorem qput_any (A : Option Addr) (n c : Nat) (o : Int) (xs : List Cb) (x a : Int) (w : World) (h : Sm 2 encC (0, 0) w 0 w.heap.size A n xs) (hn : n ≤ 1000000) (h0 : 0 ≤ o) (hnc : n ≤ c) :
    Calls Try.prog 76 #[qv A n c o, .int .u64 x, .int .i64 a] w (QPost w (putF o xs x a)) := by
  have HE := hid (show putF o xs x a = if ¬ QGood o xs then (0, [], 230) else if a < 1 ∨ 2 < a then (0, [], 2) else if 0 < xs.length ∧ o + a < perAt xs (xs.length - 1) then (0, [], 2) else if xs.length = 16 then (0, [], 6) else (o, xs ++ [(o + a, x)], 0) from rfl)
  have HC := hid (show qcheckC o xs = if QGood o xs then 0 else 230 from rfl)
  have hl := hid h.len
  have eg := enters_of Try.func44 (by kernel_rfl) rfl
  have HR := hid h; have HB := hid (Below.refl w.heap.size w)
  clear h
  have bx := below_box w (.cells (qcs A n c o) 40)
  replace HR := hid (HR.out.step bx); replace HB := hid (below_then HB.out bx)
  clear bx
  have PQ := hid (Blk.new w 40 (qcs A n c o))
  have bx := below_box (w.alloc (.cells (qcs A n c o) 40)) (.cells (qcs none 0 0 0) 40)
  replace HR := hid (HR.out.step bx); replace PQ := hid (PQ.out.step bx); replace HB := hid (below_then HB.out bx)
  clear bx
  have PZ := hid (Blk.new2 w 40 (qcs none 0 0 0) (.cells (qcs A n c o) 40))
  obtain ⟨y00, y01, yf0⟩ := PQ.out.cells2
  go_enter Try.func76, Try.ntmps76
  go_wp2_with fail
  clear y00 y01 yf0
  refine (qcheck_any A n c o xs _ HR.out hn h0).mono ?_
  rintro e w1 ⟨rfl, hb⟩
  replace HR := hid (HR.out.step hb); replace PQ := hid (PQ.out.step hb); replace PZ := hid (PZ.out.step hb); replace HB := hid (below_then HB.out hb)
  clear hb
  by_cases hg : QGood o xs
  · have e0 : qcheckC o xs = 0 := by rw [HC.out, if_pos hg]
    rw [e0]
    clear e0
    have HG := hid hg
    clear hg
    by_cases h1 : a < 1
    · have h1b : decide (a < 1) = true := decide_eq_true h1
      obtain ⟨y00, y01, yf0⟩ := PZ.out.cells2
      go_wp2
      obtain ⟨q0, q1, qf⟩ := ((PZ.out.setCell 0 (.slice none 0 0)).setCell 1 (.int .u64 0)).cells2
      refine bodyPost_ret (v := .tuple #[qv none 0 0 0, .int .i64 2]) (by simp [results, Try.results76, go_sem, q0, q1]) rfl ?_
      rw [HE.out, if_neg (not_not_intro HG.out), if_pos (.inl (of_decide_eq_true h1b))]
      exact ⟨none, 0, 0, rfl, Qown.nil _ _, (HB.out.setCell (by simp) _).setCell (by simp) _, Nat.le_refl _⟩
    · have h1b : decide (a < 1) = false := decide_eq_false h1
      by_cases h2 : 2 < a
      · have h2b : decide (2 < a) = true := decide_eq_true h2
        obtain ⟨y00, y01, yf0⟩ := PZ.out.cells2
        go_wp2
        obtain ⟨q0, q1, qf⟩ := ((PZ.out.setCell 0 (.slice none 0 0)).setCell 1 (.int .u64 0)).cells2
        refine bodyPost_ret (v := .tuple #[qv none 0 0 0, .int .i64 2]) (by simp [results, Try.results76, go_sem, q0, q1]) rfl ?_
        rw [HE.out, if_neg (not_not_intro HG.out), if_pos (.inr (of_decide_eq_true h2b))]
        exact ⟨none, 0, 0, rfl, Qown.nil _ _, (HB.out.setCell (by simp) _).setCell (by simp) _, Nat.le_refl _⟩
      · have h2b : decide (2 < a) = false := decide_eq_false h2
        have HE2 := hid (show putF o xs x a = if 0 < xs.length ∧ o + a < perAt xs (xs.length - 1) then (0, [], 2) else if xs.length = 16 then (0, [], 6) else (o, xs ++ [(o + a, x)], 0) by rw [HE.out, if_neg (not_not_intro HG.out), if_neg (by omega)])
        have ha := hid (show 1 ≤ a ∧ a ≤ 2 by omega)
        have ho := hid HG.out.1
        have hw1 : IntKind.u64.wrap a = a := by rw [IntKind.wrap_u64]; omega
        have hw2 : IntKind.u64.wrap (o + a) = o + a := by have := HG.out.1; rw [IntKind.wrap_u64]; omega
        have h16 := hid (show n ≤ 16 by have := HG.out.2.1; have := hl.out; omega)
        clear HE HC h1 h2
        obtain ⟨y00, y01, yf0⟩ := PQ.out.cells2
        go_upto_region 7 with fail
        clear y00 y01 yf0 h1b h2b hw1 hw2
        have bx := below_box w1 (.cells #[.int .u64 (o + a), .int .u64 x] 65)
        replace HR := hid (HR.out.step bx); replace PQ := hid (PQ.out.step bx); replace PZ := hid (PZ.out.step bx); replace HB := hid (below_then HB.out bx)
        clear bx
        have PC := hid (Blk.new w1 65 #[.int .u64 (o + a), .int .u64 x])
        obtain ⟨y00, y01, yf0⟩ := PQ.out.cells2
        go_upto_region 8 with fail
        clear y00 y01 yf0
        have hz2 := hid (show (w1.alloc (.cells #[.int .u64 (o + a), .int .u64 x] 65)).heap.size = w1.heap.size + 1 by simp)
        generalize w1.alloc (.cells #[.int .u64 (o + a), .int .u64 x] 65) = W2 at *
        obtain ⟨bL, hbL⟩ : ∃ b, b = decide (0 < xs.length ∧ o + a < perAt xs (xs.length - 1)) := ⟨_, rfl⟩
        have HL := hid hbL
        clear hbL
        go_cut [34] (fun s wx => s = .bool bL ∧ Below W2.heap.size W2 wx)
        case first =>
          rcases Nat.eq_zero_or_pos n with hn0 | hn0
          · have hn0i : (n : Int) = 0 := by omega
            have E := HL.out
            rw [decide_eq_false (fun h => by have := h.1; have := hl.out; omega)] at E
            subst E
            obtain ⟨y0, y1, yf⟩ := PQ.out.cells2
            obtain ⟨z0, z1, zf⟩ := PC.out.cells2
            go_quiet (fail)
            go_wp2_with fail
            go_meet
            exact ⟨rfl, below_drewN (Below.refl _ _) _⟩
          · have hn0i : ¬ (n : Int) = 0 := by omega
            have hn0p : 0 < (n : Int) := by omega
            obtain ⟨q, hq⟩ : ∃ q : Nat, n = q + 1 := ⟨n - 1, by omega⟩
            have hw3 : IntKind.i64.wrap ((n : Int) - 1) = (q : Int) := by rw [IntKind.wrap_i64]; omega
            have hqn : (q : Int) < (n : Int) := by omega
            obtain ⟨b, off, rfl, _, hbh, hc⟩ := HR.out.row (by omega)
            obtain ⟨y, hy⟩ : ∃ y, y = xs[q]?.getD (0, 0) := ⟨_, rfl⟩
            obtain ⟨c0, c1⟩ := Sm.cb (lo := 0) (hi := W2.heap.size) hc (show q < n by omega)
            rw [← hy] at c0 c1
            have HY : Hid (bL = decide (o + a < y.1)) := hid (by
              rw [HL.out]
              refine decide_eq_decide.2 ?_
              rw [hl.out, show n - 1 = q by omega, show perAt xs q = y.1 by rw [hy]; rfl]
              exact ⟨fun h => h.2, fun h => ⟨by omega, h⟩⟩)
            have HS : Hid (∀ W, Below W2.heap.size W2 W → (W.cell? ⟨w.heap.size, 0, none⟩ = some (.slice (some ⟨b, off, none⟩) n c) ∧ W.cell? ⟨w1.heap.size, 0, none⟩ = some (.int .u64 (o + a)) ∧ W.cell? ⟨w1.heap.size, 1, none⟩ = some (.int .u64 x) ∧ W.cell? ⟨b, off + q * 2, none⟩ = some (.int .u64 y.1) ∧ W.cell? ⟨b, off + q * 2 + 1, none⟩ = some (.int .u64 y.2))) :=
              hid (fun W hb => ⟨(PQ.out.step hb).cells2.1, (PC.out.step hb).cells2.1, (PC.out.step hb).cells2.2.1, (hb.cell (p := ⟨b, off + q * 2, none⟩) hbh).trans c0, (hb.cell (p := ⟨b, off + q * 2 + 1, none⟩) hbh).trans c1⟩)
            have HQ := hid hq
            have HE3 := hid (show cmpZ y.1 (o + a) = if y.1 < o + a then -1 else if o + a < y.1 then 1 else 0 from rfl)
            clear hy hc c0 c1 hq
            obtain ⟨f0, f1, f2, f3, f4⟩ := HS.out W2 (Below.refl _ _)
            go_region_held3 (fun W => W.cell? ⟨w.heap.size, 0, none⟩ = some (.slice (some ⟨b, off, none⟩) n c) ∧ W.cell? ⟨w1.heap.size, 0, none⟩ = some (.int .u64 (o + a)) ∧ W.cell? ⟨w1.heap.size, 1, none⟩ = some (.int .u64 x) ∧ W.cell? ⟨b, off + q * 2, none⟩ = some (.int .u64 y.1) ∧ W.cell? ⟨b, off + q * 2 + 1, none⟩ = some (.int .u64 y.2))
              (first | (exact HS.out _ (Below.refl _ _).drew) | (exact HS.out _ hq1))
              (first | (go_at_call 44; go_split_ands; (with_reducible refine (period_any y (o + a, x) W2.drew).mono ?_); rintro e w5 ⟨rfl, hb⟩; have hq1 := below_then (Below.refl W2.heap.size W2).drew hb))
            have HB1 := hid hq1
            clear hb hq1 f0 f1 f2 f3 f4
            go_wp2_with fail
            go_meet
            refine ⟨?_, HB1.out⟩
            rw [HY.out]
            congr 1
            refine decide_eq_decide.2 ?_
            rw [HE3.out]
            constructor
            · intro h
              split at h
              · omega
              · split at h <;> omega
            · intro h
              rw [if_neg (by omega), if_pos h]
              omega
        case rest =>
          obtain ⟨rfl, hb⟩ := hcut
          rename World => W3
          replace HR := hid (HR.out.step hb); replace PQ := hid (PQ.out.step hb); replace PZ := hid (PZ.out.step hb); replace PC := hid (PC.out.step hb); replace HB := hid (below_then HB.out hb)
          clear hb
          rcases bL with _ | _
          · by_cases h6 : n = 16
            · have h6i : (n : Int) = 16 := by omega
              obtain ⟨y00, y01, yf0⟩ := PZ.out.cells2
              go_wp2
              obtain ⟨q0, q1, qf⟩ := ((PZ.out.setCell 0 (.slice none 0 0)).setCell 1 (.int .u64 0)).cells2
              refine bodyPost_ret (v := .tuple #[qv none 0 0 0, .int .i64 6]) (by simp [results, Try.results76, go_sem, q0, q1]) rfl ?_
              rw [HE2.out, if_neg (of_decide_eq_false HL.out.symm), if_pos (hl.out.trans h6)]
              exact ⟨none, 0, 0, rfl, Qown.nil _ _, (HB.out.setCell (by simp) _).setCell (by simp) _, Nat.le_refl _⟩
            · have h6i : ¬ (n : Int) = 16 := by omega
              obtain ⟨y00, y01, yf0⟩ := PQ.out.cells2
              obtain ⟨y10, y11, yf1⟩ := PC.out.cells2
              go_wp2_with fail
              clear y00 y01 yf0 y10 y11 yf1
              obtain ⟨i0, hi0, hz00, hz01, hz02⟩ := info_parts info_cb
              have hnn : (n : Int) ≤ (c : Int) := by omega
              have hnn0 : (0 : Int) ≤ (n : Int) := by omega
              have hn16 := h16.out
              have HC2 : Hid (∀ j, j < 2 → (#[.int .u64 (o + a), .int .u64 x] : Array Value)[j]? = some (encC (o + a, x) j)) := hid (by intro j hj; match j, hj with | 0, _ => rfl | 1, _ => rfl)
              obtain ⟨y0, y1, yf⟩ := PQ.out.cells2
              obtain ⟨z0, z1, zf⟩ := PC.out.cells2
              obtain ⟨v0, v1, vf⟩ := (PQ.out.step (below_box W3 (.cells #[.int .u64 (o + a), .int .u64 x] 65))).cells2
              go_region_law (refine step_appmf 2 encC (0, 0) _ rfl _ _ 37 rfl 65 i0 _ 16 Try.underlying37 hi0 hz00 hz01 hz02 rfl (by omega) 0 (W3.alloc (.cells #[.int .u64 (o + a), .int .u64 x] 65)).drew.heap.size A n n xs rfl (HR.out.step (below_box W3 (.cells #[.int .u64 (o + a), .int .u64 x] 65)).drew) 0 (W3.alloc (.cells #[.int .u64 (o + a), .int .u64 x] 65)).drew.heap.size _ 1 _ [(o + a, x)] rfl ((Sm.one (o + a, x) rfl HC2.out).step (Below.refl (W3.alloc (.cells #[.int .u64 (o + a), .int .u64 x] 65)).heap.size (W3.alloc (.cells #[.int .u64 (o + a), .int .u64 x] 65))).drew) (by omega) encC_one (by omega) (by simp only [maxLen]; omega) (by omega) (by omega) W3.heap.size (by simp) ?_; intro ca wA ownA bA sA; have bW := below_then (below_box W3 (.cells #[.int .u64 (o + a), .int .u64 x] 65)).drew bA; obtain ⟨s0, s1, sf⟩ := (PQ.out.step bW).cells2)
              all_goals
                have sv : Value := .slice (some ⟨W3.heap.size + 1, 0, none⟩) (n + 1) ca
                have hlq := PQ.out.lt
                rw [show (W3.alloc (.cells #[.int .u64 (o + a), .int .u64 x] 65)).drew.heap.size = W3.heap.size + 1 by simp] at ownA
                have hca := hid ownA.cap.1
                have O9 := hid ((Qown.ofOm ownA).setCell (p := ⟨w.heap.size, 0, none⟩) (by simp; omega) (.slice (some ⟨W3.heap.size + 1, 0, none⟩) (n + 1) ca))
                have P9 := hid ((PQ.out.step bW).setCell 0 (.slice (some ⟨W3.heap.size + 1, 0, none⟩) (n + 1) ca))
                have Z9 := hid ((PZ.out.step bW).far (p := ⟨w.heap.size, 0, none⟩) (by simp) (.slice (some ⟨W3.heap.size + 1, 0, none⟩) (n + 1) ca))
                have B9 := hid ((below_then HB.out bW).setCell (p := ⟨w.heap.size, 0, none⟩) (Nat.le_refl _) (.slice (some ⟨W3.heap.size + 1, 0, none⟩) (n + 1) ca))
                clear s0 s1 sf ownA bA sA bW y0 y1 yf z0 z1 zf v0 v1 vf hi0 hz00 hz01 hz02
                obtain ⟨q0, q1, qf⟩ := P9.out.cells2
                obtain ⟨r0, r1, rf⟩ := Z9.out.cells2
                go_wp2
                clear q0 q1 qf r0 r1 rf
                obtain ⟨r0, r1, rf⟩ := ((Z9.out.setCell 0 (.slice (some ⟨W3.heap.size + 1, 0, none⟩) (n + 1) ca)).setCell 1 (.int .u64 o)).cells2
                refine bodyPost_ret (v := .tuple #[qv (some ⟨W3.heap.size + 1, 0, none⟩) (n + 1) ca o, .int .i64 0]) (by simp [results, Try.results76, go_sem, r0, r1]) rfl ?_
                rw [HE2.out, if_neg (of_decide_eq_false HL.out.symm), if_neg (by rw [hl.out]; exact h6)]
                have hlz := PZ.out.lt
                exact ⟨some ⟨W3.heap.size + 1, 0, none⟩, n + 1, ca, rfl, ((O9.out.setCell (p := ⟨w.heap.size + 1, 0, none⟩) hlz _).setCell (p := ⟨w.heap.size + 1, 1, none⟩) hlz _).mono (Nat.le_of_lt hlq), (B9.out.setCell (by simp) _).setCell (by simp) _, hca.out⟩
          · skip
            obtain ⟨y00, y01, yf0⟩ := PZ.out.cells2
            go_wp2
            obtain ⟨q0, q1, qf⟩ := ((PZ.out.setCell 0 (.slice none 0 0)).setCell 1 (.int .u64 0)).cells2
            refine bodyPost_ret (v := .tuple #[qv none 0 0 0, .int .i64 2]) (by simp [results, Try.results76, go_sem, q0, q1]) rfl ?_
            rw [HE2.out, if_pos (of_decide_eq_true HL.out.symm)]
            exact ⟨none, 0, 0, rfl, Qown.nil _ _, (HB.out.setCell (by simp) _).setCell (by simp) _, Nat.le_refl _⟩
  · have e0 : qcheckC o xs = 230 := by rw [HC.out, if_neg hg]
    rw [e0]
    clear e0
    have HG := hid hg
    clear hg
    obtain ⟨y00, y01, yf0⟩ := PZ.out.cells2
    go_wp2
    obtain ⟨q0, q1, qf⟩ := ((PZ.out.setCell 0 (.slice none 0 0)).setCell 1 (.int .u64 0)).cells2
    refine bodyPost_ret (v := .tuple #[qv none 0 0 0, .int .i64 230]) (by simp [results, Try.results76, go_sem, q0, q1]) rfl ?_
    rw [HE.out, if_pos HG.out]
    exact ⟨none, 0, 0, rfl, Qown.nil _ _, (HB.out.setCell (by simp) _).setCell (by simp) _, Nat.le_refl _⟩
end Go.Proofs.Ytfipdoofgbjbjaa
