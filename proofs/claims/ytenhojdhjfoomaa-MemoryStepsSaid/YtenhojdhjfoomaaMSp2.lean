/- package memory: Spans. No condition but sizes. -/
import Derived.Test.YtenhojdhjfoomaaMSp
import Derived.Laws.EntriesVeiled
namespace Go.Proofs.Ytenhojdhjfoomaa
open Go.RowKit Go.Shelf
attribute [local go_sem] Oper.semAt_some

theorem Om.abides {α : Type} {sz : Nat} {enc : α → Nat → Value} {W W' : World} {lo : Nat} {e : TypeId} {A : Option Addr} {n c : Nat} {xs : List α} {row : Option Nat} (h : Om sz enc W lo e A n c xs) (hg : W.grownBy W' row) (hr : ∀ r, row = some r → ∃ o : Obj, W.heap[r]? = some o ∧ o.isCells = false) : Om sz enc W' lo e A n c xs := by
  refine ⟨h.len, h.own.1, ?_⟩
  rcases h.own.2 with hh | ⟨g, cap, cur, hv, hb1, hgg, r⟩
  · exact .inl hh
  · refine .inr ⟨g, cap, cur, hv, hb1, ?_, r⟩
    exact Blk.abides (t := e) (cs := cur) hgg hg hr
theorem Om.keeps {α : Type} {sz : Nat} {enc : α → Nat → Value} {W W' : World} {lo B : Nat} {e : TypeId} {A : Option Addr} {n c : Nat} {xs : List α} (h : Om sz enc W lo e A n c xs) (hg : W.grownBy W' (Value.slice A n c).ownBlock) : KeepsFrom B W W' := by
  refine ⟨hg.size, fun k o _ hk ho => ?_⟩
  refine (hg.block k (Array.getElem?_eq_some_iff.1 hk).1 (fun he => ?_)).trans hk
  rcases h.own.2 with ⟨hv, _⟩ | ⟨g, cap, cur, hv, hb1, hgg, r⟩
  · simp only [Value.slice.injEq] at hv
    obtain ⟨rfl, _, rfl⟩ := hv
    simp [Value.ownBlock] at he
  · rw [hv] at he
    have : g = k := by simpa [Value.ownBlock] using he.symm
    subst this
    rw [hgg] at hk
    cases hk
    cases ho
def spansF (ws : List Int) (ls : List Bool) : List (Int × Int) := if MGood ws ls then spansL ls else []
def SpansPost (W : World) (xs : List (Int × Int)) (e : Ending) (W' : World) : Prop :=
  ∃ A n c, e = .returned (.slice A n c) ∧ Om 2 encP W' W.heap.size 29 A n c xs ∧ Below W.heap.size W W'
theorem info_pair : (Try.prog.info? 29).map (fun i => (i.zero, i.size, i.bytes)) = some (some (.agg #[.int .i64 0, .int .i64 0]), 2, 16) := by kernel_rfl
theorem encP_one (y : Int × Int) (j : Nat) (_ : j < 2) : (encP y j).oneCell' = true := by
  unfold encP; split <;> rfl
theorem wpListIn_appm {F : Fence} {n₁ : Nat} {P : Program} {α : Type} (sz : Nat) (enc : α → Nat → Value) (d : α) (w : World) {ops : Array Oper} {rest : List Oper} {o : Oper} {a : Act} {Q : Exit → Act → World → Prop} (hgd : o.guard = none) (s x : Operand) (t : TypeId)
    (ho : o.op = .call { callee := .builtin .append, args := #[s, x], argTypes := #[t, t] })
    (base : Nat) (e : TypeId) (i : TypeInfo) (z : Value) (bytes : Nat) (ht : P.underlying t = some (.slice e)) (hi : P.info? e = some i) (hz : i.zero = some z)
    (hsize : i.size = sz) (hby : i.bytes = bytes) (hzs : z.cells.size = sz) (hsz : 0 < sz)
    (A0 : Option Addr) (n c0 : Nat) (xs : List α) (hs : a.eval s = .slice A0 n c0) (hown : Om sz enc w base e A0 n c0 xs)
    (lo hi' : Nat) (A : Option Addr) (m c : Nat) (ys : List α) (hx : a.eval x = .slice A m c) (hr : Sm sz enc d w lo hi' A m ys) (h1 : ∀ y j, j < sz → (enc y j).oneCell' = true)
    (h63 : n + m ≤ maxLen) (hbytes : (n + m) * bytes ≤ 140737488355328) (hbase : base ≤ w.heap.size)
    (h : ∀ A' c' w', Om sz enc w' base e A' (n + m) c' (xs ++ ys) → w.grownBy w' (Value.slice A0 n c0).ownBlock → ((Value.slice A' (n + m) c').ownBlock = (Value.slice A0 n c0).ownBlock ∨ (Value.slice A' (n + m) c').ownBlock = some w.heap.size) →
      wpListIn F n₁ P ops Q rest (a.put o.dst (.slice A' (n + m) c')) w') :
    wpListIn F n₁ P ops Q (o :: rest) a w := by
  refine wpListIn_plain hgd fun K hK' => ?_
  obtain ⟨A', c', w', hrun, k1, k2, k3⟩ := run_appm sz enc d w t o.type base e i z bytes ht hi hz hsize hby hzs hsz A0 n c0 xs hown lo hi' A m c ys hr h1 h63 hbytes hbase
  unfold Oper.wpIn
  refine ⟨?_, ?_⟩
  · simp [Oper.about, ho, resolve, Target.leads, Sem.run_pure]
  · rw [Oper.semAt_plain F _ _ (by rw [ho]; intro c hc'; cases hc')]
    simp [execOp, ho, resolve, invoke, builtin, hs, hx, hrun, Result.andThen]
    exact hK' _ _ (h A' c' w' k1 k2 k3)
set_option maxHeartbeats 1000000 in
theorem mspans_bad (A : Option Addr) (n c : Nat) (B : Option Addr) (m d : Nat) (f : Bool) (ws : List Int) (ls : List Bool) (w : World) (h : Mem w A n c B m d ws ls) (hg : ¬ MGood ws ls) :
    Calls Try.prog 28 #[mv A n c B m d f] w (SpansPost w (spansF ws ls)) := by
  have hB := below_box w (.cells (mcs A n c B m d f) 25)
  have HR := hid (h.step hB)
  have E := hid (show spansF ws ls = [] from if_neg hg)
  have hc : mcheckC ws ls = 120 := if_neg hg
  obtain ⟨k0, k1, k2, kf⟩ := (Blk.new w 25 (mcs A n c B m d f)).cells3
  have HB := hid hB
  clear h hg hB
  go_enter Try.func28, Try.ntmps28
  go_wp2_with fail
  clear k0 k1 k2 kf
  refine (mcheck_any A n c B m d f ws ls _ HR.out).mono ?_
  rintro e w1 ⟨rfl, hb⟩
  rw [hc]
  have HB1 := hid (below_then HB.out hb)
  clear hb hc
  go_wp2
  go_ret
  exact ⟨none, 0, 0, rfl, by rw [E.out]; exact Om.nil _ _ _, HB1.out⟩

set_option maxRecDepth 100000 in
set_option maxHeartbeats 4000000 in
theorem mspans_good (A : Option Addr) (n c : Nat) (B : Option Addr) (m d : Nat) (f : Bool) (ws : List Int) (ls : List Bool) (w : World) (h : Mem w A n c B m d ws ls) (hg : MGood ws ls) :
    CallsIn Fence.wide 5 Try.prog 28 #[mv A n c B m d f] w (SpansPost w (spansF ws ls)) := by
  obtain ⟨i0, hi0, hz00, hz01, hz02⟩ := info_parts info_pair
  have hB := below_box w (.cells (mcs A n c B m d f) 25)
  have HR := hid (h.step hB)
  have H0 := hid h
  have E := hid (show spansF ws ls = spansL ls from if_pos hg)
  have hc : mcheckC ws ls = 0 := if_pos hg
  have hm := h.hm; have hmd := h.hmd
  have PR := Blk.new w 25 (mcs A n c B m d f)
  obtain ⟨k0, k1, k2, kf⟩ := PR.cells3
  clear h hg
  refine callsIn_of_wp_marks Try.func28 rfl trivial ?_ rfl
  simp only [Try.ntmps28, List.size_toArray, List.length_cons, List.length_nil, Nat.reduceAdd, Nat.reduceSub, Array.replicate_succ, Array.replicate_zero, List.push_toArray, List.append_toArray, List.nil_append, List.cons_append]
  refine wpIn_wide.2 ?_
  go_wp2_with fail
  clear k0 k1 k2 kf
  refine (mcheck_any A n c B m d f ws ls _ HR.out).mono ?_
  rintro e w1 ⟨rfl, hb⟩
  rw [hc]
  have P1 := PR.step hb
  have hB1 := below_then hB hb
  have hz1 : w.heap.size < w1.heap.size := by have := hb.size; simp at this; omega
  have bx := below_box w1 (.cells #[.slice none 0 0] 26)
  have P2 := P1.step bx
  have PO := Blk.new w1 26 #[.slice none 0 0]
  have hB2 := below_then hB1 bx
  clear hb hB PR P1 hB1 bx hc
  obtain ⟨k0, k1, k2, kf⟩ := P2.cells3
  go_wp2_with fail
  clear k0 k1 k2 kf
  have hz2 : (w1.alloc (.cells #[.slice none 0 0] 26)).heap.size = w1.heap.size + 1 := by simp
  generalize w1.alloc (.cells #[.slice none 0 0] 26) = W2 at *
  refine (spans_any B m d W2).mono ?_
  rintro e W3 ⟨rfl, rfl⟩
  go_wp2_with fail
  have B3 := Blk.new W2 23 #[.slice B m d]
  have hs3 : (W2.alloc (.cells #[.slice B m d] 23)).heap.size = W2.heap.size + 1 := by simp
  have hB3 := below_then hB2 (below_box W2 (.cells #[.slice B m d] 23))
  replace PO := PO.alloc (.cells #[.slice B m d] 23)
  generalize W2.alloc (.cells #[.slice B m d] 23) = W3 at *
  have HZ1 := hid hz1; have HZ2 := hid hz2; have HS3 := hid hs3
  have hw3 : w1.heap.size + 2 = W3.heap.size := by omega
  refine (wpIn_wide (n := 5)).1 ?_
  refine' wpIn_rangeFunc_ownH rfl (by omega) (gf := 48) (lb := #[.pointer (some ⟨w1.heap.size + 1, 0, none⟩)]) rfl trivial (enters_of Try.func48 (by kernel_rfl) rfl)
    (spans_stops (5 - 1) (w1.heap.size + 1) w.heap.size B m d 0 ls (by omega) (by omega) hmd W3 (by omega) (by omega) (by have := B3; rwa [hz2] at this) (H0.out.hy.below hB3 (Nat.le_refl _))) (fun h k => h.trans k) (keepsBox_put (by omega) (by omega)) (Below.refl _ _) (fun _ => rfl)
    (fun pre W => (∃ G cg, Blk W w1.heap.size 26 #[.slice G pre.length cg] ∧ Om 2 encP W W3.heap.size 29 G pre.length cg pre ∧ W3.heap.size ≤ W.heap.size) ∧ Below w.heap.size w W)
    (fun cc pre W => False)
    ?own ?ownx ?start (fun x a' W => ∃ g, W3.heap.size ≤ g ∧ a' = { tmps := #[mv A n c B m d f, .pointer (some ⟨w.heap.size, 0, none⟩), .slice none 0 0, .pointer (some ⟨w1.heap.size, 0, none⟩), .pointer (some ⟨g, 0, none⟩), .agg #[.slice A n c, .slice B m d, .bool f], .int .i64 0, .bool false, .pointer (some ⟨w.heap.size, 1, none⟩), .slice B m d, .func (.func 48) #[] #[.pointer (some ⟨w1.heap.size + 1, 0, none⟩)], .agg #[.int .i64 x.1, .int .i64 x.2], undef, undef, undef, undef, undef], defers := [] } ∧ Blk W g 29 #[.int .i64 x.1, .int .i64 x.2] ∧ g < W.heap.size)
    ?ownax ?assign ?body ?done ?stop
  all_goals clear hz1 hz2 hs3 B3
  case own => exact OwnFrom.and (fun s X Y row hs hg hr => by
      obtain ⟨G, cg, h1, h2, h3⟩ := hs
      exact ⟨G, cg, h1.abides hg (fun r e => (hr r e).2), h2.abides hg (fun r e => (hr r e).2), Nat.le_trans h3 hg.size⟩) (ownFrom_below (Nat.le_refl _) (by have := HZ1.out; have := HZ2.out; omega))
  case ownx => exact fun cc s X Y row hs hg hr => hs
  case start => exact ⟨⟨none, 0, PO, Om.nil _ _ _, Nat.le_refl _⟩, hB3⟩
  case ownax =>
    intro x a' s X Y row hs hg hr
    obtain ⟨g, h1, h2, h3, h4⟩ := hs
    exact ⟨g, h1, h2, h3.abides hg (fun r e => (hr r e).2), Nat.lt_of_lt_of_le h4 hg.size⟩
  case assign =>
    rintro l pre ⟨x0, x1⟩ W K ⟨⟨G, cg, h1, h2, h3⟩, hBr⟩ hK
    have hbx := below_box W (.cells #[.int .i64 x0, .int .i64 x1] 29)
    have HK := hid (hK _ _ (KeepsFrom.of_grownBy (World.grownBy_alloc W (.cells #[.int .i64 x0, .int .i64 x1] 29) none) (fun j e => by cases e)) ⟨hbx.mono (by have := hBr.size; omega), hbx.block _ (by have := HZ1.out; omega)⟩ ⟨⟨G, cg, h1.step hbx, h2.step hbx, Nat.le_trans h3 hbx.size⟩, below_then hBr hbx⟩ ⟨W.heap.size, h3, rfl, Blk.new W _ _, by simp⟩)
    clear hK
    gi_wp2_with fail
    exact HK.out
  case body =>
    rintro l pre ⟨x0, x1⟩ a' W hl ⟨r, hloop⟩ ⟨⟨G, cg, h1, h2, h3⟩, hBr⟩ ⟨g, hg1, rfl, hg2, hg3⟩ hlt
    dsimp only at hg2
    obtain ⟨o0, of⟩ := h1.cells1
    obtain ⟨q0, q1, qf⟩ := hg2.cells2
    have HC2 : Hid (∀ j, j < 2 → (#[.int .i64 x0, .int .i64 x1] : Array Value)[j]? = some (encP (x0, x1) j)) := hid (by intro j hj; match j, hj with | 0, _ => rfl | 1, _ => rfl)
    have H1 := hid h1; have H2 := hid h2; have HBr := hid hBr
    have h1s := HZ1.out
    clear h1 h2 hBr
    gi_wp2_with (gi_at_builtin; refine wpListIn_appm 2 encP (0, 0) _ rfl _ _ 26 rfl W3.heap.size 29 i0 _ 16 Try.underlying26 hi0 hz00 hz01 hz02 rfl (by omega) G pre.length cg pre rfl (H2.out.alloc _) W.heap.size (W.heap.size + 1) _ 1 _ [(x0, x1)] rfl (Sm.one' (x0, x1) (by simp) HC2.out) encP_one (by simp only [maxLen]; omega) (by omega) (by simp; omega) ?_; intro G' cg' w7 og' hg' hat'; have b7 := (H1.out.alloc (.cells #[.int .i64 x0, .int .i64 x1] 29)).grown hg' (H2.out.ne_row (by omega)); obtain ⟨t0, tf⟩ := b7.cells1)
    have k1 := KeepsFrom.of_grownBy (B := W3.heap.size) (World.grownBy_alloc W (.cells #[.int .i64 x0, .int .i64 x1] 29) none) (fun j e => by cases e)
    have k2 := (H2.out.alloc (.cells #[.int .i64 x0, .int .i64 x1] 29)).keeps (B := W3.heap.size) hg'
    have k3 := KeepsFrom.of_grownBy (B := W3.heap.size) (grownBy_setCell' w7 w1.heap.size (.slice G' (pre.length + 1) cg')) (fun j e => by cases e; omega)
    have bel : ∀ n₁, n₁ ≤ W3.heap.size → n₁ ≤ w1.heap.size → Below n₁ W (w7.setCell ⟨w1.heap.size, 0, none⟩ (.slice G' (pre.length + 1) cg')) := fun n₁ e1 e2 =>
      (((Below.refl n₁ W).alloc (by omega) _).grown hg' (by simp; omega) (fun k hk => by have := H2.out.row_ge k hk; omega)).setCell e2 _
    have hz7 := hg'.size
    simp at hz7
    refine ⟨(k1.trans k2).trans k3, ⟨bel _ (by omega) (by omega), ?_⟩, ⟨⟨G', cg', by have := b7.setCell 0 (.slice G' (pre.length + 1) cg'); simpa using this, by have := og'.setCell (p := ⟨w1.heap.size, 0, none⟩) (by simp; omega) (.slice G' (pre.length + 1) cg'); simpa using this, by simp; omega⟩, HBr.out.trans (bel _ (by omega) (by omega))⟩⟩
    exact (Below.heap_setCell w7 ⟨w1.heap.size, 0, none⟩ _ (w1.heap.size + 1) (by simp)).trans ((hg'.block (w1.heap.size + 1) (by simp; omega) (H2.out.ne_row (by omega))).trans (Below.heap_alloc W _ _ (by omega)))
  case done =>
    rintro D xs W hD rfl ⟨⟨G, cg, h1, h2, h3⟩, hBr⟩ hK
    obtain ⟨o0, of⟩ := h1.cells1
    have H1 := hid h1; have H2 := hid h2; have HBr := hid hBr
    clear h1 h2 hBr
    go_wp2
    have hg := grownBy_putObj' W D (.deferred none)
    have hr : ∀ r, some D = some r → ∃ o : Obj, W.heap[r]? = some o ∧ o.isCells = false := fun r e => by cases e; exact ⟨_, hK, rfl⟩
    refine ⟨by simp, .inl ⟨_, _, rfl, run_takeDeferred hK, ?_⟩⟩
    refine ⟨.slice G (spansL ls).length cg, by simp [results, Try.results28, go_sem], G, _, cg, rfl, ?_, ?_⟩
    · rw [E.out]; exact (H2.out.abides hg hr).mono (by have := HZ1.out; omega)
    · exact HBr.out.trans (belowK_b (w := w) (Nat.le_refl _) _ D _ _ (by have := HZ1.out; omega) hK rfl rfl)
  case stop => exact fun _ _ _ _ _ _ h => h.elim
theorem mspans_any (A : Option Addr) (n c : Nat) (B : Option Addr) (m d : Nat) (f : Bool) (ws : List Int) (ls : List Bool) (w : World) (h : Mem w A n c B m d ws ls) :
    Calls Try.prog 28 #[mv A n c B m d f] w (SpansPost w (spansF ws ls)) := by
  by_cases hg : MGood ws ls
  · exact callsIn_wide.1 (mspans_good A n c B m d f ws ls w h hg)
  · exact mspans_bad A n c B m d f ws ls w h hg
end Go.Proofs.Ytenhojdhjfoomaa
