/- package reader: Oldest. No condition but sizes. -/
import Derived.Test.YtbibfjncjklclaaRd5
import Derived.Laws.EntriesVeiled
namespace Go.Proofs.Ytbibfjncjklclaa
open Go.RowKit Go.Shelf Go.Maps
attribute [local go_sem] Oper.semAt_some

set_option maxRecDepth 100000 in
set_option maxHeartbeats 4000000 in
theorem oldest_good (now : Int) (A : Option Addr) (n c : Nat) (B : Option Addr) (m d : Nat) (ns os : List Int) (w : World) (h : Rds w A n c B m d ns os) (hg : Good now ns os) :
    CallsIn Fence.wide 5 Try.prog 61 #[rv now A n c B m d] w fun e w' => e = .returned (.tuple #[.int .i64 (oldF (secL ns os n)), .bool (decide (0 < oldF (secL ns os n)))]) ∧ Below w.heap.size w w' := by
  have hl := h.lenx; have hl' := h.leny
  obtain rfl : m = n := by have := hg.1.2.2.1; omega
  have hB := below_box w (.cells (rcs now A m c B m d) 24)
  have h0 := h.box (.cells (rcs now A m c B m d) 24)
  have H := hid (check_good now A m c B m d ns os _ h0 hg)
  have HG := hid hg
  have hn := h.hn
  obtain ⟨k0, k1, k2, kf⟩ := (Blk.new w 24 (rcs now A m c B m d)).cells3
  clear h0 hg hl hl'
  have HR := hid h; clear h
  refine callsIn_of_wp_marks Try.func61 rfl trivial ?_ rfl
  simp only [Try.ntmps61, List.size_toArray, List.length_cons, List.length_nil, Nat.reduceAdd, Nat.reduceSub, Array.replicate_succ, Array.replicate_zero, List.push_toArray, List.append_toArray, List.nil_append, List.cons_append]
  refine wpIn_wide.2 ?_
  go_wp2_with fail
  refine H.out.mono ?_
  rintro e w1 ⟨rfl, hb⟩
  clear H k0 k1 k2 kf
  have P := (Blk.new w 24 (rcs now A m c B m d)).step hb
  have hB1 := below_then hB hb
  have hz1 : w.heap.size + 1 ≤ w1.heap.size := by have := hb.size; simpa using this
  clear hb hB
  have hbb := below_then (below_box w1 (.cells #[.int .i64 0] 3)) (below_box _ (.cells #[.func (.func 72) #[] #[.pointer (some ⟨w1.heap.size, 0, none⟩)]] 105))
  have P2 := P.step hbb
  have PO := (Blk.new w1 3 #[.int .i64 0]).step (below_box _ (.cells #[.func (.func 72) #[] #[.pointer (some ⟨w1.heap.size, 0, none⟩)]] 105))
  have PF := Blk.new2 w1 105 #[.func (.func 72) #[] #[.pointer (some ⟨w1.heap.size, 0, none⟩)]] (.cells #[.int .i64 0] 3)
  have hB2 := below_then hB1 hbb
  have hz2 : ((w1.alloc (.cells #[.int .i64 0] 3)).alloc (.cells #[.func (.func 72) #[] #[.pointer (some ⟨w1.heap.size, 0, none⟩)]] 105)).heap.size = w1.heap.size + 2 := by simp
  have HZ2 := hid hz2; have HZ1 := hid hz1
  obtain ⟨k0, k1, k2, kf⟩ := P2.cells3
  clear hbb P hz2 hz1
  go_wp2_with fail
  clear k0 k1 k2 kf
  generalize (w1.alloc (.cells #[.int .i64 0] 3)).alloc (.cells #[.func (.func 72) #[] #[.pointer (some ⟨w1.heap.size, 0, none⟩)]] 105) = W2 at *
  refine (sections_any _ _ _ _ _ _ _ _).mono ?_
  rintro e W3 ⟨rfl, rfl⟩
  go_wp2_with fail
  have B3 := Blk.new W2 24 #[.int .i64 now, .slice A m c, .slice B m d]
  have hs3 : (W2.alloc (.cells #[.int .i64 now, .slice A m c, .slice B m d] 24)).heap.size = W2.heap.size + 1 := by simp
  have hB3 := below_then hB2 (below_box W2 (.cells #[.int .i64 now, .slice A m c, .slice B m d] 24))
  replace PO := PO.alloc (.cells #[.int .i64 now, .slice A m c, .slice B m d] 24)
  replace PF := PF.alloc (.cells #[.int .i64 now, .slice A m c, .slice B m d] 24)
  generalize W2.alloc (.cells #[.int .i64 now, .slice A m c, .slice B m d] 24) = W3 at *
  have hz1 := HZ1.out; have hz2 := HZ2.out
  refine (wpIn_wide (n := 5)).1 ?_
  refine' wpIn_rangeFunc_ownG rfl (by omega) (gf := 73) (lb := #[.pointer (some ⟨W2.heap.size, 0, none⟩)]) rfl trivial (enters_of Try.func73 (by kernel_rfl) rfl)
    (sec_stops (5 - 1) W2.heap.size w.heap.size now A m c B d 0 ns os (by omega) (by omega) W3 (by omega) (by omega) B3 (HR.out.hx.below hB3 (Nat.le_refl _)) (HR.out.hy.below hB3 (Nat.le_refl _))) (fun h k => h.trans k) (keepsBox_put (by omega) (by omega)) (Below.refl _ _) (fun _ => rfl)
    (fun pre W => (Blk W w1.heap.size 3 #[.int .i64 (oldF pre)] ∧ Blk W (w1.heap.size + 1) 105 #[.func (.func 72) #[] #[.pointer (some ⟨w1.heap.size, 0, none⟩)]] ∧ W2.heap.size < W.heap.size) ∧ Below w.heap.size w W)
    (fun cc pre W => False)
    ?own ?ownx ?start _ ?assign ?body ?done ?stop
  all_goals clear hz1 hz2
  case assign =>
    intro l x W K hK
    gi_wp2
    exact hK
  case own => exact OwnFrom.and (fun s A B row hs hg hr => ⟨hs.1.abides hg (fun r e => (hr r e).2), hs.2.1.abides hg (fun r e => (hr r e).2), Nat.lt_of_lt_of_le hs.2.2 hg.size⟩) (ownFrom_below (Nat.le_refl _) (by have := HZ1.out; have := HZ2.out; omega))
  case ownx => exact fun cc s A B row hs hg hr => hs
  case start => exact ⟨⟨PO, PF, by omega⟩, hB3⟩
  case body =>
    rintro l pre ⟨cpu, a⟩ W ⟨⟨PO, PF, hsW⟩, hBr⟩ hlt
    obtain ⟨o0, of⟩ := PO.cells1
    obtain ⟨f0, ff⟩ := PF.cells1
    gi_wp2_with fail
    refine ⟨trivial, (CallsIn.inRound l (callsIn_wide.2 (older_any w1.heap.size (oldF pre) a W PO))).mono ?_⟩
    rintro e W' ⟨rfl, rfl⟩
    by_cases ho : oldF pre = 0 ∨ a < oldF pre
    · have E := hid (show oldF (pre ++ [(cpu, a)]) = a by rw [oldF_snoc, older, if_pos ho])
      have ho' : decide (oldF pre = 0 ∨ a < oldF pre) = true := decide_eq_true ho
      rw [ho']
      clear ho ho'
      gi_wp2
      have hz1 := HZ1.out; have hz2 := HZ2.out
      have hg := grownBy_setCell' W w1.heap.size (.int .i64 a)
      refine ⟨KeepsFrom.of_grownBy hg (fun j e => by cases e; omega), ⟨(Below.refl _ _).setCell (by simp; omega) _, Below.heap_setCell _ _ _ _ (by simp; omega)⟩, ⟨by rw [E.out]; exact PO.setCell 0 _, PF.far (by simp) _, by simpa using hsW⟩, hBr.setCell (by simp; omega) _⟩
    · have E := hid (show oldF (pre ++ [(cpu, a)]) = oldF pre by rw [oldF_snoc, older, if_neg ho])
      have ho' : decide (oldF pre = 0 ∨ a < oldF pre) = false := decide_eq_false ho
      rw [ho']
      clear ho ho'
      gi_wp2
      exact ⟨KeepsFrom.refl _ _, KeepsBox.refl _ _ _, ⟨by rw [E.out]; exact PO, PF, hsW⟩, hBr⟩
  case done =>
    rintro D xs W hD rfl ⟨⟨PO, PF, hsW⟩, hBr⟩ hK
    obtain ⟨o0, of⟩ := PO.cells1
    go_wp2
    go_quiet (fail)
    go_wp2
    have hK' : (W.drewN nq).heap[D]? = some (.deferred (some [])) := hK
    refine ⟨by simp, .inl ⟨_, _, rfl, run_takeDeferred hK', ?_⟩⟩
    exact ⟨.tuple #[.int .i64 (oldF (secL ns os m)), .bool (decide (0 < oldF (secL ns os m)))], by simp [results, Try.results61, go_sem], rfl, (below_drewN hBr nq).trans (belowK_b (w := w) (Nat.le_refl _) _ D _ _ (by have := HZ1.out; have := HZ2.out; omega) hK' rfl rfl)⟩
  case stop => exact fun _ _ _ _ _ _ h => h.elim

set_option maxHeartbeats 1000000 in
theorem oldest_bad (now : Int) (A : Option Addr) (n c : Nat) (B : Option Addr) (m d : Nat) (ns os : List Int) (w : World) (h : Rds w A n c B m d ns os) (hg : ¬ Good now ns os) :
    Calls Try.prog 61 #[rv now A n c B m d] w fun e w' => e = .returned (.tuple #[.int .i64 0, .bool false]) ∧ Below w.heap.size w w' := by
  have hB := below_box w (.cells (rcs now A n c B m d) 24)
  have h0 := h.box (.cells (rcs now A n c B m d) 24)
  have H := hid (check_bad now A n c B m d ns os _ h0 hg)
  obtain ⟨k0, k1, k2, kf⟩ := (Blk.new w 24 (rcs now A n c B m d)).cells3
  clear h0 h hg
  go_enter Try.func61, Try.ntmps61
  go_wp2_with fail
  refine H.out.mono ?_
  rintro e w1 ⟨rfl, hb⟩
  have hB1 := below_then hB hb
  clear k0 k1 k2 kf hb
  go_wp2
  go_ret2
  exact ⟨rfl, hB1⟩

/-! ### Passed -/
def PassedP (now : Int) (ns os : List Int) (step : Int) : Prop := Good now ns os ∧ 0 ≤ step ∧ step ≤ now ∧ ∀ a ∈ (secL ns os ns.length).map Prod.snd, step < a
instance {now : Int} {ns os : List Int} {step : Int} : Decidable (PassedP now ns os step) := by unfold PassedP; infer_instance
theorem older_pos {l : List Int} (h : ∀ a ∈ l, 1 ≤ a) : ∀ out : Int, (out = 0 ∨ 1 ≤ out) → ∀ step : Int, 0 ≤ step →
    ((l.foldl older out = 0 ∨ step < l.foldl older out) ↔ ((out = 0 ∨ step < out) ∧ ∀ a ∈ l, step < a)) ∧ (l.foldl older out = 0 ∨ 1 ≤ l.foldl older out) := by
  induction l with
  | nil => intro out ho step hs; simp [ho]
  | cons b l ih =>
    intro out ho step hs
    have hb := h b (by simp)
    have hbl : ∀ a ∈ l, 1 ≤ a := fun a ha => h a (by simp [ha])
    rw [List.foldl_cons]
    have h1 : older out b = 0 ∨ 1 ≤ older out b := by unfold older; split <;> omega
    obtain ⟨i1, i2⟩ := ih hbl (older out b) h1 step hs
    refine ⟨i1.trans ?_, i2⟩
    have : (older out b = 0 ∨ step < older out b) ↔ (out = 0 ∨ step < out) ∧ step < b := by unfold older; split <;> omega
    rw [this]
    simp [and_assoc]
theorem passed_iff {now : Int} {ns os : List Int} {step : Int} (hg : Good now ns os) (h0 : 0 ≤ step) (h1 : step ≤ now) :
    PassedP now ns os step ↔ (oldF (secL ns os ns.length) ≤ 0 ∨ step < oldF (secL ns os ns.length)) := by
  obtain ⟨i1, i2⟩ := older_pos (l := (secL ns os ns.length).map Prod.snd) (fun a ha => (hg.2.2.1 a ha).1) 0 (.inl rfl) step h0
  unfold PassedP
  have e : oldF (secL ns os ns.length) = ((secL ns os ns.length).map Prod.snd).foldl older 0 := rfl
  rw [← e] at i1 i2
  constructor
  · rintro ⟨_, _, _, h⟩
    rcases i1.2 ⟨.inl rfl, h⟩ with h | h <;> omega
  · intro h
    refine ⟨hg, h0, h1, (i1.1 ?_).2⟩
    omega

set_option maxHeartbeats 1000000 in
theorem passed_any (now : Int) (A : Option Addr) (n c : Nat) (B : Option Addr) (m d : Nat) (ns os : List Int) (step : Int) (w : World) (h : Rds w A n c B m d ns os) :
    Calls Try.prog 34 #[rv now A n c B m d, .int .i64 step] w fun e w' => e = .returned (.bool (decide (PassedP now ns os step))) ∧ Below w.heap.size w w' := by
  have hB := below_box w (.cells (rcs now A n c B m d) 24)
  have h0 := h.box (.cells (rcs now A n c B m d) 24)
  have HL := hid h.lenx
  by_cases hg : Good now ns os
  · have H := hid (check_good now A n c B m d ns os _ h0 hg)
    have HS := hid h0; have HG := hid hg
    clear h0 h hg
    go_enter Try.func34, Try.ntmps34
    go_wp2_with fail
    refine H.out.mono ?_
    rintro e w1 ⟨rfl, hb⟩
    have P := (Blk.new w 24 (rcs now A n c B m d)).step hb
    have HS1 := hid (HS.out.step hb)
    have hB1 := below_then hB hb
    obtain ⟨k0, k1, k2, kf⟩ := P.cells3
    clear hb HS P
    by_cases h1 : step < 0
    · have E := hid (decide_eq_false (p := PassedP now ns os step) (fun h => by have := h.2.1; omega))
      go_wp2
      go_ret
      exact ⟨ret_bool E.out.symm, hB1⟩
    by_cases h2 : now < step
    · have E := hid (decide_eq_false (p := PassedP now ns os step) (fun h => by have := h.2.2.1; omega))
      go_wp2
      go_ret
      exact ⟨ret_bool E.out.symm, hB1⟩
    have HI := hid (passed_iff (ns := ns) (os := os) (step := step) HG.out (by omega) (by omega))
    have HO := hid (callsIn_wide.1 (oldest_good now A n c B m d ns os _ HS1.out HG.out))
    go_wp2_with fail
    refine HO.out.mono ?_
    rintro e w2 ⟨rfl, hb⟩
    replace hB1 := below_then hB1 hb
    obtain ⟨x, hX⟩ : ∃ x, x = oldF (secL ns os n) := ⟨_, rfl⟩
    have HI' := hid (show PassedP now ns os step ↔ (x ≤ 0 ∨ step < x) by rw [hX, ← HL.out]; exact HI.out)
    rw [← hX]
    clear hX hb HI HO k0 k1 k2 kf
    by_cases h3 : 0 < x
    · have E := hid (show decide (PassedP now ns os step) = decide (step < x) from decide_eq_decide.2 ⟨fun h => ((HI'.out.1 h).resolve_left (by omega)), fun h => HI'.out.2 (.inr h)⟩)
      go_wp2
      go_ret
      exact ⟨ret_bool E.out.symm, hB1⟩
    · have E := hid (decide_eq_true (p := PassedP now ns os step) (HI'.out.2 (.inl (by omega))))
      have h3' : decide (0 < x) = false := decide_eq_false h3
      go_wp2
      go_ret
      exact ⟨ret_bool E.out.symm, hB1⟩
  · have H := hid (check_bad now A n c B m d ns os _ h0 hg)
    have E := hid (decide_eq_false (p := PassedP now ns os step) (fun h => hg h.1))
    clear h0 h hg
    go_enter Try.func34, Try.ntmps34
    go_wp2_with fail
    refine H.out.mono ?_
    rintro e w1 ⟨rfl, hb⟩
    have hB1 := below_then hB hb
    go_wp2
    go_ret
    exact ⟨ret_bool E.out.symm, hB1⟩
end Go.Proofs.Ytbibfjncjklclaa
