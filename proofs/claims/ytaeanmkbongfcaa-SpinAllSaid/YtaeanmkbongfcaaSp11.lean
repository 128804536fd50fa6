/- package spin: Play. No condition but sizes. -/
import Derived.Test.YtaeanmkbongfcaaSp10
import Derived.Test.YtaeanmkbongfcaaKitA
namespace Go.Proofs.Ytaeanmkbongfcaa
open Go.RowKit Go.Shelf
attribute [local go_sem] Oper.semAt_some
theorem info_int2 : (Try.prog.info? 3).map (fun i => (i.zero, i.size, i.bytes)) = some (some (.int .i64 0), 1, 8) := info_int
def spPlayF (m : MSt) (l : List Spn) (picks : List Int) : Int × MSt × List Spn × List Int :=
  if ¬ MGood m.1 m.2.1 then (120, ([], [], false), [], []) else if ¬ AllSp l then (150, ([], [], false), [], [])
  else (0, (playS m l (vpk l.length picks)).1, (playS m l (vpk l.length picks)).2, heldF m l (vpk l.length picks))
def PlayPost (w : World) (r : Int × MSt × List Spn × List Int) (e : Ending) (w' : World) : Prop :=
  ∃ A n c B k d L nl cl G ng cg, e = .returned (.tuple #[mv A n c B k d r.2.1.2.2, .slice L nl cl, .slice G ng cg, .int .i64 r.1]) ∧ Mown w' w.heap.size A n c B k d r.2.1.1 r.2.1.2.1 ∧ Om 3 encS w' w.heap.size 38 L nl cl r.2.2.1 ∧ Ow i64 w' w.heap.size 3 G ng cg r.2.2.2 ∧ Below w.heap.size w w'
/-- what the rounds of Play keep -/
structure PlI (w2 W7 : World) (gh : Nat) (m : MSt) (l : List Spn) (v : List Int) (k : Nat) (W : World) : Prop where
  out : ∃ G n cg, Blk W gh 27 #[.slice G n cg] ∧ Ow i64 W W7.heap.size 3 G n cg (heldF m l (v.take k)) ∧ n ≤ k
  be : Below w2.heap.size w2 W
  size : W7.heap.size ≤ W.heap.size
section
variable {w2 W7 : World} {gh : Nat} {m : MSt} {l : List Spn} {v : List Int} {k : Nat} {W W' : World} {row : Option Nat}
theorem PlI.books (h : PlI w2 W7 gh m l v k W) (h14 : w2.heap.size ≤ W7.heap.size) (hg : W.grownBy W' row) (hr : ∀ r, row = some r → W7.heap.size ≤ r ∧ ∃ o : Obj, W.heap[r]? = some o ∧ o.isCells = false) : PlI w2 W7 gh m l v k W' := by
  obtain ⟨G, n, cg, h1, h2, h3⟩ := h.out
  exact ⟨⟨G, n, cg, h1.abides hg (fun r e => (hr r e).2), h2.abides hg (fun r e => (hr r e).2), h3⟩, h.be.grown hg h.be.size (fun r e => Nat.le_trans h14 (hr r e).1), Nat.le_trans h.size hg.size⟩
theorem PlI.stepP {P : Nat} {L : Option Addr} (h : PlI w2 W7 gh m l v k W) (h8 : gh ≠ P) (hL : ∀ a, L = some a → w2.heap.size ≤ a.block ∧ a.block < W7.heap.size ∧ a.block ≠ gh) (hP : w2.heap.size ≤ P) (hP7 : P < W7.heap.size) (hg : GrownP (plp P L) W W') : PlI w2 W7 gh m l v k W' := by
  obtain ⟨G, n, cg, h1, h2, h3⟩ := h.out
  refine ⟨⟨G, n, cg, (hg.block _ h1.lt ?_).trans h1, h2.same fun a ha => ?_, h3⟩, GrownP.below h.be hg ?_ h.be.size, Nat.le_trans h.size hg.size⟩
  · rintro (e | ⟨a, ha, e⟩)
    · exact h8 e
    · exact (hL a ha).2.2 e
  · obtain ⟨hlo, cs, hb⟩ := h2.blk a ha
    refine hg.block _ hb.lt ?_
    rintro (e | ⟨a', ha', e⟩)
    · omega
    · have := (hL a' ha').2.1; omega
  · rintro i (e | ⟨a, ha, e⟩)
    · omega
    · have := (hL a ha).1; omega
end
def DefAt (W : World) (b : Nat) : Prop := W.heap[b]? = some (.deferred (some []))
theorem DefAt.step {W W' : World} {b : Nat} (h : DefAt W b) (hb : Below W.heap.size W W') : DefAt W' b := (hb.block b (Array.getElem?_eq_some_iff.1 h).1).trans h
theorem DefAt.grown {W W' : World} {b : Nat} {row : Option Nat} (h : DefAt W b) (hg : W.grownBy W' row) (hr : some b ≠ row) : DefAt W' b := (hg.block b (Array.getElem?_eq_some_iff.1 h).1 hr).trans h
theorem DefAt.ne {W : World} {b g : Nat} {t : TypeId} {cs : Array Value} (h : DefAt W b) (hb : Blk W g t cs) : b ≠ g := by
  rintro rfl
  unfold DefAt at h; unfold Blk at hb
  rw [h] at hb
  cases hb
theorem mown_abides {W W' : World} {lo : Nat} {A : Option Addr} {n c : Nat} {B : Option Addr} {m d : Nat} {ws : List Int} {ls : List Bool} {row : Option Nat} (h : Mown W lo A n c B m d ws ls) (hg : W.grownBy W' row) (hr : ∀ r, row = some r → ∃ o : Obj, W.heap[r]? = some o ∧ o.isCells = false) : Mown W' lo A n c B m d ws ls :=
  ⟨h.oa.abides hg hr, h.ob.abides hg hr, h.apart, h.hn, h.hm⟩
theorem om_abides {α : Type} {sz : Nat} {enc : α → Nat → Value} {W W' : World} {lo : Nat} {e : TypeId} {A : Option Addr} {n c : Nat} {xs : List α} {row : Option Nat} (h : Om sz enc W lo e A n c xs) (hg : W.grownBy W' row) (hr : ∀ r, row = some r → ∃ o : Obj, W.heap[r]? = some o ∧ o.isCells = false) : Om sz enc W' lo e A n c xs :=
  h.same fun a ha => by
    obtain ⟨_, cs, hb⟩ := h.blk a ha
    exact (hb.abides hg hr).trans hb.symm
theorem tneM1 : (25 : TypeId) ≠ 83 := by decide
theorem tneM2 : (25 : TypeId) ≠ 27 := by decide
theorem tneM3 : (25 : TypeId) ≠ 3 := by decide
theorem tneM4 : (25 : TypeId) ≠ 38 := by decide
theorem heldF_len : ∀ (m : MSt) (l : List Spn) (r : List Int), (heldF m l r).length ≤ r.length
  | m, l, [] => by simp [heldF]
  | m, l, i :: r => by
    have := heldF_len (pstepF m l i.toNat).1 (pstepF m l i.toNat).2 r
    simp only [heldF, List.length_append, List.length_cons]
    split <;> simp <;> omega
theorem heldF_take_succ {m : MSt} {l : List Spn} {v : List Int} {k : Nat} (h : k < v.length) : heldF m l (v.take (k + 1)) = heldF m l (v.take k) ++ (if 0 ≤ whoK m l v k then [whoK m l v k] else []) := by
  rw [take_succ_getD h, heldF_snoc]; rfl
set_option maxRecDepth 100000 in
set_option maxHeartbeats 8000000 in
theorem spplay_in (A : Option Addr) (n c : Nat) (B : Option Addr) (k d : Nat) (f : Bool) (ws : List Int) (ls : List Bool) (L : Option Addr) (nl cl : Nat) (l : List Spn) (Q : Option Addr) (nq cq : Nat) (picks : List Int) (w : World) (h : Mem w A n c B k d ws ls) (hl : Sm 3 encS (0, 0, 0) w 0 w.heap.size L nl l) (hnl : nl ≤ 1000000) (hq : Sl i64 0 w 0 w.heap.size Q nq picks) (hnq : nq ≤ 1000000) :
    CallsIn Fence.wide 5 Try.prog 12 #[mv A n c B k d f, .slice L nl cl, .slice Q nq cq] w (PlayPost w (spPlayF (ws, ls, f) l picks)) := by
  have HM := hid h; have HL := hid hl; have HQ := hid hq; have HB := hid (Below.refl w.heap.size w)
  have HQ0 := HQ
  have HE := hid (show spPlayF (ws, ls, f) l picks = if ¬ MGood ws ls then (120, ([], [], false), [], []) else if ¬ AllSp l then (150, ([], [], false), [], []) else (0, (playS (ws, ls, f) l (vpk l.length picks)).1, (playS (ws, ls, f) l (vpk l.length picks)).2, heldF (ws, ls, f) l (vpk l.length picks)) from rfl)
  have HC := hid (show mcheckC ws ls = if MGood ws ls then 0 else 120 from rfl)
  have hll := hid hl.len; have hql := hid hq.len
  obtain ⟨i0, hi0, hz00, hz01, hz02⟩ := info_parts info_int
  have HI0 := hid hi0; have HZ0 := hid hz00; have HZ1 := hid hz01; have HZ2 := hid hz02
  clear hi0 hz00 hz01 hz02 h hl hq
  have bx := below_box w (.cells (mcs A n c B k d f) 25)
  replace HM := hid (HM.out.step bx); replace HL := hid (HL.out.step bx); replace HQ := hid (HQ.out.step bx); replace HB := hid (below_then HB.out bx)
  clear bx
  have PM := hid (Blk.new w 25 (mcs A n c B k d f))
  have bx := below_box (w.alloc (.cells (mcs A n c B k d f) 25)) (.cells (mcs none 0 0 none 0 0 false) 25)
  replace HM := hid (HM.out.step bx); replace HL := hid (HL.out.step bx); replace HQ := hid (HQ.out.step bx); replace PM := hid (PM.out.step bx); replace HB := hid (below_then HB.out bx)
  clear bx
  have PZ := hid (Blk.new2 w 25 (mcs none 0 0 none 0 0 false) (.cells (mcs A n c B k d f) 25))
  obtain ⟨y00, y01, y02, yf0⟩ := PM.out.cells3
  refine callsIn_of_wp_marks Try.func12 rfl trivial ?_ rfl
  simp only [Try.ntmps12, List.size_toArray, List.length_cons, List.length_nil, Nat.reduceAdd, Nat.reduceSub, Array.replicate_succ, Array.replicate_zero, List.push_toArray, List.append_toArray, List.nil_append, List.cons_append]
  refine wpIn_wide.2 ?_
  go_wp2_with fail
  clear y00 y01 y02 yf0
  have hz0 := hid (show ((w.alloc (.cells (mcs A n c B k d f) 25)).alloc (.cells (mcs none 0 0 none 0 0 false) 25)).heap.size = w.heap.size + 2 by simp)
  generalize (w.alloc (.cells (mcs A n c B k d f) 25)).alloc (.cells (mcs none 0 0 none 0 0 false) 25) = W0 at *
  refine (mcheck_any A n c B k d f ws ls _ HM.out).mono ?_
  rintro e w1 ⟨rfl, hb⟩
  replace HM := hid (HM.out.step hb); replace HL := hid (HL.out.step hb); replace HQ := hid (HQ.out.step hb); replace PM := hid (PM.out.step hb); replace PZ := hid (PZ.out.step hb); replace HB := hid (below_then HB.out hb)
  clear hb
  by_cases hg : MGood ws ls
  rotate_left
  · have e0 : mcheckC ws ls = 120 := by rw [HC.out, if_neg hg]
    rw [e0]
    clear e0
    obtain ⟨y00, y01, y02, yf0⟩ := PZ.out.cells3
    go_wp2
    obtain ⟨q0, q1, q2, qf⟩ := (((PZ.out.setCell 0 (.slice none 0 0)).setCell 1 (.slice none 0 0)).setCell 2 (.bool false)).cells3
    have E : spPlayF (ws, ls, f) l picks = (120, ([], [], false), [], []) := by rw [HE.out, if_pos hg]
    rw [E]
    exact ⟨.tuple #[mv none 0 0 none 0 0 false, .slice none 0 0, .slice none 0 0, .int .i64 120], (by simp [results, Try.results12, go_sem, q0, q1, q2]), none, 0, 0, none, 0, 0, none, 0, 0, none, 0, 0, rfl, Mown.none _ _, Om.nil _ _ _, Ow.nil _ _ _, ((HB.out.setCell (by simp) _).setCell (by simp) _).setCell (by simp) _⟩
  have e0 : mcheckC ws ls = 0 := by rw [HC.out, if_pos hg]
  rw [e0]
  have HG := hid hg
  clear e0 hg
  go_wp2_with fail
  refine (anysp_any L nl cl 0 l _ HL.out hnl).mono ?_
  rintro e w2 ⟨rfl, hb⟩
  replace HM := hid (HM.out.step hb); replace HL := hid (HL.out.step hb); replace HQ := hid (HQ.out.step hb); replace PM := hid (PM.out.step hb); replace PZ := hid (PZ.out.step hb); replace HB := hid (below_then HB.out hb)
  clear hb
  by_cases ha : AllSp l
  rotate_left
  · rw [show (!decide (AllSp l)) = true by simp [ha]]
    obtain ⟨y00, y01, y02, yf0⟩ := PZ.out.cells3
    go_wp2
    obtain ⟨q0, q1, q2, qf⟩ := (((PZ.out.setCell 0 (.slice none 0 0)).setCell 1 (.slice none 0 0)).setCell 2 (.bool false)).cells3
    have E : spPlayF (ws, ls, f) l picks = (150, ([], [], false), [], []) := by rw [HE.out, if_neg (not_not_intro HG.out), if_pos ha]
    rw [E]
    exact ⟨.tuple #[mv none 0 0 none 0 0 false, .slice none 0 0, .slice none 0 0, .int .i64 150], (by simp [results, Try.results12, go_sem, q0, q1, q2]), none, 0, 0, none, 0, 0, none, 0, 0, none, 0, 0, rfl, Mown.none _ _, Om.nil _ _ _, Ow.nil _ _ _, ((HB.out.setCell (by simp) _).setCell (by simp) _).setCell (by simp) _⟩
  rw [show (!decide (AllSp l)) = false by simp [ha]]
  have HA := hid ha
  clear ha
  obtain ⟨y00, y01, y02, yf0⟩ := PM.out.cells3
  go_wp2_with fail
  clear y00 y01 y02 yf0
  have XPZ := PZ; have XHB := HB; have X2 := hid (Below.refl w2.heap.size w2); have h20 := hid (show w.heap.size ≤ w2.heap.size from HB.out.size); have hPZ := hid (show w.heap.size + 1 < w2.heap.size from PZ.out.lt)
  refine (spown_any A n c B k d f ws ls w2 HM.out).mono ?_
  rintro e w3 ⟨ga, gb, rfl, ho, hb⟩
  have h32 := hid hb.size
  replace HM := hid (HM.out.step hb); replace HL := hid (HL.out.step hb); replace HQ := hid (HQ.out.step hb); replace PM := hid (PM.out.step hb); replace PZ := hid (PZ.out.step hb); replace HB := hid (below_then HB.out hb); replace X2 := hid (below_then X2.out hb)
  have HO := hid ho
  clear hb ho
  go_wp2_with fail
  refine (clone_spn L nl cl 0 l _ HL.out hnl).mono ?_
  rintro e w4 ⟨L4, cl4, rfl, ho, hb⟩
  have h43 := hid hb.size
  replace HM := hid (HM.out.step hb); replace HL := hid (HL.out.step hb); replace HQ := hid (HQ.out.step hb); replace PM := hid (PM.out.step hb); replace PZ := hid (PZ.out.step hb); replace HO := hid (HO.out.step hb); replace HB := hid (below_then HB.out hb); replace X2 := hid (below_then X2.out hb)
  have HR := hid ho
  clear hb ho
  have hLb := hid (show ∀ a, L4 = some a → w3.heap.size ≤ a.block ∧ a.block < w4.heap.size from fun a ha => by obtain ⟨h1, cs, h2⟩ := HR.out.blk a ha; exact ⟨h1, h2.lt⟩)
  have bx := below_box w4 (.cells (pcs (some ⟨ga, 0, none⟩) n n (some ⟨gb, 0, none⟩) k k f L4 nl cl4) 83)
  replace HM := hid (HM.out.step bx); replace HL := hid (HL.out.step bx); replace HQ := hid (HQ.out.step bx); replace PM := hid (PM.out.step bx); replace PZ := hid (PZ.out.step bx); replace HO := hid (HO.out.step bx); replace HR := hid (HR.out.step bx); replace HB := hid (below_then HB.out bx); replace X2 := hid (below_then X2.out bx)
  clear bx
  have PP := hid (Blk.new w4 83 (pcs (some ⟨ga, 0, none⟩) n n (some ⟨gb, 0, none⟩) k k f L4 nl cl4))
  have bx := below_box (w4.alloc (.cells (pcs (some ⟨ga, 0, none⟩) n n (some ⟨gb, 0, none⟩) k k f L4 nl cl4) 83)) (.cells #[.slice none 0 0] 27)
  replace HM := hid (HM.out.step bx); replace HL := hid (HL.out.step bx); replace HQ := hid (HQ.out.step bx); replace PM := hid (PM.out.step bx); replace PZ := hid (PZ.out.step bx); replace HO := hid (HO.out.step bx); replace HR := hid (HR.out.step bx); replace PP := hid (PP.out.step bx); replace HB := hid (below_then HB.out bx); replace X2 := hid (below_then X2.out bx)
  clear bx
  have PH := hid (Blk.new2 w4 27 #[.slice none 0 0] (.cells (pcs (some ⟨ga, 0, none⟩) n n (some ⟨gb, 0, none⟩) k k f L4 nl cl4) 83))
  go_wp2_with fail
  have hz6 := hid (show ((w4.alloc (.cells (pcs (some ⟨ga, 0, none⟩) n n (some ⟨gb, 0, none⟩) k k f L4 nl cl4) 83)).alloc (.cells #[.slice none 0 0] 27)).heap.size = w4.heap.size + 2 by simp)
  generalize (w4.alloc (.cells (pcs (some ⟨ga, 0, none⟩) n n (some ⟨gb, 0, none⟩) k k f L4 nl cl4) 83)).alloc (.cells #[.slice none 0 0] 27) = W6 at *
  refine (holders_any w4.heap.size Q nq cq W6).mono ?_
  rintro e W7' ⟨rfl, hw7⟩
  have bx := below_box W6 (.cells #[ptr w4.heap.size] 81)
  replace HM := hid (HM.out.step bx); replace HL := hid (HL.out.step bx); replace HQ := hid (HQ.out.step bx); replace PM := hid (PM.out.step bx); replace PZ := hid (PZ.out.step bx); replace HO := hid (HO.out.step bx); replace HR := hid (HR.out.step bx); replace PP := hid (PP.out.step bx); replace PH := hid (PH.out.step bx); replace HB := hid (below_then HB.out bx); replace X2 := hid (below_then X2.out bx)
  clear bx
  have BP := hid (Blk.new W6 81 #[ptr w4.heap.size])
  have bx := below_box (W6.alloc (.cells #[ptr w4.heap.size] 81)) (.cells #[.slice Q nq cq] 27)
  replace HM := hid (HM.out.step bx); replace HL := hid (HL.out.step bx); replace HQ := hid (HQ.out.step bx); replace PM := hid (PM.out.step bx); replace PZ := hid (PZ.out.step bx); replace HO := hid (HO.out.step bx); replace HR := hid (HR.out.step bx); replace PP := hid (PP.out.step bx); replace PH := hid (PH.out.step bx); replace BP := hid (BP.out.step bx); replace HB := hid (below_then HB.out bx); replace X2 := hid (below_then X2.out bx)
  clear bx
  have BQ := hid (Blk.new2 W6 27 #[.slice Q nq cq] (.cells #[ptr w4.heap.size] 81))
  have hz7 := hid (show ((W6.alloc (.cells #[ptr w4.heap.size] 81)).alloc (.cells #[.slice Q nq cq] 27)).heap.size = W6.heap.size + 2 by simp)
  subst hw7
  go_wp2_with fail
  generalize (W6.alloc (.cells #[ptr w4.heap.size] 81)).alloc (.cells #[.slice Q nq cq] 27) = W7 at *
  have HLD0 := hid (show Hld w4.heap.size w2.heap.size W6.heap.size (W6.heap.size + 1) 0 w.heap.size Q nq cq picks (ws, ls, f) l L4 nl cl4 w3.heap.size 0 W7 from ⟨⟨⟨_, _, _, _, _, _, PP.out, HO.out⟩, HR.out, X2.out.size⟩, BP.out, BQ.out, HQ0.out.below HB.out (Nat.le_refl _)⟩)
  have HPI0 := hid (show PlI w2 W7 (w4.heap.size + 1) (ws, ls, f) l (vpk nl picks) 0 W7 from ⟨⟨none, 0, 0, PH.out, Ow.nil _ _ _, Nat.le_refl _⟩, X2.out, Nat.le_refl _⟩)
  have a2 : w.heap.size ≤ w2.heap.size ∧ w2.heap.size ≤ w3.heap.size ∧ w3.heap.size ≤ w4.heap.size ∧ W6.heap.size = w4.heap.size + 2 ∧ W7.heap.size = W6.heap.size + 2 := ⟨h20.out, h32.out, h43.out, hz6.out, hz7.out⟩
  have hvl : (vpk nl picks).length ≤ 1000000 := by have := List.length_filter_le (fun i => decide (0 ≤ i ∧ i < (nl : Int))) picks; unfold vpk; have := hql.out; omega
  have HVL := hid hvl
  have HPZ := hid (PZ.out)
  have HB7 := hid HB.out
  clear hvl PM BP BQ PH PP HO HR HM HL HQ
  refine (wpIn_wide (n := 5)).1 ?_
  refine' wpIn_rangeFunc_stateP rfl (by omega) (gf := 56) (lb := #[ptr (W6.heap.size + 1), ptr W6.heap.size]) rfl trivial (enters_of Try.func56 (by kernel_rfl) rfl)
    (holders_seq (5 - 1) w4.heap.size w2.heap.size W6.heap.size (W6.heap.size + 1) 0 w.heap.size Q nq cq picks (ws, ls, f) l L4 nl cl4 w3.heap.size (by omega) hnq hnl (by omega) (by omega) (by omega) HG.out HA.out hll.out) (fun _ => rfl) ?hD
    (fun k W => PlI w2 W7 (w4.heap.size + 1) (ws, ls, f) l (vpk nl picks) k W) (fun _ _ _ => False)
    ?hI ?hT ?hX ?hID HPI0.out HLD0.out _ ?assign ?body ?done ?stop
  case assign =>
    intro l' k' W K hK
    have HK := hid hK
    clear hK
    gi_wp2_with fail
    exact HK.out
  case hD =>
    rintro i (e | ⟨a, ha, e⟩)
    · omega
    · have := (hLb.out a ha).2; omega
  case hI => exact fun k X Y row hs hg hr => hs.books (by omega) hg hr
  case hT => exact fun k X Y row hs hg hr => hs.books (B0 := W7.heap.size) (by omega) (by have := hs.bq.lt; omega) hg hr
  case hX => exact fun cc k X Y row hs hg hr => hs
  case hID => exact fun k X Y hs hg => hs.stepP (by omega) (fun a ha => by have := hLb.out a ha; omega) (by omega) (by omega) hg
  case stop => exact fun _ _ _ _ _ h => h.elim
  case body =>
    rintro l' j W hk hi ht
    have A2 := hid a2
    clear a2
    obtain ⟨who, hwho⟩ : ∃ x, x = whoK (ws, ls, f) l (vpk nl picks) j := ⟨_, rfl⟩
    rw [← hwho]
    have HHS := hid (show heldF (ws, ls, f) l ((vpk nl picks).take (j + 1)) = heldF (ws, ls, f) l ((vpk nl picks).take j) ++ (if 0 ≤ who then [who] else []) by rw [heldF_take_succ hk, ← hwho])
    obtain ⟨G, ng, cg, h1, h2, h3⟩ := hi.out
    have hj6 : ng ≤ 1000000 := by have := HVL.out; omega
    have hsz := hid hi.size; have hbe := hid hi.be; have HT := hid ht; have H1 := hid h1; have H2 := hid h2; have H3 := hid h3; have HI := hid hi
    obtain ⟨o0, of⟩ := h1.cells1
    have hi0 := HI0.out; have hz00 := HZ0.out; have hz01 := HZ1.out; have hz02 := HZ2.out
    clear hwho hi ht h1 h2 h3
    by_cases hw0 : 0 ≤ who
    · have HW0 := hid hw0
      gi_wp2_with (gi_at_builtin; refine wpListIn_app i64 0 _ rfl _ _ 27 rfl W7.heap.size 3 i0 _ 8 Try.underlying27 hi0 hz00 hz01 hz02 rfl G ng cg (heldF (ws, ls, f) l ((vpk nl picks).take j)) rfl (H2.out.alloc _) W.heap.size (W.heap.size + 1) _ 1 _ [who] rfl (Sl.one' (by simp)) (fun _ => rfl) (by simp only [maxLen]; omega) (by omega) (by have := hsz.out; simp; omega) ?_; intro G' cg' w7 og' hg' hat'; have hrow := hid H2.out.row_ge; have b7 := (H1.out.alloc (.cells #[.int .i64 who] 3)).grown hg' (H2.out.ne_row (by have := A2.out; omega)); have hbe7 := (hbe.out.alloc (by have := hsz.out; have := A2.out; omega) (.cells #[.int .i64 who] 3)).grown hg' (by have := hsz.out; have := A2.out; simp; omega) (fun r e => by have := hrow.out r e; have := A2.out; omega); obtain ⟨u0, uf⟩ := b7.cells1)
      have a2 := A2.out
      rw [show heldF (ws, ls, f) l ((vpk nl picks).take j) ++ [who] = heldF (ws, ls, f) l ((vpk nl picks).take (j + 1)) by rw [HHS.out, if_pos HW0.out]] at og'
      have hss := hsz.out
      have hkeep : ∀ q, q < W7.heap.size → q ≠ w4.heap.size + 1 → (w7.setCell ⟨w4.heap.size + 1, 0, none⟩ (.slice G' (ng + 1) cg')).heap[q]? = W.heap[q]? := fun q e1 e2 =>
        (Below.heap_setCell w7 ⟨w4.heap.size + 1, 0, none⟩ _ q e2).trans ((hg'.block q (by simp; omega) (fun e => by have := H2.out.row_ge q e.symm; omega)).trans (Below.heap_alloc W _ q (by omega)))
      have k1 := KeepsFrom.of_grownBy (B := W7.heap.size) (World.grownBy_alloc W (.cells #[.int .i64 who] 3) none) (fun j e => by cases e)
      have k2 := (H2.out.alloc (.cells #[.int .i64 who] 3)).keeps (B := W7.heap.size) hg'
      have k3 := KeepsFrom.of_grownBy (B := W7.heap.size) (grownBy_setCell' w7 (w4.heap.size + 1) (.slice G' (ng + 1) cg')) (fun j e => by cases e; omega)
      have hz7' := hg'.size
      simp at hz7'
      have hdr : PlI w2 W7 (w4.heap.size + 1) (ws, ls, f) l (vpk nl picks) (j + 1) (w7.setCell ⟨w4.heap.size + 1, 0, none⟩ (.slice G' (ng + 1) cg')) := ⟨⟨G', ng + 1, cg', by have := b7.setCell 0 (.slice G' (ng + 1) cg'); simpa using this, og'.setCell (p := ⟨w4.heap.size + 1, 0, none⟩) (by show w4.heap.size + 1 < W7.heap.size; omega) _, by have := H3.out; omega⟩, hbe7.setCell (p := ⟨w4.heap.size + 1, 0, none⟩) (by show w2.heap.size ≤ w4.heap.size + 1; omega) _, by simp; omega⟩
      have hq6 : w.heap.size ≤ (W.alloc (.cells #[.int .i64 who] 3)).heap.size := by simp; omega
      have hd1 := (HT.out.grown (W' := W.alloc (.cells #[.int .i64 who] 3)) (row := none) (by omega) (World.grownBy_alloc W _ none) (fun r e => by cases e))
      have hd2 := hd1.grown (by omega) hg' (fun r e => by
        obtain ⟨_, cs, hb⟩ := (H2.out.alloc (.cells #[.int .i64 who] 3)).blk (G.getD ⟨0, 0, none⟩) (by cases G with | none => cases e | some a => rfl)
        have hr : r = (G.getD ⟨0, 0, none⟩).block := by cases G with | none => cases e | some a => simpa [Value.ownBlock] using e.symm
        have := H2.out.row_ge r e
        exact ⟨by omega, by omega, cs, _, hr ▸ hb, .inl rfl⟩)
      have hds := hd2.grown (W' := w7.setCell ⟨w4.heap.size + 1, 0, none⟩ (.slice G' (ng + 1) cg')) (row := some (w4.heap.size + 1)) (by omega) (grownBy_setCell' w7 _ _) (fun r e => by cases e; exact ⟨by omega, by omega, _, _, b7, .inr rfl⟩)
      exact ⟨(k1.trans k2).trans k3, hdr, hds⟩
    · have HW0 := hid hw0
      gi_wp2_with fail
      obtain ⟨p1, p2, p3⟩ := HI.out
      refine ⟨KeepsFrom.refl _ _, ⟨⟨G, ng, cg, H1.out, ?_, by have := H3.out; omega⟩, p2, p3⟩, HT.out⟩
      rw [HHS.out, if_neg (by have := HW0.out; omega), List.append_nil]
      exact H2.out
  case done =>
    rintro b W hb hi ht hD
    obtain ⟨G, ng, cg, g1, g2, g3⟩ := hi.out
    obtain ⟨⟨A9, n9, c9, B9, k9, d9, e1, e2⟩, e3, e4⟩ := ht.pl
    rw [List.take_length] at g2 e1 e2 e3
    have PZ9 := hid (XPZ.out.below hi.be (by have := hPZ.out; omega))
    have A2' := hid a2
    have E1 := hid e1; have E2 := hid e2; have E3 := hid e3; have G1 := hid g1; have G2 := hid g2; have HD := hid (show DefAt W b from hD); have HBW := hid (below_then XHB.out hi.be)
    clear e1 e2 e3 g1 g2 g3 e4 hD a2 hi ht
    go_wp2_with fail
    have bx := (Below.refl W.heap.size W).drew
    replace E1 := hid (E1.out.step bx); replace E2 := hid (E2.out.step bx); replace E3 := hid (E3.out.step bx); replace G1 := hid (G1.out.step bx); replace G2 := hid (G2.out.step bx); replace HD := hid (HD.out.step bx); replace PZ9 := hid (PZ9.out.step bx); replace HBW := hid (below_then HBW.out bx)
    clear bx
    have hszd := hid (show W.drew.heap.size = W.heap.size from rfl)
    refine wp_region_noPanic ?_
    refine wp_region_held_drew (S := (fun W' : World => W'.cell? ⟨w4.heap.size, 0, none⟩ = some (.slice A9 n9 c9) ∧ W'.cell? ⟨w4.heap.size, 1, none⟩ = some (.slice B9 k9 d9) ∧ W'.cell? ⟨w4.heap.size, 2, none⟩ = some (.bool (playS (ws, ls, f) l (vpk nl picks)).1.2.2) ∧ W'.cell? ⟨w4.heap.size, 3, none⟩ = some (.slice L4 nl cl4) ∧ W'.cell? ⟨w4.heap.size + 1, 0, none⟩ = some (.slice G ng cg))) (by kernel_rfl) ⟨E1.out.cells4.1, E1.out.cells4.2.1, E1.out.cells4.2.2.1, E1.out.cells4.2.2.2.1, G1.out.cells1.1⟩ (fun hS => ?_)
    generalize W.drew = Wd at *
    refine wpAnyH_take (i := 0) (v := ?_) (by simp only [List.getElem?_toArray, List.getElem?_cons_succ, List.getElem?_cons_zero]; rfl) (by kernel_rfl) (by kernel_rfl) (by kernel_rfl) (fun _ _ _ h => h) (Or.inl ⟨by rfl, ?_⟩) hS ?_
    rotate_left
    · intro w' hSw; (try dsimp only at hSw); go_split_ands; go_simp; (try with_reducible rfl)
    (try simp only [Act.put, List.setIfInBounds_toArray, List.set_cons_zero, List.set_cons_succ])
    refine wpAnyH_take (i := 1) (v := ?_) (by simp only [List.getElem?_toArray, List.getElem?_cons_succ, List.getElem?_cons_zero]; rfl) (by kernel_rfl) (by kernel_rfl) (by kernel_rfl) (fun _ _ _ h => h) (Or.inl ⟨by rfl, ?_⟩) hS ?_
    rotate_left
    · intro w' hSw; (try dsimp only at hSw); go_split_ands; go_simp; (try with_reducible rfl)
    (try simp only [Act.put, List.setIfInBounds_toArray, List.set_cons_zero, List.set_cons_succ])
    refine wpAnyH_take (i := 2) (v := ?_) (by simp only [List.getElem?_toArray, List.getElem?_cons_succ, List.getElem?_cons_zero]; rfl) (by kernel_rfl) (by kernel_rfl) (by kernel_rfl) (fun _ _ _ h => h) (Or.inl ⟨by rfl, ?_⟩) hS ?_
    rotate_left
    · intro w' hSw; (try dsimp only at hSw); go_split_ands; go_simp; (try with_reducible rfl)
    (try simp only [Act.put, List.setIfInBounds_toArray, List.set_cons_zero, List.set_cons_succ])
    refine wpAnyH_take (i := 3) (v := ?_) (by simp only [List.getElem?_toArray, List.getElem?_cons_succ, List.getElem?_cons_zero]; rfl) (by kernel_rfl) (by kernel_rfl) (by kernel_rfl) (fun _ _ _ h => h) (Or.inl ⟨by rfl, ?_⟩) hS ?_
    rotate_left
    · intro w' hSw; (try dsimp only at hSw); go_split_ands; go_simp; (try with_reducible rfl)
    (try simp only [Act.put, List.setIfInBounds_toArray, List.set_cons_zero, List.set_cons_succ])
    refine wpAnyH_take (i := 4) (v := ?_) (by simp only [List.getElem?_toArray, List.getElem?_cons_succ, List.getElem?_cons_zero]; rfl) (by kernel_rfl) (by kernel_rfl) (by kernel_rfl) (fun _ _ _ h => h) (Or.inl ⟨by rfl, ?_⟩) hS ?_
    rotate_left
    · intro w' hSw; (try dsimp only at hSw); go_split_ands; go_simp; (try with_reducible rfl)
    (try simp only [Act.put, List.setIfInBounds_toArray, List.set_cons_zero, List.set_cons_succ])
    refine wpAnyH_take (i := 5) (v := ?_) (by simp only [List.getElem?_toArray, List.getElem?_cons_succ, List.getElem?_cons_zero]; rfl) (by kernel_rfl) (by kernel_rfl) (by kernel_rfl) (fun _ _ _ h => h) (Or.inl ⟨by rfl, ?_⟩) hS ?_
    rotate_left
    · intro w' hSw; (try dsimp only at hSw); go_split_ands; go_simp; (try with_reducible rfl)
    (try simp only [Act.put, List.setIfInBounds_toArray, List.set_cons_zero, List.set_cons_succ])
    refine wpAnyH_take (i := 6) (v := ?_) (by simp only [List.getElem?_toArray, List.getElem?_cons_succ, List.getElem?_cons_zero]; rfl) (by kernel_rfl) (by kernel_rfl) (by kernel_rfl) (fun _ _ _ h => h) (Or.inl ⟨by rfl, ?_⟩) hS ?_
    rotate_left
    · intro w' hSw; (try dsimp only at hSw); go_split_ands; go_simp; (try with_reducible rfl)
    (try simp only [Act.put, List.setIfInBounds_toArray, List.set_cons_zero, List.set_cons_succ])
    refine wpAnyH_take (i := 7) (v := ?_) (by simp only [List.getElem?_toArray, List.getElem?_cons_succ, List.getElem?_cons_zero]; rfl) (by kernel_rfl) (by kernel_rfl) (by kernel_rfl) (fun _ _ _ h => h) (Or.inl ⟨by rfl, ?_⟩) hS ?_
    rotate_left
    · intro w' hSw; (try dsimp only at hSw); go_split_ands; go_simp; (try with_reducible rfl)
    (try simp only [Act.put, List.setIfInBounds_toArray, List.set_cons_zero, List.set_cons_succ])
    refine wpAnyH_take (i := 8) (v := ?_) (by simp only [List.getElem?_toArray, List.getElem?_cons_succ, List.getElem?_cons_zero]; rfl) (by kernel_rfl) (by kernel_rfl) (by kernel_rfl) (fun _ _ _ h => h) (Or.inl ⟨by rfl, ?_⟩) hS ?_
    rotate_left
    · intro w' hSw; (try dsimp only at hSw); go_split_ands; go_simp; (try with_reducible rfl)
    (try simp only [Act.put, List.setIfInBounds_toArray, List.set_cons_zero, List.set_cons_succ])
    refine wpAnyH_ready (rs := [9]) (by kernel_rfl) (by simp) ?_
    refine AllReadyH.cons (by simp only [List.getElem?_toArray, List.getElem?_cons_succ, List.getElem?_cons_zero]; rfl) (fun K hK => ?_) ?_
    · skip
      obtain ⟨y00, y01, y02, yf0⟩ := PZ9.out.cells3
      go_simp
      clear y00 y01 y02 yf0
      refine named_store3 PZ9.out ?_
      intro Ws9 hbk hgr hsz
      have hsz0 := hid hsz
      clear hsz
      replace E1 := hid (E1.out.grown hgr (fun e => PZ9.out.ne E1.out tneM1 (by simpa using e.symm)))
      replace E2 := hid (mown_kept E2.out PZ9.out tne1 tne2 hgr)
      replace E3 := hid (E3.out.keptG hgr (fun a ha e => E3.out.ne_blk PZ9.out tneM4 a ha (by simpa using e)))
      replace G1 := hid (G1.out.grown hgr (fun e => PZ9.out.ne G1.out tneM2 (by simpa using e.symm)))
      replace G2 := hid (G2.out.keptG hgr (fun a ha e => G2.out.ne_blk PZ9.out tneM3 a ha (by simpa using e)))
      replace HD := hid (HD.out.grown hgr (fun e => HD.out.ne PZ9.out (by simpa using e)))
      replace HBW := hid (HBW.out.grown hgr HBW.out.size (fun r e => by cases e; omega))
      replace PZ9 := hid hbk
      clear hbk hgr
      refine hK.out _ _ ⟨E1.out.cells4.1, E1.out.cells4.2.1, E1.out.cells4.2.2.1, E1.out.cells4.2.2.2.1, G1.out.cells1.1⟩ (fun hS' => ?_)
      clear hK K hS
      have hS := hS'
      clear hS'
      (try simp only [Act.put, List.setIfInBounds_toArray, List.set_cons_zero, List.set_cons_succ])
      refine wpAnyH_take (i := 10) (v := ?_) (by simp only [List.getElem?_toArray, List.getElem?_cons_succ, List.getElem?_cons_zero]; rfl) (by kernel_rfl) (by kernel_rfl) (by kernel_rfl) (fun _ _ _ h => h) (Or.inl ⟨by rfl, ?_⟩) hS ?_
      rotate_left
      · intro w' hSw; (try dsimp only at hSw); go_split_ands; go_simp; (try with_reducible rfl)
      (try simp only [Act.put, List.setIfInBounds_toArray, List.set_cons_zero, List.set_cons_succ])
      refine wpAnyH_take (i := 11) (v := ?_) (by simp only [List.getElem?_toArray, List.getElem?_cons_succ, List.getElem?_cons_zero]; rfl) (by kernel_rfl) (by kernel_rfl) (by kernel_rfl) (fun _ _ _ h => h) (Or.inl ⟨by rfl, ?_⟩) hS ?_
      rotate_left
      · intro w' hSw; (try dsimp only at hSw); go_split_ands; go_simp; (try with_reducible rfl)
      (try simp only [Act.put, List.setIfInBounds_toArray, List.set_cons_zero, List.set_cons_succ])
      refine wpAnyH_take (i := 12) (v := ?_) (by simp only [List.getElem?_toArray, List.getElem?_cons_succ, List.getElem?_cons_zero]; rfl) (by kernel_rfl) (by kernel_rfl) (by kernel_rfl) (fun _ _ _ h => h) (Or.inl ⟨by rfl, ?_⟩) hS ?_
      rotate_left
      · intro w' hSw; (try dsimp only at hSw); go_split_ands; go_simp; (try with_reducible rfl)
      (try simp only [Act.put, List.setIfInBounds_toArray, List.set_cons_zero, List.set_cons_succ])
      refine wpAnyH_done (by kernel_rfl) ?_ _
      refine NoPanic.normal ?_
      clear hS
      go_wp2
      refine ⟨by simp, .inl ⟨_, _, rfl, run_takeDeferred HD.out, ?_⟩⟩
      have hg := grownBy_putObj' Ws9 b (.deferred none)
      have hr : ∀ r, some b = some r → ∃ o' : Obj, Ws9.heap[r]? = some o' ∧ o'.isCells = false := fun r e => by cases e; exact ⟨_, HD.out, rfl⟩
      obtain ⟨q0, q1, q2, qf⟩ := (PZ9.out.abides hg hr).cells3
      have HE2 : spPlayF (ws, ls, f) l picks = (0, (playS (ws, ls, f) l (vpk nl picks)).1, (playS (ws, ls, f) l (vpk nl picks)).2, heldF (ws, ls, f) l (vpk nl picks)) := by rw [HE.out, if_neg (not_not_intro HG.out), if_neg (not_not_intro HA.out), hll.out]
      rw [HE2]
      have a2 := A2'.out
      exact ⟨.tuple #[mv A9 n9 c9 B9 k9 d9 (playS (ws, ls, f) l (vpk nl picks)).1.2.2, .slice L4 nl cl4, .slice G ng cg, .int .i64 0], (by simp [results, Try.results12, go_sem, q0, q1, q2]), A9, n9, c9, B9, k9, d9, L4, nl, cl4, G, ng, cg, rfl, mown_abides (E2.out.mono (by omega)) hg hr, om_abides (E3.out.mono (by omega)) hg hr, (G2.out.mono (by omega)).abides hg hr, HBW.out.trans (belowK_b (w := w) (Nat.le_refl _) _ b _ _ (by omega) HD.out rfl rfl)⟩
    exact AllReadyH.nil
theorem spplay_any (A : Option Addr) (n c : Nat) (B : Option Addr) (k d : Nat) (f : Bool) (ws : List Int) (ls : List Bool) (L : Option Addr) (nl cl : Nat) (l : List Spn) (Q : Option Addr) (nq cq : Nat) (picks : List Int) (w : World) (h : Mem w A n c B k d ws ls) (hl : Sm 3 encS (0, 0, 0) w 0 w.heap.size L nl l) (hnl : nl ≤ 1000000) (hq : Sl i64 0 w 0 w.heap.size Q nq picks) (hnq : nq ≤ 1000000) :
    Calls Try.prog 12 #[mv A n c B k d f, .slice L nl cl, .slice Q nq cq] w (PlayPost w (spPlayF (ws, ls, f) l picks)) := callsIn_wide.1 (spplay_in A n c B k d f ws ls L nl cl l Q nq cq picks w h hl hnl hq hnq)
end Go.Proofs.Ytaeanmkbongfcaa
