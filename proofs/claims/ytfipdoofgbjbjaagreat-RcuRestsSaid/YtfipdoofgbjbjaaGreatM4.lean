/- Walks and plain laws for this claim, part 4. No condition but sizes. -/
import Derived.Test.YtfipdoofgbjbjaaGreatM3
import Derived.Test.YtfipdoofgbjbjaaGreatM1
import Derived.Shelf.Abstract
/- package queue: Drain. No condition but sizes. -/
namespace Go.Proofs.YtfipdoofgbjbjaaGreat
open Go.RowKit Go.Shelf
attribute [local go_sem] Oper.semAt_some
def drainF (o : Int) (l : List Cb) (most : Int) : Int × List Cb × List Int × Int :=
  if ¬ QGood o l then (0, [], [], 230) else if most < 0 then (0, [], [], 2) else (o, l.drop (min (doneN o l) most.toNat), (l.take (min (doneN o l) most.toNat)).map (·.2), 0)
def DrPost (W : World) (r : Int × List Cb × List Int × Int) (e : Ending) (W' : World) : Prop :=
  ∃ A n c B m d, e = .returned (.tuple #[qv A n c r.1, .slice B m d, .int .i64 r.2.2.2]) ∧ Qown W' W.heap.size A n r.2.1 ∧ Ow u64v W' W.heap.size 35 B m d r.2.2.1 ∧ Below W.heap.size W W' ∧ n ≤ c
/-- what the rounds of Drain keep -/
structure DrI (w1 W4 : World) (g8 : Nat) (xs : List Cb) (k : Nat) (W : World) : Prop where
  out : ∃ G cg, Blk W g8 40 #[.slice G k cg] ∧ Ow u64v W W4.heap.size 35 G k cg ((xs.take k).map (·.2))
  be : Below w1.heap.size w1 W
  size : W4.heap.size ≤ W.heap.size
theorem cell_lt {W : World} {p : Addr} {v : Value} (h : W.cell? p = some v) : p.block < W.heap.size := by
  obtain ⟨o, ho, _⟩ := not_walk_of_cell h
  exact (Array.getElem?_eq_some_iff.1 ho).1
section
variable {w1 W4 : World} {g8 : Nat} {xs : List Cb} {k : Nat} {W W' : World} {row : Option Nat}
theorem Ow.grownL {α : Type} {enc : α → Value} {e : TypeId} {A : Option Addr} {n c lo : Nat} {xs : List α} (h : Ow enc W lo e A n c xs) (hg : W.grownBy W' row) (hr : ∀ k, row = some k → k < lo) : Ow enc W' lo e A n c xs := by
  refine ⟨h.len, h.own.1, ?_⟩
  rcases h.own.2 with hh | ⟨g, cap, cur, hv, hb1, hgg, r⟩
  · exact .inl hh
  · exact .inr ⟨g, cap, cur, hv, hb1, (hg.block g (Array.getElem?_eq_some_iff.1 hgg).1 (fun e => by have := hr g e.symm; omega)).trans hgg, r⟩
theorem DrI.books (h : DrI w1 W4 g8 xs k W) (h14 : w1.heap.size ≤ W4.heap.size) (hg : W.grownBy W' row) (hr : ∀ r, row = some r → W4.heap.size ≤ r ∧ ∃ o : Obj, W.heap[r]? = some o ∧ o.isCells = false) : DrI w1 W4 g8 xs k W' := by
  obtain ⟨G, cg, h1, h2⟩ := h.out
  exact ⟨⟨G, cg, h1.abides hg (fun r e => (hr r e).2), h2.abides hg (fun r e => (hr r e).2)⟩, h.be.grown hg h.be.size (fun r e => Nat.le_trans h14 (hr r e).1), Nat.le_trans h.size hg.size⟩
theorem DrI.stepD (h : DrI w1 W4 g8 xs k W) (h8 : g8 ≠ w1.heap.size) (h14 : w1.heap.size < W4.heap.size) (hg : W.grownBy W' (some w1.heap.size)) : DrI w1 W4 g8 xs k W' := by
  obtain ⟨G, cg, h1, h2⟩ := h.out
  exact ⟨⟨G, cg, h1.grown hg (fun e => by cases e; exact h8 rfl), h2.grownL hg (fun r e => by cases e; exact h14)⟩, h.be.grown hg h.be.size (fun r e => by cases e; exact Nat.le_refl _), Nat.le_trans h.size hg.size⟩
end
theorem Drs.books {D Tb lo hi B0 : Nat} {o : Int} {xs : List Cb} {k : Nat} {W W' : World} {row : Option Nat} (h : Drs D Tb lo hi o xs k W) (hT : Tb < B0) (hD : D < B0) (hh : hi ≤ B0) (hg : W.grownBy W' row) (hr : ∀ r, row = some r → B0 ≤ r ∧ ∃ o : Obj, W.heap[r]? = some o ∧ o.isCells = false) : Drs D Tb lo hi o xs k W' := by
  have hs := h.fn.lt
  obtain ⟨A, c, h1, h2, h3, h4⟩ := h.box
  refine ⟨h.fn.grown hg (fun e => by have := (hr _ e.symm).1; omega), A, c, h1.grown hg (fun e => by have := (hr _ e.symm).1; omega), h2, ?_, ?_⟩
  · refine ⟨h3.len, fun hn => ?_⟩
    obtain ⟨b, off, e, e1, e2, hc⟩ := h3.row hn
    have hbl := cell_lt (hc 0 hn 0 (by omega))
    refine ⟨b, off, e, e1, e2, fun j hj i hi => ?_⟩
    rw [← hc j hj i hi]
    unfold World.cell?
    rw [hg.block b hbl (fun e => by have := (hr _ e.symm).1; omega)]
  · intro hn b off hA i
    obtain ⟨b', off', e, e1, e2, hc⟩ := h3.row hn
    rw [hA] at e
    cases e
    have hbl := cell_lt (hc 0 hn 0 (by omega))
    rw [← h4 hn b off hA i]
    unfold World.frozen?
    rw [hg.block b hbl (fun e => by have := (hr _ e.symm).1; omega)]
theorem cell_ne_deferred {W : World} {b : Nat} {ds : Option (List Deferred)} {p : Addr} {v : Value} (h : W.cell? p = some v) (hd : W.heap[b]? = some (.deferred ds)) : p.block ≠ b := by
  rintro rfl
  unfold World.cell? at h
  rw [hd] at h
  simp at h
theorem Qown.put {W : World} {lo : Nat} {A : Option Addr} {n : Nat} {xs : List Cb} {b : Nat} {ds : Option (List Deferred)} (h : Qown W lo A n xs) (hd : W.heap[b]? = some (.deferred ds)) (o' : Obj) : Qown (W.putObj b o') lo A n xs := by
  have hsz : (W.putObj b o').heap.size = W.heap.size := by simp [World.putObj]
  refine ⟨⟨h.sm.len, fun hn => ?_⟩, fun hn b' off hA i => ?_⟩
  · obtain ⟨b', off, e, e1, e2, hc⟩ := h.sm.row hn
    refine ⟨b', off, e, e1, by rw [hsz]; exact e2, fun j hj i hi => ?_⟩
    have hx := hc j hj i hi
    rw [← hx]
    unfold World.cell?
    rw [World.putObj_heap_other (cell_ne_deferred hx hd)]
  · obtain ⟨b2, off2, e, e1, e2, hc⟩ := h.sm.row hn
    rw [hA] at e
    cases e
    rw [← h.free hn b' off hA i]
    unfold World.frozen?
    rw [World.putObj_heap_other (cell_ne_deferred (hc 0 hn 0 (by omega)) hd)]
set_option maxRecDepth 100000 in
set_option maxHeartbeats 8000000 in
theorem drain_in (A : Option Addr) (n c : Nat) (o : Int) (xs : List Cb) (most : Int) (w : World) (h : Sm 2 encC (0, 0) w 0 w.heap.size A n xs) (hn : n ≤ 1000000) (h0 : 0 ≤ o) :
    CallsIn Fence.wide 5 Tryz.prog 126 #[qv A n c o, .int .i64 most] w (DrPost w (drainF o xs most)) := by
  have HE := hid (show drainF o xs most = if ¬ QGood o xs then (0, [], [], 230) else if most < 0 then (0, [], [], 2) else (o, xs.drop (min (doneN o xs) most.toNat), (xs.take (min (doneN o xs) most.toNat)).map (·.2), 0) from rfl)
  have HC := hid (show qcheckC o xs = if QGood o xs then 0 else 230 from rfl)
  have hl := hid h.len
  obtain ⟨i0, hi0, hz00, hz01, hz02⟩ := info_parts info_u64
  have HI0 := hid hi0; have HZ0 := hid hz00; have HZ1 := hid hz01; have HZ2 := hid hz02
  clear hi0 hz00 hz01 hz02
  have HR := hid h; have HB := hid (Below.refl w.heap.size w)
  clear h
  have bx := below_box w (.cells (qcs A n c o) 58)
  replace HR := hid (HR.out.step bx); replace HB := hid (below_then HB.out bx)
  clear bx
  have PQ := hid (Blk.new w 58 (qcs A n c o))
  have bx := below_box (w.alloc (.cells (qcs A n c o) 58)) (.cells #[.int .i64 most] 3)
  replace HR := hid (HR.out.step bx); replace PQ := hid (PQ.out.step bx); replace HB := hid (below_then HB.out bx)
  clear bx
  have PM := hid (Blk.new2 w 3 #[.int .i64 most] (.cells (qcs A n c o) 58))
  have bx := below_box ((w.alloc (.cells (qcs A n c o) 58)).alloc (.cells #[.int .i64 most] 3)) (.cells (qcs none 0 0 0) 58)
  replace HR := hid (HR.out.step bx); replace PQ := hid (PQ.out.step bx); replace PM := hid (PM.out.step bx); replace HB := hid (below_then HB.out bx)
  clear bx
  have PZ := hid (Blk.new3 w 58 (qcs none 0 0 0) (.cells (qcs A n c o) 58) (.cells #[.int .i64 most] 3))
  obtain ⟨y00, y01, yf0⟩ := PQ.out.cells2
  refine callsIn_of_wp_marks Tryz.func126 rfl trivial ?_ rfl
  simp only [Tryz.ntmps126, List.size_toArray, List.length_cons, List.length_nil, Nat.reduceAdd, Nat.reduceSub, Array.replicate_succ, Array.replicate_zero, List.push_toArray, List.append_toArray, List.nil_append, List.cons_append]
  refine wpIn_wide.2 ?_
  go_wp2_with fail
  go_step3
  go_wp2_with fail
  clear y00 y01 yf0
  refine (qcheck_any A n c o xs _ HR.out hn h0).mono ?_
  rintro e w1 ⟨rfl, hb⟩
  replace HR := hid (HR.out.step hb); replace PQ := hid (PQ.out.step hb); replace PM := hid (PM.out.step hb); replace PZ := hid (PZ.out.step hb); replace HB := hid (below_then HB.out hb)
  clear hb
  have hz1 := hid PZ.out.lt; have PM1 := PM; have PZ1 := PZ; have HB1 := HB
  by_cases hg : QGood o xs
  · have e0 : qcheckC o xs = 0 := by rw [HC.out, if_pos hg]
    rw [e0]
    clear e0
    have HG := hid hg
    clear hg
    by_cases h1 : most < 0
    · have h1b : decide (most < 0) = true := decide_eq_true h1
      have H1 := hid h1
      clear h1
      obtain ⟨y00, y01, yf0⟩ := PZ.out.cells2
      obtain ⟨y10, yf1⟩ := PM.out.cells1
      go_wp2
      rw [Exit.noGoto_ret]
      obtain ⟨q0, q1, qf⟩ := ((PZ.out.setCell 0 (.slice none 0 0)).setCell 1 (.int .u64 0)).cells2
      have E : drainF o xs most = (0, [], [], 2) := by rw [HE.out, if_neg (not_not_intro HG.out), if_pos H1.out]
      rw [E]
      exact ⟨.tuple #[qv none 0 0 0, .slice none 0 0, .int .i64 2], (by simp [results, Tryz.results126, go_sem, q0, q1]), none, 0, 0, none, 0, 0, rfl, Qown.nil _ _, Ow.nil _ _ _, (HB.out.setCell (by simp; omega) _).setCell (by simp; omega) _, Nat.le_refl _⟩
    · have h1b : decide (most < 0) = false := decide_eq_false h1
      have hm := hid (show 0 ≤ most by omega)
      have HE2 := hid (show drainF o xs most = (o, xs.drop (min (doneN o xs) most.toNat), (xs.take (min (doneN o xs) most.toNat)).map (·.2), 0) by rw [HE.out, if_neg (not_not_intro HG.out), if_neg h1])
      clear HE HC h1
      obtain ⟨y00, y01, yf0⟩ := PQ.out.cells2
      obtain ⟨y10, yf1⟩ := PM.out.cells1
      go_upto_region 6 with fail
      clear h1b y00 y01 yf0 y10 yf1
      have bx := below_box w1 (.cells (dcs A n c o) 183)
      replace HR := hid (HR.out.step bx); replace PQ := hid (PQ.out.step bx); replace PM := hid (PM.out.step bx); replace PZ := hid (PZ.out.step bx); replace HB := hid (below_then HB.out bx)
      clear bx
      have PD := hid (Blk.new w1 183 (dcs A n c o))
      have HD0 := hid (Below.refl w1.heap.size w1)
      have HD1 := hid (below_box w1 (.cells (dcs A n c o) 183))
      have hz2 := hid (show (w1.alloc (.cells (dcs A n c o) 183)).heap.size = w1.heap.size + 1 by simp)
      generalize w1.alloc (.cells (dcs A n c o) 183) = W2 at *
      obtain ⟨y00, y01, yf0⟩ := PQ.out.cells2
      obtain ⟨y10, y11, yf1⟩ := PD.out.cells2
      go_wp2_with fail
      clear y00 y01 yf0 y10 y11 yf1
      refine (clone_cb A n c 0 xs _ HR.out hn).mono ?_
      rintro e w3 ⟨A3, c3, rfl, ho, hb⟩
      have HO := hid ho; have hs3 := hid hb.size
      clear ho
      replace HR := hid (HR.out.step hb); replace PQ := hid (PQ.out.step hb); replace PM := hid (PM.out.step hb); replace PZ := hid (PZ.out.step hb); replace PD := hid (PD.out.step hb); replace HB := hid (below_then HB.out hb); replace HD1 := hid (below_then HD1.out hb)
      clear hb
      clear HR
      obtain ⟨y00, y01, yf0⟩ := PD.out.cells2
      go_upto_region 8 with fail
      clear y00 y01 yf0
      replace PQ := hid (PQ.out.far (p := ⟨w1.heap.size, 0, none⟩) (by have := hz1.out; simp; omega) (.slice A3 n c3)); replace PM := hid (PM.out.far (p := ⟨w1.heap.size, 0, none⟩) (by have := hz1.out; simp; omega) (.slice A3 n c3)); replace PZ := hid (PZ.out.far (p := ⟨w1.heap.size, 0, none⟩) (by have := hz1.out; simp; omega) (.slice A3 n c3))
      replace PD := hid (PD.out.setCell 0 (.slice A3 n c3))
      replace HO := hid (HO.out.setCell (p := ⟨w1.heap.size, 0, none⟩) (by have := hz2.out; simp; omega) (.slice A3 n c3))
      replace HB := hid (HB.out.setCell (p := ⟨w1.heap.size, 0, none⟩) (by have := hz1.out; simp; omega) (.slice A3 n c3))
      replace HD1 := hid (HD1.out.setCell (p := ⟨w1.heap.size, 0, none⟩) (Nat.le_refl _) (.slice A3 n c3))
      have hsx : (w3.setCell ⟨w1.heap.size, 0, none⟩ (.slice A3 n c3)).heap.size = w3.heap.size := by simp
      have bx := below_box (w3.setCell ⟨w1.heap.size, 0, none⟩ (.slice A3 n c3)) (.cells #[.slice none 0 0] 40)
      have P8 := hid (Blk.at (w := w3.setCell ⟨w1.heap.size, 0, none⟩ (.slice A3 n c3)) (t := 40) (cs := #[.slice none 0 0]) hsx.symm)
      have hs5 := hid (show ((w3.setCell ⟨w1.heap.size, 0, none⟩ (.slice A3 n c3)).alloc (.cells #[.slice none 0 0] 40)).heap.size = w3.heap.size + 1 by simp)
      have HSM := hid (show Sm 2 encC (0, 0) (w3.setCell ⟨w1.heap.size, 0, none⟩ (.slice A3 n c3)) W2.heap.size w3.heap.size A3 n xs by have := HO.out.sm (d := ((0, 0) : Cb)); rwa [hsx] at this)
      replace HSM := hid (HSM.out.below bx (Nat.le_of_eq hsx.symm))
      have HFZ := hid ((Qown.ofOm HO.out).step bx).free
      replace PQ := hid (PQ.out.step bx); replace PM := hid (PM.out.step bx); replace PZ := hid (PZ.out.step bx); replace PD := hid (PD.out.step bx); replace HO := hid (HO.out.step bx); replace HB := hid (below_then HB.out bx); replace HD1 := hid (below_then HD1.out bx)
      clear bx hsx
      generalize (w3.setCell ⟨w1.heap.size, 0, none⟩ (.slice A3 n c3)).alloc (.cells #[.slice none 0 0] 40) = W5 at *
      by_cases hm0 : most = 0
      · have hm0b : (most == 0) = true := by simpa using hm0
        have HE3 := hid (show drainF o xs most = (o, xs, [], 0) by rw [HE2.out, hm0]; simp)
        obtain ⟨y00, yf0⟩ := PM.out.cells1
        obtain ⟨y10, y11, yf1⟩ := PD.out.cells2
        obtain ⟨y20, y21, yf2⟩ := PZ.out.cells2
        go_wp2
        rw [Exit.noGoto_ret]
        obtain ⟨q0, q1, qf⟩ := ((PZ.out.setCell 0 (.slice A3 n c3)).setCell 1 (.int .u64 o)).cells2
        have hzl := hid (show w.heap.size + 1 + 1 < W2.heap.size by have := hz1.out; have := hz2.out; omega)
        have o5 := Qown.ofOm HO.out
        exact ⟨.tuple #[qv A3 n c3 o, .slice none 0 0, .int .i64 0], (by simp [results, Tryz.results126, go_sem, q0, q1]), A3, n, c3, none, 0, 0, by rw [HE3.out], by rw [HE3.out]; exact ((o5.setCell (p := ⟨w.heap.size + 1 + 1, 0, none⟩) hzl.out _).setCell (p := ⟨w.heap.size + 1 + 1, 1, none⟩) hzl.out _).mono (by have := hzl.out; omega), by rw [HE3.out]; exact Ow.nil _ _ _, (HB.out.setCell (by simp; omega) _).setCell (by simp; omega) _, HO.out.cap.1⟩
      · have hm0b : (most == 0) = false := by simpa using hm0
        obtain ⟨y00, yf0⟩ := PM.out.cells1
        go_wp2_with fail
        clear y00 yf0
        go_step3
        go_wp2_with fail
        refine (done_any w1.heap.size W5).mono ?_
        rintro e W6 ⟨rfl, rfl⟩
        have bx := below_box W5 (.cells #[.func (.func 154) #[ptr w1.heap.size] #[]] 199)
        have PT := hid (Blk.new W5 199 #[.func (.func 154) #[ptr w1.heap.size] #[]])
        have hs6 := hid (show (W5.alloc (.cells #[.func (.func 154) #[ptr w1.heap.size] #[]] 199)).heap.size = W5.heap.size + 1 by simp)
        have h85 := hid (show w3.heap.size < W5.heap.size by have := hs5.out; omega)
        replace HSM := hid (HSM.out.below bx (Nat.le_of_lt h85.out))
        replace HFZ := hid (show 0 < n → ∀ b off, A3 = some ⟨b, off, none⟩ → ∀ i, (W5.alloc (.cells #[.func (.func 154) #[ptr w1.heap.size] #[]] 199)).frozen? ⟨b, i, none⟩ = false from ((⟨HO.out.sm, HFZ.out⟩ : Qown W5 _ A3 n xs).step bx).free)
        replace P8 := hid (P8.out.step bx)
        replace PQ := hid (PQ.out.step bx); replace PM := hid (PM.out.step bx); replace PZ := hid (PZ.out.step bx); replace PD := hid (PD.out.step bx); replace HO := hid (HO.out.step bx); replace HB := hid (below_then HB.out bx); replace HD1 := hid (below_then HD1.out bx)
        clear bx
        go_wp2_with fail
        generalize W5.alloc (.cells #[.func (.func 154) #[ptr w1.heap.size] #[]] 199) = W6 at *
        have hDrs0 : Drs w1.heap.size W5.heap.size W2.heap.size w3.heap.size o xs 0 W6 := ⟨PT.out, A3, c3, by rw [Nat.sub_zero, hl.out]; exact PD.out, by rw [Nat.sub_zero, hl.out]; exact HO.out.cap.1, by rw [Nat.sub_zero, hl.out, List.drop_zero]; exact HSM.out, by rw [Nat.sub_zero, hl.out]; exact HFZ.out⟩
        have hDrI0 : DrI w1 W6 w3.heap.size xs 0 W6 := ⟨⟨none, 0, P8.out, Ow.nil _ _ _⟩, HD1.out, Nat.le_refl _⟩
        have a1 := hid (show w1.heap.size < W2.heap.size ∧ W2.heap.size ≤ w3.heap.size ∧ w3.heap.size < W5.heap.size ∧ W5.heap.size < W6.heap.size from ⟨by have := hz2.out; omega, hs3.out, h85.out, by have := hs6.out; omega⟩)
        have a2 := a1.out
        refine (wpIn_wide (n := 5)).1 ?_
        refine' wpIn_rangeFunc_state rfl (by omega) (gf := 155) (lb := #[ptr W5.heap.size]) rfl trivial (enters_of Tryz.func155 (by kernel_rfl) rfl)
          (done_seq (5 - 1) w1.heap.size W5.heap.size W2.heap.size w3.heap.size o xs 0 (by omega) (by rw [hl.out]; exact hn) (by omega) (by omega) (by omega) (by omega)) (fun _ => rfl) (by omega)
          (fun k W => (k : Int) < most ∧ DrI w1 W6 w3.heap.size xs k W) (fun cc k W => cc = .exit 1 ∧ (k : Int) = most ∧ k ≤ doneN o xs ∧ DrI w1 W6 w3.heap.size xs k W ∧ Drs w1.heap.size W5.heap.size W2.heap.size w3.heap.size o xs k W)
          ?hI ?hT ?hX ?hID ?h0 hDrs0 _ ?assign ?body ?done ?stop
        case assign =>
          intro l k W K hK
          have HK := hid hK
          clear hK
          gi_wp2_with fail
          exact HK.out
        case hI => exact fun k X Y row hs hg hr => ⟨hs.1, hs.2.books (by omega) hg hr⟩
        case hT => exact fun k X Y row hs hg hr => hs.books (by omega) (by omega) (by omega) hg hr
        case hX => exact fun cc k X Y row hs hg hr => ⟨hs.1, hs.2.1, hs.2.2.1, hs.2.2.2.1.books (by omega) hg hr, hs.2.2.2.2.books (by omega) (by omega) (by omega) hg hr⟩
        case hID => exact fun k X Y hs hg => ⟨hs.1, hs.2.stepD (by omega) (by omega) hg⟩
        case h0 => exact ⟨by have := hm.out; show ((0 : Nat) : Int) < most; omega, hDrI0⟩
        case body =>
          rintro l k W hk ⟨hkm, hi⟩ ht
          obtain ⟨v, hv⟩ : ∃ v, v = (xs[k]?.getD (0, 0)).2 := ⟨_, rfl⟩
          rw [← hv]
          have hkx : k < xs.length := Nat.lt_of_lt_of_le hk (doneN_le o xs)
          have HV := hid (show ((xs.take k).map fun x => x.2) ++ [v] = (xs.take (k + 1)).map fun x => x.2 by rw [List.take_add_one, List.map_append, hv, List.getElem?_eq_getElem hkx]; rfl)
          obtain ⟨G, cg, h1, h2⟩ := hi.out
          have hk6 : k ≤ 1000000 := by have := hl.out; omega
          have PMW := hid (PM1.out.below hi.be (by have := hz1.out; omega))
          have hi0 := HI0.out; have hz00 := HZ0.out; have hz01 := HZ1.out; have hz02 := HZ2.out
          obtain ⟨o0, of⟩ := h1.cells1
          have hsz := hid hi.size
          have hbe := hid hi.be
          have HT := hid ht; have H1 := hid h1; have H2 := hid h2; have HKM := hid hkm; have HK := hid hk
          clear hv hi ht h1 h2 hkm hk hkx
          have ne1 : ¬ w3.heap.size = w.heap.size + 1 := by have := hz1.out; omega
          have ne2 : ¬ w.heap.size + 1 = w3.heap.size := by have := hz1.out; omega
          by_cases hend : (k : Int) + 1 = most
          · have hendb : ((k : Int) + 1 == most) = true := by simpa using hend
            gi_wp2_with (gi_at_builtin; refine wpListIn_app u64v 0 _ rfl _ _ 40 rfl W6.heap.size 35 i0 _ 8 Tryz.underlying40 hi0 hz00 hz01 hz02 rfl G k cg ((xs.take k).map fun x => x.2) rfl (H2.out.alloc _) W.heap.size (W.heap.size + 1) _ 1 _ [v] rfl (Sl.one' (by simp)) (fun _ => rfl) (by simp only [maxLen]; omega) (by omega) (by have := hsz.out; simp; omega) ?_; intro G' cg' w7 og' hg' hat'; have hrow := hid H2.out.row_ge; have b7 := (H1.out.alloc (.cells #[.int .u64 v] 35)).grown hg' (H2.out.ne_row (by omega)); have hbe7 := (hbe.out.alloc (by have := hsz.out; omega) (.cells #[.int .u64 v] 35)).grown hg' (by have := hsz.out; simp; omega) (fun r e => by have := hrow.out r e; omega); obtain ⟨u0, uf⟩ := b7.cells1; obtain ⟨m0, mf⟩ := (PM1.out.below hbe7 (by have := hz1.out; omega)).cells1)
            rw [HV.out] at og'
            have hrw := HKM.out
            have hss := hsz.out
            have hkeep : ∀ q, q < W6.heap.size → q ≠ w3.heap.size → (w7.setCell ⟨w3.heap.size, 0, none⟩ (.slice G' (k + 1) cg')).heap[q]? = W.heap[q]? := fun q e1 e2 =>
              (Below.heap_setCell w7 ⟨w3.heap.size, 0, none⟩ _ q e2).trans ((hg'.block q (by simp; omega) (fun e => by have := H2.out.row_ge q e.symm; omega)).trans (Below.heap_alloc W _ q (by omega)))
            have k1 := KeepsFrom.of_grownBy (B := W6.heap.size) (World.grownBy_alloc W (.cells #[.int .u64 v] 35) none) (fun j e => by cases e)
            have k2 := (H2.out.alloc (.cells #[.int .u64 v] 35)).keeps (B := W6.heap.size) hg'
            have k3 := KeepsFrom.of_grownBy (B := W6.heap.size) (grownBy_setCell' w7 w3.heap.size (.slice G' (k + 1) cg')) (fun j e => by cases e; omega)
            have hz7 := hg'.size
            simp at hz7
            have hdr : DrI w1 W6 w3.heap.size xs (k + 1) (w7.setCell ⟨w3.heap.size, 0, none⟩ (.slice G' (k + 1) cg')) := ⟨⟨G', cg', by have := b7.setCell 0 (.slice G' (k + 1) cg'); simpa using this, og'.setCell (p := ⟨w3.heap.size, 0, none⟩) (by show w3.heap.size < W6.heap.size; omega) _⟩, hbe7.setCell (p := ⟨w3.heap.size, 0, none⟩) (by show w1.heap.size ≤ w3.heap.size; omega) _, by simp; omega⟩
            have hds := HT.out.kept (hkeep _ (by omega) (by omega)) (hkeep _ (by omega) (by omega)) (fun q e1 e2 => hkeep q (by omega) (by omega))
            exact ⟨(k1.trans k2).trans k3, rfl, by push_cast; exact hend, HK.out, hdr, hds⟩
          · have hendb : ((k : Int) + 1 == most) = false := by simpa using hend
            gi_wp2_with (gi_at_builtin; refine wpListIn_app u64v 0 _ rfl _ _ 40 rfl W6.heap.size 35 i0 _ 8 Tryz.underlying40 hi0 hz00 hz01 hz02 rfl G k cg ((xs.take k).map fun x => x.2) rfl (H2.out.alloc _) W.heap.size (W.heap.size + 1) _ 1 _ [v] rfl (Sl.one' (by simp)) (fun _ => rfl) (by simp only [maxLen]; omega) (by omega) (by have := hsz.out; simp; omega) ?_; intro G' cg' w7 og' hg' hat'; have hrow := hid H2.out.row_ge; have b7 := (H1.out.alloc (.cells #[.int .u64 v] 35)).grown hg' (H2.out.ne_row (by omega)); have hbe7 := (hbe.out.alloc (by have := hsz.out; omega) (.cells #[.int .u64 v] 35)).grown hg' (by have := hsz.out; simp; omega) (fun r e => by have := hrow.out r e; omega); obtain ⟨u0, uf⟩ := b7.cells1; obtain ⟨m0, mf⟩ := (PM1.out.below hbe7 (by have := hz1.out; omega)).cells1)
            rw [HV.out] at og'
            have hrw := HKM.out
            have hss := hsz.out
            have hkeep : ∀ q, q < W6.heap.size → q ≠ w3.heap.size → (w7.setCell ⟨w3.heap.size, 0, none⟩ (.slice G' (k + 1) cg')).heap[q]? = W.heap[q]? := fun q e1 e2 =>
              (Below.heap_setCell w7 ⟨w3.heap.size, 0, none⟩ _ q e2).trans ((hg'.block q (by simp; omega) (fun e => by have := H2.out.row_ge q e.symm; omega)).trans (Below.heap_alloc W _ q (by omega)))
            have k1 := KeepsFrom.of_grownBy (B := W6.heap.size) (World.grownBy_alloc W (.cells #[.int .u64 v] 35) none) (fun j e => by cases e)
            have k2 := (H2.out.alloc (.cells #[.int .u64 v] 35)).keeps (B := W6.heap.size) hg'
            have k3 := KeepsFrom.of_grownBy (B := W6.heap.size) (grownBy_setCell' w7 w3.heap.size (.slice G' (k + 1) cg')) (fun j e => by cases e; omega)
            have hz7 := hg'.size
            simp at hz7
            have hdr : DrI w1 W6 w3.heap.size xs (k + 1) (w7.setCell ⟨w3.heap.size, 0, none⟩ (.slice G' (k + 1) cg')) := ⟨⟨G', cg', by have := b7.setCell 0 (.slice G' (k + 1) cg'); simpa using this, og'.setCell (p := ⟨w3.heap.size, 0, none⟩) (by show w3.heap.size < W6.heap.size; omega) _⟩, hbe7.setCell (p := ⟨w3.heap.size, 0, none⟩) (by show w1.heap.size ≤ w3.heap.size; omega) _, by simp; omega⟩
            have hds := HT.out.kept (hkeep _ (by omega) (by omega)) (hkeep _ (by omega) (by omega)) (fun q e1 e2 => hkeep q (by omega) (by omega))
            exact ⟨(k1.trans k2).trans k3, ⟨by push_cast; omega, hdr⟩, hds⟩
        case done =>
          rintro b W hb ⟨hkm, hi⟩ ht hD
          have hmin : min (doneN o xs) most.toNat = doneN o xs := by omega
          obtain ⟨G, cg, g1, g2⟩ := hi.out
          obtain ⟨A9, c9, d1, d2, d3, d4⟩ := ht.box
          have PZ9 := hid (PZ1.out.below hi.be (by have := hz1.out; omega))
          obtain ⟨o0, of⟩ := g1.cells1
          obtain ⟨v0, v1, vf⟩ := d1.cells2
          obtain ⟨z0, z1, zf⟩ := PZ9.out.cells2
          have HMIN := hid hmin; have G2 := hid g2; have D3 := hid d3; have D4 := hid d4; have D2 := hid d2; have HBE := hid hi.be; have HSI := hid hi.size
          clear hmin g1 g2 d1 d2 d3 d4 hi ht hkm
          have ne1 : ¬ w3.heap.size = w.heap.size + 1 + 1 := by have := hz1.out; omega
          have ne2 : ¬ w.heap.size + 1 + 1 = w3.heap.size := by have := hz1.out; omega
          have ne3 : ¬ w1.heap.size = w.heap.size + 1 + 1 := by have := hz1.out; omega
          have ne4 : ¬ w.heap.size + 1 + 1 = w1.heap.size := by have := hz1.out; omega
          go_wp2_with fail
          go_region
          all_goals
            have hlw := hz1.out
            have hs6' := HSI.out
            have hD2 : ((W.setCell ⟨w.heap.size + 1 + 1, 0, none⟩ (.slice A9 (xs.length - (doneN o xs)) c9)).setCell ⟨w.heap.size + 1 + 1, 1, none⟩ (.int .u64 o)).drew.heap[b]? = some (.deferred (some [])) := (Below.heap_setCell _ ⟨w.heap.size + 1 + 1, 1, none⟩ _ b (by show b ≠ w.heap.size + 1 + 1; omega)).trans ((Below.heap_setCell _ ⟨w.heap.size + 1 + 1, 0, none⟩ _ b (by show b ≠ w.heap.size + 1 + 1; omega)).trans hD)
            have HD2 := hid hD2
            clear hD2 o0 of v0 v1 vf z0 z1 zf
            go_wp2
            rw [Exit.noGoto_ret]
            refine ⟨by simp, .inl ⟨_, _, rfl, run_takeDeferred HD2.out, ?_⟩⟩
            have hg := grownBy_putObj' (((W.setCell ⟨w.heap.size + 1 + 1, 0, none⟩ (.slice A9 (xs.length - (doneN o xs)) c9)).setCell ⟨w.heap.size + 1 + 1, 1, none⟩ (.int .u64 o)).drew) b (.deferred none)
            have hr : ∀ r, some b = some r → ∃ o' : Obj, (((W.setCell ⟨w.heap.size + 1 + 1, 0, none⟩ (.slice A9 (xs.length - (doneN o xs)) c9)).setCell ⟨w.heap.size + 1 + 1, 1, none⟩ (.int .u64 o)).drew).heap[r]? = some o' ∧ o'.isCells = false := fun r e => by cases e; exact ⟨_, HD2.out, rfl⟩
            have zz := (show Blk ((W.setCell ⟨w.heap.size + 1 + 1, 0, none⟩ (.slice A9 (xs.length - (doneN o xs)) c9)).setCell ⟨w.heap.size + 1 + 1, 1, none⟩ (.int .u64 o)).drew (w.heap.size + 1 + 1) 58 #[.slice A9 (xs.length - (doneN o xs)) c9, .int .u64 o] from ((PZ9.out.setCell 0 (.slice A9 (xs.length - (doneN o xs)) c9)).setCell 1 (.int .u64 o)).drew).abides hg hr
            obtain ⟨q0, q1, qf⟩ := zz.cells2
            refine ⟨.tuple #[qv A9 (xs.length - (doneN o xs)) c9 o, .slice G (doneN o xs) cg, .int .i64 0], (by simp [results, Tryz.results126, go_sem, q0, q1]), A9, xs.length - (doneN o xs), c9, G, (doneN o xs), cg, by rw [HE2.out], ?_, ?_, ?_, D2.out⟩
            · rw [HE2.out, HMIN.out]
              have qo : Qown W w.heap.size A9 (xs.length - (doneN o xs)) (xs.drop (doneN o xs)) := ⟨⟨D3.out.len, fun hn => by
                obtain ⟨b', off, e, e1, e2, hc⟩ := D3.out.row hn
                exact ⟨b', off, e, by omega, cell_lt (hc 0 hn 0 (by omega)), hc⟩⟩, D4.out⟩
              have qo2 : Qown W W2.heap.size A9 (xs.length - (doneN o xs)) (xs.drop (doneN o xs)) := ⟨⟨D3.out.len, fun hn => by
                obtain ⟨b', off, e, e1, e2, hc⟩ := D3.out.row hn
                exact ⟨b', off, e, e1, cell_lt (hc 0 hn 0 (by omega)), hc⟩⟩, D4.out⟩
              have qs := (qo2.setCell (p := ⟨w.heap.size + 1 + 1, 0, none⟩) (by show w.heap.size + 1 + 1 < W2.heap.size; omega) (.slice A9 (xs.length - (doneN o xs)) c9)).setCell (p := ⟨w.heap.size + 1 + 1, 1, none⟩) (by show w.heap.size + 1 + 1 < W2.heap.size; omega) (.int .u64 o)
              exact ((qs.step (Below.refl _ _).drew).put HD2.out _).mono (by omega)
            · rw [HE2.out, HMIN.out]
              exact (((G2.out.setCell (p := ⟨w.heap.size + 1 + 1, 0, none⟩) (by show w.heap.size + 1 + 1 < W6.heap.size; omega) _).setCell (p := ⟨w.heap.size + 1 + 1, 1, none⟩) (by show w.heap.size + 1 + 1 < W6.heap.size; omega) _).drewN 1 |>.abides hg hr).mono (by omega)
            · exact ((((below_then HB1.out HBE.out).setCell (p := ⟨w.heap.size + 1 + 1, 0, none⟩) (by show w.heap.size ≤ w.heap.size + 1 + 1; omega) _).setCell (p := ⟨w.heap.size + 1 + 1, 1, none⟩) (by show w.heap.size ≤ w.heap.size + 1 + 1; omega) _).drew).trans (belowK_b (w := w) (Nat.le_refl _) _ b _ _ (by omega) HD2.out rfl rfl)
        case stop =>
          rintro b k cc W hb ⟨rfl, hkm, hkn, hi, ht⟩ hD
          have hmin : min (doneN o xs) most.toNat = k := by omega
          gi_wp2
          obtain ⟨G, cg, g1, g2⟩ := hi.out
          obtain ⟨A9, c9, d1, d2, d3, d4⟩ := ht.box
          have PZ9 := hid (PZ1.out.below hi.be (by have := hz1.out; omega))
          obtain ⟨o0, of⟩ := g1.cells1
          obtain ⟨v0, v1, vf⟩ := d1.cells2
          obtain ⟨z0, z1, zf⟩ := PZ9.out.cells2
          have HMIN := hid hmin; have G2 := hid g2; have D3 := hid d3; have D4 := hid d4; have D2 := hid d2; have HBE := hid hi.be; have HSI := hid hi.size
          clear hmin g1 g2 d1 d2 d3 d4 hi ht hkm
          have ne1 : ¬ w3.heap.size = w.heap.size + 1 + 1 := by have := hz1.out; omega
          have ne2 : ¬ w.heap.size + 1 + 1 = w3.heap.size := by have := hz1.out; omega
          have ne3 : ¬ w1.heap.size = w.heap.size + 1 + 1 := by have := hz1.out; omega
          have ne4 : ¬ w.heap.size + 1 + 1 = w1.heap.size := by have := hz1.out; omega
          go_wp2_with fail
          go_region
          all_goals
            have hlw := hz1.out
            have hs6' := HSI.out
            have hD2 : ((W.setCell ⟨w.heap.size + 1 + 1, 0, none⟩ (.slice A9 (xs.length - k) c9)).setCell ⟨w.heap.size + 1 + 1, 1, none⟩ (.int .u64 o)).drew.heap[b]? = some (.deferred (some [])) := (Below.heap_setCell _ ⟨w.heap.size + 1 + 1, 1, none⟩ _ b (by show b ≠ w.heap.size + 1 + 1; omega)).trans ((Below.heap_setCell _ ⟨w.heap.size + 1 + 1, 0, none⟩ _ b (by show b ≠ w.heap.size + 1 + 1; omega)).trans hD)
            have HD2 := hid hD2
            clear hD2 o0 of v0 v1 vf z0 z1 zf
            go_wp2
            rw [Exit.noGoto_ret]
            refine ⟨by simp, .inl ⟨_, _, rfl, run_takeDeferred HD2.out, ?_⟩⟩
            have hg := grownBy_putObj' (((W.setCell ⟨w.heap.size + 1 + 1, 0, none⟩ (.slice A9 (xs.length - k) c9)).setCell ⟨w.heap.size + 1 + 1, 1, none⟩ (.int .u64 o)).drew) b (.deferred none)
            have hr : ∀ r, some b = some r → ∃ o' : Obj, (((W.setCell ⟨w.heap.size + 1 + 1, 0, none⟩ (.slice A9 (xs.length - k) c9)).setCell ⟨w.heap.size + 1 + 1, 1, none⟩ (.int .u64 o)).drew).heap[r]? = some o' ∧ o'.isCells = false := fun r e => by cases e; exact ⟨_, HD2.out, rfl⟩
            have zz := (show Blk ((W.setCell ⟨w.heap.size + 1 + 1, 0, none⟩ (.slice A9 (xs.length - k) c9)).setCell ⟨w.heap.size + 1 + 1, 1, none⟩ (.int .u64 o)).drew (w.heap.size + 1 + 1) 58 #[.slice A9 (xs.length - k) c9, .int .u64 o] from ((PZ9.out.setCell 0 (.slice A9 (xs.length - k) c9)).setCell 1 (.int .u64 o)).drew).abides hg hr
            obtain ⟨q0, q1, qf⟩ := zz.cells2
            refine ⟨.tuple #[qv A9 (xs.length - k) c9 o, .slice G k cg, .int .i64 0], (by simp [results, Tryz.results126, go_sem, q0, q1]), A9, xs.length - k, c9, G, k, cg, by rw [HE2.out], ?_, ?_, ?_, D2.out⟩
            · rw [HE2.out, HMIN.out]
              have qo : Qown W w.heap.size A9 (xs.length - k) (xs.drop k) := ⟨⟨D3.out.len, fun hn => by
                obtain ⟨b', off, e, e1, e2, hc⟩ := D3.out.row hn
                exact ⟨b', off, e, by omega, cell_lt (hc 0 hn 0 (by omega)), hc⟩⟩, D4.out⟩
              have qo2 : Qown W W2.heap.size A9 (xs.length - k) (xs.drop k) := ⟨⟨D3.out.len, fun hn => by
                obtain ⟨b', off, e, e1, e2, hc⟩ := D3.out.row hn
                exact ⟨b', off, e, e1, cell_lt (hc 0 hn 0 (by omega)), hc⟩⟩, D4.out⟩
              have qs := (qo2.setCell (p := ⟨w.heap.size + 1 + 1, 0, none⟩) (by show w.heap.size + 1 + 1 < W2.heap.size; omega) (.slice A9 (xs.length - k) c9)).setCell (p := ⟨w.heap.size + 1 + 1, 1, none⟩) (by show w.heap.size + 1 + 1 < W2.heap.size; omega) (.int .u64 o)
              exact ((qs.step (Below.refl _ _).drew).put HD2.out _).mono (by omega)
            · rw [HE2.out, HMIN.out]
              exact (((G2.out.setCell (p := ⟨w.heap.size + 1 + 1, 0, none⟩) (by show w.heap.size + 1 + 1 < W6.heap.size; omega) _).setCell (p := ⟨w.heap.size + 1 + 1, 1, none⟩) (by show w.heap.size + 1 + 1 < W6.heap.size; omega) _).drewN 1 |>.abides hg hr).mono (by omega)
            · exact ((((below_then HB1.out HBE.out).setCell (p := ⟨w.heap.size + 1 + 1, 0, none⟩) (by show w.heap.size ≤ w.heap.size + 1 + 1; omega) _).setCell (p := ⟨w.heap.size + 1 + 1, 1, none⟩) (by show w.heap.size ≤ w.heap.size + 1 + 1; omega) _).drew).trans (belowK_b (w := w) (Nat.le_refl _) _ b _ _ (by omega) HD2.out rfl rfl)
  · have e0 : qcheckC o xs = 230 := by rw [HC.out, if_neg hg]
    rw [e0]
    clear e0
    have HG := hid hg
    clear hg
    obtain ⟨y00, y01, yf0⟩ := PZ.out.cells2
    obtain ⟨y10, yf1⟩ := PM.out.cells1
    go_wp2
    rw [Exit.noGoto_ret]
    obtain ⟨q0, q1, qf⟩ := ((PZ.out.setCell 0 (.slice none 0 0)).setCell 1 (.int .u64 0)).cells2
    have E : drainF o xs most = (0, [], [], 230) := by rw [HE.out, if_pos HG.out]
    rw [E]
    exact ⟨.tuple #[qv none 0 0 0, .slice none 0 0, .int .i64 230], (by simp [results, Tryz.results126, go_sem, q0, q1]), none, 0, 0, none, 0, 0, rfl, Qown.nil _ _, Ow.nil _ _ _, (HB.out.setCell (by simp; omega) _).setCell (by simp; omega) _, Nat.le_refl _⟩
theorem drain_any (A : Option Addr) (n c : Nat) (o : Int) (xs : List Cb) (most : Int) (w : World) (h : Sm 2 encC (0, 0) w 0 w.heap.size A n xs) (hn : n ≤ 1000000) (h0 : 0 ≤ o) :
    Calls Tryz.prog 126 #[qv A n c o, .int .i64 most] w (DrPost w (drainF o xs most)) := callsIn_wide.1 (drain_in A n c o xs most w h hn h0)
end Go.Proofs.YtfipdoofgbjbjaaGreat

/- package queue: New, Take, Segments. No condition but sizes. -/
namespace Go.Proofs.YtfipdoofgbjbjaaGreat
open Go.RowKit
def newQ (o : Int) : Int × List Cb × Int := if 9223372036854775806 < o then (0, [], 2) else (o, [], 0)
def NwPost (W : World) (r : Int × List Cb × Int) (e : Ending) (W' : World) : Prop := e = .returned (.tuple #[qv none 0 0 r.1, .int .i64 r.2.2]) ∧ Below W.heap.size W W'
def takeF (o : Int) (l : List Cb) : Int × List Cb × Int × Int :=
  if ¬ QGood o l then (0, [], 0, 230) else if doneN o l = 0 then (0, [], 0, 4) else (o, l.drop 1, (l[0]?.getD (0, 0)).2, 0)
def TkPost (W : World) (r : Int × List Cb × Int × Int) (e : Ending) (W' : World) : Prop :=
  ∃ A n c, e = .returned (.tuple #[qv A n c r.1, .int .u64 r.2.2.1, .int .i64 r.2.2.2]) ∧ Qown W' W.heap.size A n r.2.1 ∧ Below W.heap.size W W' ∧ n ≤ c
set_option maxHeartbeats 2000000 in
theorem qtake_any (A : Option Addr) (n c : Nat) (o : Int) (xs : List Cb) (w : World) (h : Sm 2 encC (0, 0) w 0 w.heap.size A n xs) (hn : n ≤ 1000000) (h0 : 0 ≤ o) :
    Calls Tryz.prog 88 #[qv A n c o] w (TkPost w (takeF o xs)) := by
  have HE := hid (show takeF o xs = if ¬ QGood o xs then (0, [], 0, 230) else if doneN o xs = 0 then (0, [], 0, 4) else (o, xs.drop 1, (xs[0]?.getD (0, 0)).2, 0) from rfl)
  have HR := hid h; have HB := hid (Below.refl w.heap.size w)
  have hl := hid h.len
  clear h
  have bx := below_box w (.cells (qcs A n c o) 58)
  replace HR := hid (HR.out.step bx); replace HB := hid (below_then HB.out bx)
  clear bx
  have PQ := hid (Blk.new w 58 (qcs A n c o))
  have bx := below_box (w.alloc (.cells (qcs A n c o) 58)) (.cells (qcs none 0 0 0) 58)
  replace HR := hid (HR.out.step bx); replace PQ := hid (PQ.out.step bx); replace HB := hid (below_then HB.out bx)
  clear bx
  have PZ := hid (Blk.new2 w 58 (qcs none 0 0 0) (.cells (qcs A n c o) 58))
  obtain ⟨y00, y01, yf0⟩ := PQ.out.cells2
  go_enter Tryz.func88, Tryz.ntmps88
  go_wp2_with fail
  clear y00 y01 yf0
  refine (drain_any A n c o xs 1 _ HR.out hn h0).mono ?_
  rintro e w1 ⟨A1, n1, c1, B1, m1, d1, rfl, o1, b1, hb, hnc⟩
  replace HR := hid (HR.out.step hb); replace PQ := hid (PQ.out.step hb); replace PZ := hid (PZ.out.step hb); replace HB := hid (below_then HB.out hb)
  obtain ⟨r, hr⟩ : ∃ r, r = drainF o xs 1 := ⟨_, rfl⟩
  rw [← hr] at o1 b1 ⊢
  obtain ⟨ro, rl, rw_, rc⟩ := r
  have HRR := hid hr
  have hb1 := hid hb.size; have hzl := hid PZ.out.lt
  clear hb hr
  dsimp only at o1 b1 ⊢
  have O1 := hid o1; have B1 := hid b1
  clear o1 b1
  have bx := below_box w1 (.cells (qcs A1 n1 c1 ro) 58)
  replace PZ := hid (PZ.out.step bx); replace O1 := hid (O1.out.step bx); replace B1 := hid (B1.out.step bx); replace HB := hid (below_then HB.out bx)
  clear bx
  have P5 := hid (Blk.new w1 58 (qcs A1 n1 c1 ro))
  go_upto_region 2 with fail
  generalize w1.alloc (.cells (qcs A1 n1 c1 ro) 58) = W2 at *
  by_cases hg : QGood o xs
  · have E := HRR.out
    rw [drainF, if_neg (not_not_intro hg), if_neg (by decide)] at E
    simp only [Prod.mk.injEq] at E
    obtain ⟨rfl, e2, e3, rfl⟩ := E
    have HG := hid hg; have E2 := hid e2; have E3 := hid e3
    have hm1 := hid B1.out.len
    clear e2 e3 hg
    rcases Nat.eq_zero_or_pos (doneN ro xs) with hd | hd
    · have hm0 : m1 = 0 := by rw [← hm1.out, E3.out, hd]; simp
      have hm0i : (m1 : Int) = 0 := by omega
      have HD := hid hd
      clear hd
      obtain ⟨y00, y01, yf0⟩ := PZ.out.cells2
      go_wp2
      obtain ⟨q0, q1, qf⟩ := ((PZ.out.setCell 0 (.slice none 0 0)).setCell 1 (.int .u64 0)).cells2
      refine bodyPost_ret (v := .tuple #[qv none 0 0 0, .int .u64 0, .int .i64 4]) (by simp [results, Tryz.results88, go_sem, q0, q1]) rfl ?_
      rw [HE.out, if_neg (not_not_intro HG.out), if_pos HD.out]
      exact ⟨none, 0, 0, rfl, Qown.nil _ _, (HB.out.setCell (by simp) _).setCell (by simp) _, Nat.le_refl _⟩
    · have hnx : 0 < xs.length := Nat.lt_of_lt_of_le hd (doneN_le _ _)
      have hmin : min (doneN ro xs) (1 : Int).toNat = 1 := by simp; omega
      have hm0 : m1 = 1 := by rw [← hm1.out, E3.out, hmin, List.length_map, List.length_take]; omega
      have HE2 := hid (show takeF ro xs = (ro, xs.drop 1, (xs[0]?.getD (0, 0)).2, 0) by rw [HE.out, if_neg (not_not_intro HG.out), if_neg (by omega)])
      have HM := hid hmin
      clear hmin hd
      obtain ⟨x, xt, rfl⟩ : ∃ x xt, xs = x :: xt := by cases xs with | nil => simp at hnx | cons x xt => exact ⟨x, xt, rfl⟩
      have E4 := hid (show rw_ = [x.2] by rw [E3.out, HM.out]; rfl)
      have E5 := hid (show rl = (x :: xt).drop 1 by rw [E2.out, HM.out])
      have hm1i : ((m1 : Int) == 0) = false := by simp; omega
      obtain ⟨b, off, rfl, hlo, hbh, hc⟩ := (B1.out.sl (d := (0 : Int))).row (by omega)
      have c0 := hc 0 (by omega)
      rw [E4.out] at c0
      simp only [Nat.add_zero, List.getElem?_cons_zero, Option.getD_some] at c0
      have hm1p : (0 : Int) < (m1 : Int) := by omega
      have hzz := hid PZ.out.lt
      have h15 := hid P5.out.lt
      have ne1 : ¬ w1.heap.size = w.heap.size + 1 := by have := hzl.out; have := hb1.out; simp at this; omega
      have ne2 : ¬ w.heap.size + 1 = w1.heap.size := by omega
      have ne3 : ¬ b = w.heap.size + 1 := by simp at hlo; omega
      have ne4 : ¬ w.heap.size + 1 = b := by omega
      clear hc
      obtain ⟨y00, y01, yf0⟩ := P5.out.cells2
      obtain ⟨y10, y11, yf1⟩ := PZ.out.cells2
      go_wp2_with fail
      go_region
      all_goals
        clear y00 y01 yf0 y10 y11 yf1 c0
        have hlz := hid (show w.heap.size + 1 < ((w.alloc (.cells (qcs A n c ro) 58)).alloc (.cells (qcs none 0 0 0) 58)).heap.size by simp)
        go_wp2
        obtain ⟨q0, q1, qf⟩ := ((PZ.out.setCell 0 (.slice A1 n1 c1)).setCell 1 (.int .u64 ro)).cells2
        refine bodyPost_ret (v := .tuple #[qv A1 n1 c1 ro, .int .u64 x.2, .int .i64 0]) (by simp [results, Tryz.results88, go_sem, q0, q1]) rfl ?_
        rw [HE2.out]
        have oo := ((O1.out.setCell (p := ⟨w.heap.size + 1, 0, none⟩) hlz.out (.slice A1 n1 c1)).setCell (p := ⟨w.heap.size + 1, 1, none⟩) hlz.out (.int .u64 ro)).step (Below.refl _ _).drew
        rw [E5.out] at oo
        exact ⟨A1, n1, c1, rfl, oo.mono (by simp; omega), ((HB.out.setCell (by simp) _).setCell (by simp) _).drew, hnc⟩
  · have E := HRR.out
    rw [drainF, if_pos hg] at E
    simp only [Prod.mk.injEq] at E
    obtain ⟨rfl, rfl, rfl, rfl⟩ := E
    have HG := hid hg
    clear hg
    obtain ⟨y00, y01, yf0⟩ := PZ.out.cells2
    go_wp2
    obtain ⟨q0, q1, qf⟩ := ((PZ.out.setCell 0 (.slice none 0 0)).setCell 1 (.int .u64 0)).cells2
    refine bodyPost_ret (v := .tuple #[qv none 0 0 0, .int .u64 0, .int .i64 230]) (by simp [results, Tryz.results88, go_sem, q0, q1]) rfl ?_
    rw [HE.out, if_pos HG.out]
    exact ⟨none, 0, 0, rfl, Qown.nil _ _, (HB.out.setCell (by simp) _).setCell (by simp) _, Nat.le_refl _⟩
/-- how many are done, and how many come next -/
def seg0 (o : Int) (l : List Cb) : Nat := l.countP fun c => decide (c.1 ≤ o)
def seg1 (o : Int) (l : List Cb) : Nat := l.countP fun c => decide (c.1 = o + 1)
def segF (o : Int) (l : List Cb) : Int × Int × Int := if QGood o l then (seg0 o l, seg1 o l, (l.length : Int) - seg0 o l - seg1 o l) else (0, 0, 0)
abbrev tri (a b c : Int) : Value := .agg #[.int .i64 a, .int .i64 b, .int .i64 c]
def SgPost (W : World) (r : Int × Int × Int) (e : Ending) (W' : World) : Prop := e = .returned (tri r.1 r.2.1 r.2.2) ∧ Below W.heap.size W W'
end Go.Proofs.YtfipdoofgbjbjaaGreat

/- package rcu: rows of queues; all. No condition but sizes. -/
namespace Go.Proofs.YtfipdoofgbjbjaaGreat
open Go.RowKit
attribute [local go_sem] Oper.semAt_some
/-- a queue in a row: its callbacks, the number that is over, and where its row lies -/
structure Qe where
  l : List Cb
  o : Int
  A : Option Addr
  n : Nat
  c : Nat
def zQe : Qe := ⟨[], 0, none, 0, 0⟩
def encQ (x : Qe) : Nat → Value
  | 0 => .slice x.A x.n x.c
  | _ => .int .u64 x.o
set_option maxRecDepth 100000 in
set_option maxHeartbeats 4000000 in
theorem indexf_cb (A : Option Addr) (n c lo hi : Nat) (xs : List Cb) (F : Nat) (caps : Array Value) (p : Cb → Bool) (w : World) (h : Sm 2 encC (0, 0) w lo hi A n xs) (hhi : hi ≤ w.heap.size) (hn : n ≤ 1000000) (hF : Enters Tryz.prog F) (hcon : ∀ (x : Cb) (W : World), x ∈ xs → Below w.heap.size w W → Calls Tryz.prog F (#[cbv x.1 x.2] ++ caps) W fun e W' => e = .returned (.bool (p x)) ∧ Below W.heap.size W W') :
    Calls Tryz.prog 128 #[.slice A n c, .func (.func F) #[] caps] w fun e w' => (∃ v, e = .returned (.int .i64 v) ∧ decide (0 ≤ v) = xs.any p) ∧ Below w.heap.size w w' := by
  have HR := hid h; have hl := hid h.len; have HF := hid hF; have HC := hid hcon
  have HS := hid hhi
  clear h hhi hF hcon
  go_enter Tryz.func128, Tryz.ntmps128
  go_wp2_with fail
  go_loopw [5, 8] (fun _ i wr => ∃ j : Nat, j ≤ n ∧ i = .int .i64 j ∧ Below w.heap.size w wr ∧ ∀ k, k < j → p (xs[k]?.getD (0, 0)) = false) (fun _ i _ => n - (intOf i).toNat)
  case atStart => exact ⟨0, Nat.zero_le _, rfl, Below.refl _ _, fun k hk => absurd hk (Nat.not_lt_zero _)⟩
  case round =>
    obtain ⟨j, hj, rfl, hbw, hall⟩ := hrel
    have HA := hid hall; have HB := hid hbw
    clear hall hbw
    by_cases hjn : j < n
    · obtain ⟨b, off, rfl, _, hbh, hc⟩ := HR.out.row (by omega)
      have hs := HS.out
      have c0 := hc j hjn 0 (by omega)
      have c1 := hc j hjn 1 (by omega)
      rw [Nat.add_zero] at c0
      have f0 := (HB.out.cell (p := ⟨b, off + j * 2, none⟩) (by show b < _; omega)).trans c0
      have f1 := (HB.out.cell (p := ⟨b, off + j * 2 + 1, none⟩) (by show b < _; omega)).trans c1
      clear c0 c1
      obtain ⟨x, hx⟩ : ∃ x, x = xs[j]?.getD (0, 0) := ⟨_, rfl⟩
      rw [← hx] at f0 f1
      replace f0 : wr.cell? ⟨b, off + j * 2, none⟩ = some (.int .u64 x.1) := f0
      replace f1 : wr.cell? ⟨b, off + j * 2 + 1, none⟩ = some (.int .u64 x.2) := f1
      have HX := hid hx
      have HM := hid (show x ∈ xs by rw [hx, List.getElem?_eq_getElem (by rw [hl.out]; exact hjn)]; exact List.getElem_mem _)
      have hji : (j : Int) < (n : Int) := by omega
      clear hx hc hs
      go_wp2_with fail
      clear f0 f1
      rw [HF.out (#[cbv x.1 x.2] ++ caps) wr, Oper.upon_enter]
      refine (HC.out x wr HM.out HB.out).mono ?_
      rintro e w1 ⟨rfl, hb⟩
      have HB1 := hid (below_then HB.out hb)
      clear hb HB
      obtain ⟨q, hq⟩ : ∃ q, q = p x := ⟨_, rfl⟩
      have HQ := hid hq
      rw [← hq]
      clear hq
      rcases q with _ | _
      · go_wp2
        go_roundw
        case rel => exact ⟨j + 1, by omega, by go_num, HB1.out, fun k hk => by
          rcases Nat.lt_or_ge k j with h | h
          · exact HA.out k h
          · obtain rfl : k = j := by omega
            rw [← HX.out]; exact HQ.out.symm⟩
        case measure => simp [intOf]; omega
      · have HY := hid (show xs.any p = true from List.any_eq_true.2 ⟨x, HM.out, HQ.out.symm⟩)
        go_wp2
        go_ret
        exact ⟨⟨_, rfl, by rw [HY.out]; simp⟩, HB1.out⟩
    · obtain rfl : j = n := by omega
      have HY := hid (show xs.any p = false from by
        rw [List.any_eq_false]
        intro x hx
        obtain ⟨k, hk, rfl⟩ := List.mem_iff_getElem.1 hx
        have := HA.out k (by rw [← hl.out]; exact hk)
        rw [List.getElem?_eq_getElem hk] at this
        simpa using this)
      have hnn : ¬ ((j : Int) < (j : Int)) := by omega
      go_wp2
      go_ret
      exact ⟨⟨_, rfl, by rw [HY.out]; simp⟩, HB.out⟩
theorem containsf_cb (A : Option Addr) (n c lo hi : Nat) (xs : List Cb) (F : Nat) (caps : Array Value) (p : Cb → Bool) (w : World) (h : Sm 2 encC (0, 0) w lo hi A n xs) (hhi : hi ≤ w.heap.size) (hn : n ≤ 1000000) (hF : Enters Tryz.prog F) (hcon : ∀ (x : Cb) (W : World), x ∈ xs → Below w.heap.size w W → Calls Tryz.prog F (#[cbv x.1 x.2] ++ caps) W fun e W' => e = .returned (.bool (p x)) ∧ Below W.heap.size W W') :
    Calls Tryz.prog 93 #[.slice A n c, .func (.func F) #[] caps] w fun e w' => e = .returned (.bool (xs.any p)) ∧ Below w.heap.size w w' := by
  have HI := hid (indexf_cb A n c lo hi xs F caps p w h hhi hn hF hcon)
  clear h hF hcon
  go_enter Tryz.func93, Tryz.ntmps93
  go_wp2_with fail
  refine HI.out.mono ?_
  rintro e w' ⟨⟨v, rfl, hv⟩, hb⟩
  have HV := hid hv; have HB := hid hb
  clear hv hb
  go_wp2
  go_ret
  exact ⟨ret_bool HV.out, HB.out⟩
set_option maxRecDepth 100000 in
theorem all1_cb (x : Cb) (F : Nat) (caps : Array Value) (g : Nat) (b : Bool) (w : World) (hP : Blk w g 96 #[.func (.func F) #[] caps]) (hF : Enters Tryz.prog F)
    (hcon : ∀ W, Below w.heap.size w W → Calls Tryz.prog F (#[cbv x.1 x.2] ++ caps) W fun e W' => e = .returned (.bool b) ∧ Below W.heap.size W W') :
    Calls Tryz.prog 94 #[cbv x.1 x.2, ptr g] w fun e w' => e = .returned (.bool (!b)) ∧ Below w.heap.size w w' := by
  have HF := hid hF; have HC := hid hcon
  have HBB := hid (below_box w (.cells #[.int .u64 x.1, .int .u64 x.2] 60))
  obtain ⟨y0, yf⟩ := (hP.step HBB.out).cells1
  obtain ⟨z0, z1, zf⟩ := (Blk.new w 60 #[.int .u64 x.1, .int .u64 x.2]).cells2
  clear hF hcon hP
  go_enter Tryz.func94, Tryz.ntmps94
  go_wp2_with fail
  rw [HF.out (#[cbv x.1 x.2] ++ caps) _, Oper.upon_enter]
  clear y0 yf
  refine (HC.out _ HBB.out).mono ?_
  rintro e w1 ⟨rfl, hb⟩
  have HB := hid (below_then HBB.out hb)
  clear hb HBB HC
  go_wp2
  go_ret
  exact ⟨rfl, HB.out⟩
set_option maxRecDepth 100000 in
theorem all_cb (A : Option Addr) (n c : Nat) (xs : List Cb) (F : Nat) (caps : Array Value) (p : Cb → Bool) (w : World) (h : Sm 2 encC (0, 0) w 0 w.heap.size A n xs) (hn : n ≤ 1000000) (hF : Enters Tryz.prog F) (hcon : ∀ (x : Cb) (W : World), x ∈ xs → Below w.heap.size w W → Calls Tryz.prog F (#[cbv x.1 x.2] ++ caps) W fun e W' => e = .returned (.bool (p x)) ∧ Below W.heap.size W W') :
    Calls Tryz.prog 57 #[.slice A n c, .func (.func F) #[] caps] w fun e w' => e = .returned (.bool (xs.all p)) ∧ Below w.heap.size w w' := by
  have HBB := hid (below_box w (.cells #[.func (.func F) #[] caps] 96))
  have P := hid (Blk.new w 96 #[.func (.func F) #[] caps])
  have HR := hid (h.below HBB.out (Nat.le_refl _))
  have HF := hid hF; have HC := hid hcon
  have hmf : ∀ (fn : Fn) (first cap : Array Value) (w : World), (Instr.makeFunc fn first cap).run Tryz.prog w = .ok (.func fn first cap) w := fun _ _ _ _ => rfl
  have EQ : Hid ((!xs.any (fun x => !p x)) = xs.all p) := hid (by rw [List.not_any_eq_all_not]; simp)
  clear h hF hcon
  go_enter Tryz.func57, Tryz.ntmps57
  go_wp2_with fail
  clear hmf
  have hz := hid (show (w.alloc (.cells #[.func (.func F) #[] caps] 96)).heap.size = w.heap.size + 1 by simp)
  generalize w.alloc (.cells #[.func (.func F) #[] caps] 96) = W0 at *
  refine (containsf_cb A n c 0 w.heap.size xs 94 #[ptr w.heap.size] (fun x => !p x) W0 HR.out (by have := hz.out; omega) hn (enters_of Tryz.func94 (by kernel_rfl) rfl) (fun x W hx hbW => all1_cb x F caps w.heap.size (p x) W (P.out.step hbW) HF.out (fun W2 hb2 => HC.out x W2 hx (below_then (below_then HBB.out hbW) hb2)))).mono ?_
  rintro e w1 ⟨rfl, hb⟩
  have HB := hid (below_then HBB.out hb)
  clear hb
  go_wp2
  go_ret
  exact ⟨ret_bool EQ.out, HB.out⟩

set_option maxRecDepth 100000 in
set_option maxHeartbeats 4000000 in
theorem indexf_qe (A : Option Addr) (n c lo hi : Nat) (xs : List Qe) (F : Nat) (caps : Array Value) (p : Qe → Bool) (w : World) (h : Sm 2 encQ zQe w lo hi A n xs) (hhi : hi ≤ w.heap.size) (hn : n ≤ 1000000) (hF : Enters Tryz.prog F) (hcon : ∀ (x : Qe) (W : World), x ∈ xs → Below w.heap.size w W → Calls Tryz.prog F (#[qv x.A x.n x.c x.o] ++ caps) W fun e W' => e = .returned (.bool (p x)) ∧ Below W.heap.size W W') :
    Calls Tryz.prog 132 #[.slice A n c, .func (.func F) #[] caps] w fun e w' => (∃ v, e = .returned (.int .i64 v) ∧ decide (0 ≤ v) = xs.any p) ∧ Below w.heap.size w w' := by
  have HR := hid h; have hl := hid h.len; have HF := hid hF; have HC := hid hcon
  have HS := hid hhi
  clear h hhi hF hcon
  go_enter Tryz.func132, Tryz.ntmps132
  go_wp2_with fail
  go_loopw [5, 8] (fun _ i wr => ∃ j : Nat, j ≤ n ∧ i = .int .i64 j ∧ Below w.heap.size w wr ∧ ∀ k, k < j → p (xs[k]?.getD zQe) = false) (fun _ i _ => n - (intOf i).toNat)
  case atStart => exact ⟨0, Nat.zero_le _, rfl, Below.refl _ _, fun k hk => absurd hk (Nat.not_lt_zero _)⟩
  case round =>
    obtain ⟨j, hj, rfl, hbw, hall⟩ := hrel
    have HA := hid hall; have HB := hid hbw
    clear hall hbw
    by_cases hjn : j < n
    · obtain ⟨b, off, rfl, _, hbh, hc⟩ := HR.out.row (by omega)
      have hs := HS.out
      have c0 := hc j hjn 0 (by omega)
      have c1 := hc j hjn 1 (by omega)
      rw [Nat.add_zero] at c0
      have f0 := (HB.out.cell (p := ⟨b, off + j * 2, none⟩) (by show b < _; omega)).trans c0
      have f1 := (HB.out.cell (p := ⟨b, off + j * 2 + 1, none⟩) (by show b < _; omega)).trans c1
      clear c0 c1
      obtain ⟨x, hx⟩ : ∃ x, x = xs[j]?.getD zQe := ⟨_, rfl⟩
      rw [← hx] at f0 f1
      replace f0 : wr.cell? ⟨b, off + j * 2, none⟩ = some (.slice x.A x.n x.c) := f0
      replace f1 : wr.cell? ⟨b, off + j * 2 + 1, none⟩ = some (.int .u64 x.o) := f1
      have HX := hid hx
      have HM := hid (show x ∈ xs by rw [hx, List.getElem?_eq_getElem (by rw [hl.out]; exact hjn)]; exact List.getElem_mem _)
      have hji : (j : Int) < (n : Int) := by omega
      clear hx hc hs
      go_wp2_with fail
      clear f0 f1
      rw [HF.out (#[qv x.A x.n x.c x.o] ++ caps) wr, Oper.upon_enter]
      refine (HC.out x wr HM.out HB.out).mono ?_
      rintro e w1 ⟨rfl, hb⟩
      have HB1 := hid (below_then HB.out hb)
      clear hb HB
      obtain ⟨q, hq⟩ : ∃ q, q = p x := ⟨_, rfl⟩
      have HQ := hid hq
      rw [← hq]
      clear hq
      rcases q with _ | _
      · go_wp2
        go_roundw
        case rel => exact ⟨j + 1, by omega, by go_num, HB1.out, fun k hk => by
          rcases Nat.lt_or_ge k j with h | h
          · exact HA.out k h
          · obtain rfl : k = j := by omega
            rw [← HX.out]; exact HQ.out.symm⟩
        case measure => simp [intOf]; omega
      · have HY := hid (show xs.any p = true from List.any_eq_true.2 ⟨x, HM.out, HQ.out.symm⟩)
        go_wp2
        go_ret
        exact ⟨⟨_, rfl, by rw [HY.out]; simp⟩, HB1.out⟩
    · obtain rfl : j = n := by omega
      have HY := hid (show xs.any p = false from by
        rw [List.any_eq_false]
        intro x hx
        obtain ⟨k, hk, rfl⟩ := List.mem_iff_getElem.1 hx
        have := HA.out k (by rw [← hl.out]; exact hk)
        rw [List.getElem?_eq_getElem hk] at this
        simpa using this)
      have hnn : ¬ ((j : Int) < (j : Int)) := by omega
      go_wp2
      go_ret
      exact ⟨⟨_, rfl, by rw [HY.out]; simp⟩, HB.out⟩
theorem containsf_qe (A : Option Addr) (n c lo hi : Nat) (xs : List Qe) (F : Nat) (caps : Array Value) (p : Qe → Bool) (w : World) (h : Sm 2 encQ zQe w lo hi A n xs) (hhi : hi ≤ w.heap.size) (hn : n ≤ 1000000) (hF : Enters Tryz.prog F) (hcon : ∀ (x : Qe) (W : World), x ∈ xs → Below w.heap.size w W → Calls Tryz.prog F (#[qv x.A x.n x.c x.o] ++ caps) W fun e W' => e = .returned (.bool (p x)) ∧ Below W.heap.size W W') :
    Calls Tryz.prog 98 #[.slice A n c, .func (.func F) #[] caps] w fun e w' => e = .returned (.bool (xs.any p)) ∧ Below w.heap.size w w' := by
  have HI := hid (indexf_qe A n c lo hi xs F caps p w h hhi hn hF hcon)
  clear h hF hcon
  go_enter Tryz.func98, Tryz.ntmps98
  go_wp2_with fail
  refine HI.out.mono ?_
  rintro e w' ⟨⟨v, rfl, hv⟩, hb⟩
  have HV := hid hv; have HB := hid hb
  clear hv hb
  go_wp2
  go_ret
  exact ⟨ret_bool HV.out, HB.out⟩
set_option maxRecDepth 100000 in
theorem all1_qe (x : Qe) (F : Nat) (caps : Array Value) (g : Nat) (b : Bool) (w : World) (hP : Blk w g 71 #[.func (.func F) #[] caps]) (hF : Enters Tryz.prog F)
    (hcon : ∀ W, Below w.heap.size w W → Calls Tryz.prog F (#[qv x.A x.n x.c x.o] ++ caps) W fun e W' => e = .returned (.bool b) ∧ Below W.heap.size W W') :
    Calls Tryz.prog 99 #[qv x.A x.n x.c x.o, ptr g] w fun e w' => e = .returned (.bool (!b)) ∧ Below w.heap.size w w' := by
  have HF := hid hF; have HC := hid hcon
  have HBB := hid (below_box w (.cells #[.slice x.A x.n x.c, .int .u64 x.o] 58))
  obtain ⟨y0, yf⟩ := (hP.step HBB.out).cells1
  obtain ⟨z0, z1, zf⟩ := (Blk.new w 58 #[.slice x.A x.n x.c, .int .u64 x.o]).cells2
  clear hF hcon hP
  go_enter Tryz.func99, Tryz.ntmps99
  go_wp2_with fail
  rw [HF.out (#[qv x.A x.n x.c x.o] ++ caps) _, Oper.upon_enter]
  clear y0 yf
  refine (HC.out _ HBB.out).mono ?_
  rintro e w1 ⟨rfl, hb⟩
  have HB := hid (below_then HBB.out hb)
  clear hb HBB HC
  go_wp2
  go_ret
  exact ⟨rfl, HB.out⟩
set_option maxRecDepth 100000 in
theorem all_qe (A : Option Addr) (n c : Nat) (xs : List Qe) (F : Nat) (caps : Array Value) (p : Qe → Bool) (w : World) (h : Sm 2 encQ zQe w 0 w.heap.size A n xs) (hn : n ≤ 1000000) (hF : Enters Tryz.prog F) (hcon : ∀ (x : Qe) (W : World), x ∈ xs → Below w.heap.size w W → Calls Tryz.prog F (#[qv x.A x.n x.c x.o] ++ caps) W fun e W' => e = .returned (.bool (p x)) ∧ Below W.heap.size W W') :
    Calls Tryz.prog 60 #[.slice A n c, .func (.func F) #[] caps] w fun e w' => e = .returned (.bool (xs.all p)) ∧ Below w.heap.size w w' := by
  have HBB := hid (below_box w (.cells #[.func (.func F) #[] caps] 71))
  have P := hid (Blk.new w 71 #[.func (.func F) #[] caps])
  have HR := hid (h.below HBB.out (Nat.le_refl _))
  have HF := hid hF; have HC := hid hcon
  have hmf : ∀ (fn : Fn) (first cap : Array Value) (w : World), (Instr.makeFunc fn first cap).run Tryz.prog w = .ok (.func fn first cap) w := fun _ _ _ _ => rfl
  have EQ : Hid ((!xs.any (fun x => !p x)) = xs.all p) := hid (by rw [List.not_any_eq_all_not]; simp)
  clear h hF hcon
  go_enter Tryz.func60, Tryz.ntmps60
  go_wp2_with fail
  clear hmf
  have hz := hid (show (w.alloc (.cells #[.func (.func F) #[] caps] 71)).heap.size = w.heap.size + 1 by simp)
  generalize w.alloc (.cells #[.func (.func F) #[] caps] 71) = W0 at *
  refine (containsf_qe A n c 0 w.heap.size xs 99 #[ptr w.heap.size] (fun x => !p x) W0 HR.out (by have := hz.out; omega) hn (enters_of Tryz.func99 (by kernel_rfl) rfl) (fun x W hx hbW => all1_qe x F caps w.heap.size (p x) W (P.out.step hbW) HF.out (fun W2 hb2 => HC.out x W2 hx (below_then (below_then HBB.out hbW) hb2)))).mono ?_
  rintro e w1 ⟨rfl, hb⟩
  have HB := hid (below_then HBB.out hb)
  clear hb
  go_wp2
  go_ret
  exact ⟨ret_bool EQ.out, HB.out⟩

set_option maxRecDepth 100000 in
set_option maxHeartbeats 4000000 in
theorem indexf_int (A : Option Addr) (n c lo hi : Nat) (xs : List Int) (F : Nat) (caps : Array Value) (p : Int → Bool) (w : World) (h : Sl i64 0 w lo hi A n xs) (hhi : hi ≤ w.heap.size) (hn : n ≤ 1000000) (hF : Enters Tryz.prog F) (hcon : ∀ (x : Int) (W : World), x ∈ xs → Below w.heap.size w W → Calls Tryz.prog F (#[Value.int .i64 x] ++ caps) W fun e W' => e = .returned (.bool (p x)) ∧ Below W.heap.size W W') :
    Calls Tryz.prog 142 #[.slice A n c, .func (.func F) #[] caps] w fun e w' => (∃ v, e = .returned (.int .i64 v) ∧ decide (0 ≤ v) = xs.any p) ∧ Below w.heap.size w w' := by
  have HR := hid h; have hl := hid h.len; have HF := hid hF; have HC := hid hcon
  have HS := hid hhi
  clear h hhi hF hcon
  go_enter Tryz.func142, Tryz.ntmps142
  go_wp2_with fail
  go_loopw [5, 8] (fun _ i wr => ∃ j : Nat, j ≤ n ∧ i = .int .i64 j ∧ Below w.heap.size w wr ∧ ∀ k, k < j → p (xs[k]?.getD 0) = false) (fun _ i _ => n - (intOf i).toNat)
  case atStart => exact ⟨0, Nat.zero_le _, rfl, Below.refl _ _, fun k hk => absurd hk (Nat.not_lt_zero _)⟩
  case round =>
    obtain ⟨j, hj, rfl, hbw, hall⟩ := hrel
    have HA := hid hall; have HB := hid hbw
    clear hall hbw
    by_cases hjn : j < n
    · obtain ⟨b, off, rfl, _, hbh, hc⟩ := HR.out.row (by omega)
      have hs := HS.out
      have f0 := (HB.out.cell (p := ⟨b, off + j, none⟩) (by show b < _; omega)).trans (hc j hjn)
      obtain ⟨x, hx⟩ : ∃ x, x = xs[j]?.getD 0 := ⟨_, rfl⟩
      rw [← hx] at f0
      replace f0 : wr.cell? ⟨b, off + j, none⟩ = some (Value.int .i64 x) := f0
      have HX := hid hx
      have HM := hid (show x ∈ xs by rw [hx, List.getElem?_eq_getElem (by rw [hl.out]; exact hjn)]; exact List.getElem_mem _)
      have hji : (j : Int) < (n : Int) := by omega
      clear hx hc hs
      go_wp2_with fail
      clear f0
      rw [HF.out (#[Value.int .i64 x] ++ caps) wr, Oper.upon_enter]
      refine (HC.out x wr HM.out HB.out).mono ?_
      rintro e w1 ⟨rfl, hb⟩
      have HB1 := hid (below_then HB.out hb)
      clear hb HB
      obtain ⟨q, hq⟩ : ∃ q, q = p x := ⟨_, rfl⟩
      have HQ := hid hq
      rw [← hq]
      clear hq
      rcases q with _ | _
      · go_wp2
        go_roundw
        case rel => exact ⟨j + 1, by omega, by go_num, HB1.out, fun k hk => by
          rcases Nat.lt_or_ge k j with h | h
          · exact HA.out k h
          · obtain rfl : k = j := by omega
            rw [← HX.out]; exact HQ.out.symm⟩
        case measure => simp [intOf]; omega
      · have HY := hid (show xs.any p = true from List.any_eq_true.2 ⟨x, HM.out, HQ.out.symm⟩)
        go_wp2
        go_ret
        exact ⟨⟨_, rfl, by rw [HY.out]; simp⟩, HB1.out⟩
    · obtain rfl : j = n := by omega
      have HY := hid (show xs.any p = false from by
        rw [List.any_eq_false]
        intro x hx
        obtain ⟨k, hk, rfl⟩ := List.mem_iff_getElem.1 hx
        have := HA.out k (by rw [← hl.out]; exact hk)
        rw [List.getElem?_eq_getElem hk] at this
        simpa using this)
      have hnn : ¬ ((j : Int) < (j : Int)) := by omega
      go_wp2
      go_ret
      exact ⟨⟨_, rfl, by rw [HY.out]; simp⟩, HB.out⟩
theorem containsf_int (A : Option Addr) (n c lo hi : Nat) (xs : List Int) (F : Nat) (caps : Array Value) (p : Int → Bool) (w : World) (h : Sl i64 0 w lo hi A n xs) (hhi : hi ≤ w.heap.size) (hn : n ≤ 1000000) (hF : Enters Tryz.prog F) (hcon : ∀ (x : Int) (W : World), x ∈ xs → Below w.heap.size w W → Calls Tryz.prog F (#[Value.int .i64 x] ++ caps) W fun e W' => e = .returned (.bool (p x)) ∧ Below W.heap.size W W') :
    Calls Tryz.prog 121 #[.slice A n c, .func (.func F) #[] caps] w fun e w' => e = .returned (.bool (xs.any p)) ∧ Below w.heap.size w w' := by
  have HI := hid (indexf_int A n c lo hi xs F caps p w h hhi hn hF hcon)
  clear h hF hcon
  go_enter Tryz.func121, Tryz.ntmps121
  go_wp2_with fail
  refine HI.out.mono ?_
  rintro e w' ⟨⟨v, rfl, hv⟩, hb⟩
  have HV := hid hv; have HB := hid hb
  clear hv hb
  go_wp2
  go_ret
  exact ⟨ret_bool HV.out, HB.out⟩
set_option maxRecDepth 100000 in
theorem all1_int (x : Int) (F : Nat) (caps : Array Value) (g : Nat) (b : Bool) (w : World) (hP : Blk w g 120 #[.func (.func F) #[] caps]) (hF : Enters Tryz.prog F)
    (hcon : ∀ W, Below w.heap.size w W → Calls Tryz.prog F (#[Value.int .i64 x] ++ caps) W fun e W' => e = .returned (.bool b) ∧ Below W.heap.size W W') :
    Calls Tryz.prog 122 #[Value.int .i64 x, ptr g] w fun e w' => e = .returned (.bool (!b)) ∧ Below w.heap.size w w' := by
  have HF := hid hF; have HC := hid hcon
  have HBB := hid (Below.refl w.heap.size w)
  obtain ⟨y0, yf⟩ := hP.cells1
  clear hF hcon hP
  go_enter Tryz.func122, Tryz.ntmps122
  go_wp2_with fail
  rw [HF.out (#[Value.int .i64 x] ++ caps) _, Oper.upon_enter]
  clear y0 yf
  refine (HC.out _ HBB.out).mono ?_
  rintro e w1 ⟨rfl, hb⟩
  have HB := hid (below_then HBB.out hb)
  clear hb HBB HC
  go_wp2
  go_ret
  exact ⟨rfl, HB.out⟩
set_option maxRecDepth 100000 in
theorem all_int (A : Option Addr) (n c : Nat) (xs : List Int) (F : Nat) (caps : Array Value) (p : Int → Bool) (w : World) (h : Sl i64 0 w 0 w.heap.size A n xs) (hn : n ≤ 1000000) (hF : Enters Tryz.prog F) (hcon : ∀ (x : Int) (W : World), x ∈ xs → Below w.heap.size w W → Calls Tryz.prog F (#[Value.int .i64 x] ++ caps) W fun e W' => e = .returned (.bool (p x)) ∧ Below W.heap.size W W') :
    Calls Tryz.prog 80 #[.slice A n c, .func (.func F) #[] caps] w fun e w' => e = .returned (.bool (xs.all p)) ∧ Below w.heap.size w w' := by
  have HBB := hid (below_box w (.cells #[.func (.func F) #[] caps] 120))
  have P := hid (Blk.new w 120 #[.func (.func F) #[] caps])
  have HR := hid (h.below HBB.out (Nat.le_refl _))
  have HF := hid hF; have HC := hid hcon
  have hmf : ∀ (fn : Fn) (first cap : Array Value) (w : World), (Instr.makeFunc fn first cap).run Tryz.prog w = .ok (.func fn first cap) w := fun _ _ _ _ => rfl
  have EQ : Hid ((!xs.any (fun x => !p x)) = xs.all p) := hid (by rw [List.not_any_eq_all_not]; simp)
  clear h hF hcon
  go_enter Tryz.func80, Tryz.ntmps80
  go_wp2_with fail
  clear hmf
  have hz := hid (show (w.alloc (.cells #[.func (.func F) #[] caps] 120)).heap.size = w.heap.size + 1 by simp)
  generalize w.alloc (.cells #[.func (.func F) #[] caps] 120) = W0 at *
  refine (containsf_int A n c 0 w.heap.size xs 122 #[ptr w.heap.size] (fun x => !p x) W0 HR.out (by have := hz.out; omega) hn (enters_of Tryz.func122 (by kernel_rfl) rfl) (fun x W hx hbW => all1_int x F caps w.heap.size (p x) W (P.out.step hbW) HF.out (fun W2 hb2 => HC.out x W2 hx (below_then (below_then HBB.out hbW) hb2)))).mono ?_
  rintro e w1 ⟨rfl, hb⟩
  have HB := hid (below_then HBB.out hb)
  clear hb
  go_wp2
  go_ret
  exact ⟨ret_bool EQ.out, HB.out⟩

end Go.Proofs.YtfipdoofgbjbjaaGreat

/- package rcu: the deferred function of tries. No condition. -/
namespace Go.Proofs.YtfipdoofgbjbjaaGreat
open Go.RowKit
@[reducible] def cpu0 : Array Value := #[.int .i64 0, .slice none 0 0, .slice none 0 0, .int .i64 0, .int .i64 0, .bool false, .slice none 0 0, .slice none 0 0, .int .i64 0, .int .u64 0, .slice none 0 0]
/-- what the deferred function leaves: a new both, and the error -/
def RCaught (lo gb ge : Nat) (e : Int) (w w' : World) : Prop := ∃ gn, w.heap.size ≤ gn ∧ Below lo w w' ∧ Blk w' gn 78 cpu0 ∧ Blk w' gb 72 #[ptr gn] ∧ Blk w' ge 39 #[.int .i64 e]
set_option maxRecDepth 100000 in
set_option maxHeartbeats 400000 in
theorem rcatch_panicking (gb ge lo : Nat) (e : Int) (v0 v1 : Value) (w : World) (hb : Blk w gb 72 #[v0]) (he : Blk w ge 39 #[v1]) (hl : lo ≤ gb) (hl' : lo ≤ ge) (hls : lo ≤ w.heap.size) :
    CallsD Tryz.prog 71 #[ptr gb, ptr ge] (.panicking [{ v := .iface 39 (.int .i64 e), recovered := false }]) w fun x u' w' =>
      x = .returned (.tuple #[]) ∧ u' = .panicking [{ v := .iface 39 (.int .i64 e), recovered := true }] ∧ RCaught lo gb ge e w w' := by
  have HB := hid hb; have HE := hid he
  have hlt := hid hb.lt; have hlt' := hid he.lt
  have hne := hid (show gb ≠ ge from fun h => by subst h; unfold Blk at hb he; rw [hb] at he; simp at he)
  clear hb he
  refine callsD_of_wpS Tryz.func71 rfl fun c₀ cs hu => ?_
  apply wpS_seq
  apply wpS_region
  simp [wpOpsS, go_sem, recoverD, hu, Tryz.ntmps71, Exit.thenS]
  clear hu
  refine wpS_of_wp (wp_weak (RCaught lo gb ge e w) (fun Q hQ => ?_) ?_)
  · have HQ := hid hQ
    clear hQ
    have P := hid (Blk.new w 78 cpu0)
    have HB1 := hid (HB.out.alloc (.cells #[.int .i64 0, .slice none 0 0, .slice none 0 0, .int .i64 0, .int .i64 0, .bool false, .slice none 0 0, .slice none 0 0, .int .i64 0, .int .u64 0, .slice none 0 0] 78))
    have HE1 := hid (HE.out.alloc (.cells #[.int .i64 0, .slice none 0 0, .slice none 0 0, .int .i64 0, .int .i64 0, .bool false, .slice none 0 0, .slice none 0 0, .int .i64 0, .int .u64 0, .slice none 0 0] 78))
    have hN : ∀ w : World, (binOp .neq 20 (.iface 39 (.int .i64 e)) .nilIface).run Tryz.prog w = .ok (.bool true) w := neq_nil e
    have hT : ∀ w : World, (Instr.typeAssert (.iface 39 (.int .i64 e)) 20 39 true).run Tryz.prog w = .ok (.tuple #[.int .i64 e, .bool true]) w := is_errno e

    change Code.wp _ _ Q { tmps := #[ptr gb, ptr ge, .iface 39 (.int .i64 e), undef, undef, .iface 39 (.int .i64 e), undef, undef, undef, undef, undef, undef, undef, undef, undef, undef, undef, undef, undef], defers := [] } w
    go_upto_region 5 with fail
    have c0 := HB1.out.cell 0
    have f0 := HB1.out.frozen 0
    have c1 := HE1.out.cell 0
    have f1 := HE1.out.frozen 0
    have n1 : ¬ gb = ge := hne.out
    have n2 : ¬ ge = gb := fun h => hne.out h.symm
    clear hN hT
    go_wp2_with fail
    exact HQ.out _ _ rfl ⟨w.heap.size, Nat.le_refl _, (((Below.refl lo w).alloc hls _).setCell hl _).setCell hl' _, (P.out.far (p := ⟨gb, 0, none⟩) (Nat.ne_of_gt hlt.out) _).far (p := ⟨ge, 0, none⟩) (Nat.ne_of_gt hlt'.out) _, (HB1.out.setCell 0 _).far (p := ⟨ge, 0, none⟩) hne.out _, (HE1.out.far (p := ⟨gb, 0, none⟩) (fun h => hne.out h.symm) _).setCell 0 _⟩
  · rintro a' W' hd hR
    exact ⟨hd, _, rfl, .tuple #[], results_none rfl _ _ _, rfl, rfl, hR⟩
set_option maxRecDepth 100000 in
set_option maxHeartbeats 4000000 in
theorem rcatch_idle (gb ge : Nat) (w : World) :
    CallsD Tryz.prog 71 #[ptr gb, ptr ge] .returning w fun x u' w' => x = .returned (.tuple #[]) ∧ u' = .returning ∧ w' = w := by
  refine callsD_of_wpS Tryz.func71 rfl fun c₀ cs hu => ?_
  apply wpS_seq
  apply wpS_region
  simp [wpOpsS, go_sem, recoverD, hu, Tryz.ntmps71, Exit.thenS]
  refine wpS_of_wp (wp_weak (fun W' => W' = w) (fun Q hQ => ?_) ?_)
  · have HQ := hid hQ
    clear hQ hu
    have hN : ∀ w : World, (binOp .neq 20 .nilIface .nilIface).run Tryz.prog w = .ok (.bool false) w := nil_nil
    change Code.wp _ _ Q { tmps := #[ptr gb, ptr ge, .nilIface, undef, undef, .nilIface, undef, undef, undef, undef, undef, undef, undef, undef, undef, undef, undef, undef, undef], defers := [] } w
    apply wp_seq
    go_upto_region 1 with fail
    go_upto_region 2 with fail
    exact HQ.out _ _ rfl rfl
  · rintro a' W' hd rfl
    refine ⟨hd, .returning, ?_, .tuple #[], results_none rfl _ _ _, rfl, rfl, rfl⟩
    rw [← hu]
end Go.Proofs.YtfipdoofgbjbjaaGreat

/- package rcu: Check. No condition but sizes, and that numbers are of their kinds. -/
namespace Go.Proofs.YtfipdoofgbjbjaaGreat
open Go.RowKit
attribute [local go_sem] Oper.semAt_some
/-- where all of it lies -/
structure Ra where
  A : Option Addr
  n : Nat
  k : Nat
  B : Option Addr
  m : Nat
  d : Nat
  D : Option Addr
  kd : Nat
  Q : Option Addr
  nq : Nat
  kq : Nat
@[reducible] def rcells (s : St) (g : Gr) (a : Ra) : Array Value := #[.int .i64 s.1, .slice a.A a.n a.k, .slice a.B a.m a.d, .int .i64 g.dn, .int .i64 g.ak, .bool g.on, .slice a.D g.nd.length a.kd, .slice a.Q a.nq a.kq]
@[reducible] def rcv (s : St) (g : Gr) (a : Ra) : Value := .agg (rcells s g a)
def QeR (w : World) (x : Qe) : Prop := Sm 2 encC (0, 0) w 0 w.heap.size x.A x.n x.l ∧ x.n ≤ x.c ∧ x.n ≤ 1000 ∧ 0 ≤ x.o ∧ x.o ≤ 18446744073709551615
/-- all of it can be read -/
structure RcR (w : World) (s : St) (g : Gr) (es : List Qe) (a : Ra) : Prop where
  rd : Rds w a.A a.n a.k a.B a.m a.d s.2.1 s.2.2
  gd : Sl blv false w 0 w.heap.size a.D g.nd.length g.nd
  gl : g.nd.length ≤ 1000
  gi : g.dn ≤ 9223372036854775807 ∧ g.ak ≤ 9223372036854775807
  qs : Sm 2 encQ zQe w 0 w.heap.size a.Q a.nq es
  ql : a.nq ≤ 1000
  qe : ∀ x ∈ es, QeR w x
theorem QeR.step {w w' : World} {x : Qe} (h : QeR w x) (hb : Below w.heap.size w w') : QeR w' x := ⟨h.1.step hb, h.2⟩
theorem RcR.step {w w' : World} {s : St} {g : Gr} {es : List Qe} {a : Ra} (h : RcR w s g es a) (hb : Below w.heap.size w w') : RcR w' s g es a :=
  ⟨h.rd.step hb, h.gd.step hb, h.gl, h.gi, h.qs.step hb, h.ql, fun x hx => (h.qe x hx).step hb⟩
def rightQ (g : Gr) (x : Qe) : Bool := decide (QGood x.o x.l) && (decide (x.o = max g.dn 0) && x.l.all (fun c => decide (c.1 ≤ max g.ak 0)))
def RcOk (s : St) (g : Gr) (es : List Qe) : Prop := Good s.1 s.2.1 s.2.2 ∧ gchkC g = 0 ∧ g.nd.length = s.2.1.length ∧ es.length = s.2.1.length ∧ es.all (rightQ g) = true
instance {s : St} {g : Gr} {es : List Qe} : Decidable (RcOk s g es) := by unfold RcOk; infer_instance
def rcheckC (s : St) (g : Gr) (es : List Qe) : Int := if RcOk s g es then 0 else 240
/-- a number that may be is a word -/
theorem u64_pos {a : Int} (h : a ≤ 9223372036854775807) : IntKind.u64.wrap (max a 0) = max a 0 := by rw [IntKind.wrap_u64]; omega
set_option maxRecDepth 100000 in
set_option maxHeartbeats 1000000 in
theorem asked_any (p x : Int) (gr : Nat) (s : St) (g : Gr) (a : Ra) (w : World) (hP : Blk w gr 30 (rcells s g a)) (hk : g.ak ≤ 9223372036854775807) :
    Calls Tryz.prog 54 #[cbv p x, ptr gr] w fun e w' => e = .returned (.bool (decide (p ≤ max g.ak 0))) ∧ Below w.heap.size w w' := by
  have hu := u64_pos hk
  have hmx : (if g.ak < 0 then (0 : Int) else g.ak) = max g.ak 0 := by split <;> omega
  have hmy : max g.ak 0 = max g.ak 0 := rfl
  obtain ⟨M, hM⟩ : ∃ M, M = max g.ak 0 := ⟨_, rfl⟩
  rw [← hM] at hu hmx ⊢
  have hmz : max g.ak 0 = M := hM.symm
  have HB := hid (below_box w (.cells #[.int .u64 p, .int .u64 x] 60))
  obtain ⟨y0, y1, y2, y3, y4, y5, y6, y7, yf⟩ := (hP.step HB.out).cells8
  obtain ⟨z0, z1, zf⟩ := (Blk.new w 60 #[.int .u64 p, .int .u64 x]).cells2
  clear hP hk hM hmy
  go_enter Tryz.func54, Tryz.ntmps54
  go_wp2
  all_goals
    go_ret
    refine ⟨ret_bool ?_, HB.out⟩
    first | rfl | (rw [decide_eq_decide]; omega)
set_option maxRecDepth 100000 in
set_option maxHeartbeats 2000000 in
theorem rightq_any (x : Qe) (gr gk : Nat) (s : St) (g : Gr) (a : Ra) (w : World) (hx : QeR w x) (hP : Blk w gr 30 (rcells s g a)) (hF : Blk w gk 96 #[.func (.func 54) #[] #[ptr gr]]) (hi : g.dn ≤ 9223372036854775807 ∧ g.ak ≤ 9223372036854775807) :
    Calls Tryz.prog 55 #[qv x.A x.n x.c x.o, ptr gr, ptr gk] w fun e w' => e = .returned (.bool (rightQ g x)) ∧ Below w.heap.size w w' := by
  obtain ⟨l, o, A, n, c⟩ := x
  have HX := hid hx; have P := hid hP; have PF := hid hF; have HI := hid hi; have HB := hid (Below.refl w.heap.size w)
  have HE : Hid (rightQ g ⟨l, o, A, n, c⟩ = (decide (QGood o l) && (decide (o = max g.dn 0) && l.all (fun c => decide (c.1 ≤ max g.ak 0))))) := hid rfl
  obtain ⟨R, hR⟩ : ∃ R, R = rightQ g ⟨l, o, A, n, c⟩ := ⟨_, rfl⟩
  rw [← hR] at HE ⊢
  clear hx hP hF hi hR
  dsimp only
  have bx := below_box w (.cells #[.slice A n c, .int .u64 o] 58)
  replace HX := hid (HX.out.step bx); replace P := hid (P.out.step bx); replace PF := hid (PF.out.step bx); replace HB := hid (below_then HB.out bx)
  clear bx
  have PQ := hid (Blk.new w 58 #[.slice A n c, .int .u64 o])
  obtain ⟨y00, y01, yf0⟩ := PQ.out.cells2
  go_enter Tryz.func55, Tryz.ntmps55
  go_wp2_with fail
  clear y00 y01 yf0
  generalize w.alloc (.cells #[.slice A n c, .int .u64 o] 58) = W0 at *
  refine (qcheck_any A n c o l _ HX.out.1 (by have := HX.out.2.2.1; dsimp only at this; omega) HX.out.2.2.2.1).mono ?_
  rintro e w1 ⟨rfl, hb⟩
  replace HX := hid (HX.out.step hb); replace P := hid (P.out.step hb); replace PF := hid (PF.out.step hb); replace PQ := hid (PQ.out.step hb); replace HB := hid (below_then HB.out hb)
  clear hb
  by_cases h1 : QGood o l
  rotate_left
  ·skip
   have e1 : qcheckC o l = 230 := if_neg h1
   have HR := hid (show R = false by rw [HE.out, decide_eq_false h1]; rfl)
   rw [e1]
   clear e1 h1
   go_wp2
   go_ret
   exact ⟨ret_bool HR.out.symm, HB.out⟩
  have e1 : qcheckC o l = 0 := if_pos h1
  replace HE := hid (show R = (decide (o = max g.dn 0) && l.all (fun c => decide (c.1 ≤ max g.ak 0))) by rw [HE.out, decide_eq_true h1]; rfl)
  rw [e1]
  clear e1 h1
  have hu := u64_pos HI.out.1
  obtain ⟨M, hM⟩ : ∃ M, M = max g.dn 0 := ⟨_, rfl⟩
  rw [← hM] at hu HE
  have hmz : max g.dn 0 = M := hM.symm
  have hmx : (if g.dn < 0 then (0 : Int) else g.dn) = M := by split <;> omega
  clear hM
  obtain ⟨y00, y01, yf0⟩ := PQ.out.cells2
  obtain ⟨y10, y11, y12, y13, y14, y15, y16, y17, yf1⟩ := P.out.cells8
  obtain ⟨y20, yf2⟩ := PF.out.cells1
  by_cases h2 : o = M
  rotate_left
  ·skip
   have HR := hid (show R = false by rw [HE.out, decide_eq_false h2]; rfl)
   have h2b : (o == M) = false := by simpa using h2
   clear h2
   go_wp2
   all_goals
     go_ret
     exact ⟨ret_bool HR.out.symm, HB.out⟩
  have h2b : (o == M) = true := by simpa using h2
  replace HE := hid (show R = l.all (fun c => decide (c.1 ≤ max g.ak 0)) by rw [HE.out, decide_eq_true h2]; rfl)
  clear h2
  go_wp2_with fail
  clear y00 y01 yf0 y10 y11 y12 y13 y14 y15 y16 y17 yf1 y20 yf2 hu hmz hmx h2b
  refine (all_cb A n c l 54 #[ptr gr] (fun c => decide (c.1 ≤ max g.ak 0)) w1 HX.out.1 (by have := HX.out.2.2.1; dsimp only at this; omega) (enters_of Tryz.func54 (by kernel_rfl) rfl) (fun y W hy hbW => asked_any y.1 y.2 gr s g a W (P.out.step hbW) HI.out.2)).mono ?_
  rintro e w2 ⟨rfl, hb⟩
  replace HX := hid (HX.out.step hb); replace P := hid (P.out.step hb); replace PF := hid (PF.out.step hb); replace PQ := hid (PQ.out.step hb); replace HB := hid (below_then HB.out hb)
  clear hb
  rw [← HE.out]
  go_wp2
  go_ret
  exact ⟨rfl, HB.out⟩
set_option maxRecDepth 100000 in
set_option maxHeartbeats 4000000 in
theorem rcheck_any (s : St) (g : Gr) (es : List Qe) (a : Ra) (w : World) (h : RcR w s g es a) :
    Calls Tryz.prog 19 #[rcv s g a] w fun e w' => e = .returned (.int .i64 (rcheckC s g es)) ∧ Below w.heap.size w w' := by
  have HR := hid h; have HB := hid (Below.refl w.heap.size w)
  have NO : Hid (¬ RcOk s g es → rcheckC s g es = 240) := hid (fun h => if_neg h)
  have YES : Hid (RcOk s g es → rcheckC s g es = 0) := hid (fun h => if_pos h)
  obtain ⟨cd, hcd⟩ : ∃ c, c = rcheckC s g es := ⟨_, rfl⟩
  rw [← hcd] at NO YES ⊢
  clear h hcd
  obtain ⟨A, n, k, B, m, d, D, kd, Q, nq, kq⟩ := a
  have hl1 := hid HR.out.rd.lenx; have hl2 := hid HR.out.gd.len; have hl3 := hid HR.out.qs.len
  obtain ⟨now, ns, os⟩ := s
  have bx := below_box w (.cells (rcells (now, ns, os) g ⟨A, n, k, B, m, d, D, kd, Q, nq, kq⟩) 30)
  replace HR := hid (HR.out.step bx); replace HB := hid (below_then HB.out bx)
  clear bx
  have PR := hid (Blk.new w 30 (rcells (now, ns, os) g ⟨A, n, k, B, m, d, D, kd, Q, nq, kq⟩))
  have bx := below_box (w.alloc (.cells (rcells (now, ns, os) g ⟨A, n, k, B, m, d, D, kd, Q, nq, kq⟩) 30)) (.cells #[.func (.func 54) #[] #[ptr w.heap.size]] 96)
  replace HR := hid (HR.out.step bx); replace PR := hid (PR.out.step bx); replace HB := hid (below_then HB.out bx)
  clear bx
  have PF := hid (Blk.new2 w 96 #[.func (.func 54) #[] #[ptr w.heap.size]] (.cells (rcells (now, ns, os) g ⟨A, n, k, B, m, d, D, kd, Q, nq, kq⟩) 30))
  have hmf : ∀ (fn : Fn) (first cap : Array Value) (w : World), (Instr.makeFunc fn first cap).run Tryz.prog w = .ok (.func fn first cap) w := fun _ _ _ _ => rfl
  have P1 := hid (Blk.new w 30 (rcells (now, ns, os) g ⟨A, n, k, B, m, d, D, kd, Q, nq, kq⟩))
  obtain ⟨z0, z1, z2, z3, z4, z5, z6, z7, zf⟩ := P1.out.cells8
  go_enter Tryz.func19, Tryz.ntmps19
  go_upto_region 4 with fail
  clear z0 z1 z2 z3 z4 z5 z6 z7 zf hmf P1
  generalize (w.alloc (.cells (rcells (now, ns, os) g ⟨A, n, k, B, m, d, D, kd, Q, nq, kq⟩) 30)).alloc (.cells #[.func (.func 54) #[] #[ptr w.heap.size]] 96) = W0 at *
  obtain ⟨y00, y01, y02, y03, y04, y05, y06, y07, yf0⟩ := PR.out.cells8
  go_wp2_with fail
  clear y00 y01 y02 y03 y04 y05 y06 y07 yf0
  by_cases h1 : Good now ns os
  rotate_left
  ·skip
   refine (check_bad now A n k B m d ns os _ HR.out.rd h1).mono ?_
   rintro e w1 ⟨rfl, hb⟩
   replace HR := hid (HR.out.step hb); replace PR := hid (PR.out.step hb); replace PF := hid (PF.out.step hb); replace HB := hid (below_then HB.out hb)
   clear hb
   have E := hid (NO.out (fun h => h1 h.1))
   clear h1
   go_wp2
   go_ret
   exact ⟨ret_int E.out.symm, HB.out⟩
  refine (check_good now A n k B m d ns os _ HR.out.rd h1).mono ?_
  rintro e w1 ⟨rfl, hb⟩
  replace HR := hid (HR.out.step hb); replace PR := hid (PR.out.step hb); replace PF := hid (PF.out.step hb); replace HB := hid (below_then HB.out hb)
  clear hb
  have H1 := hid h1
  clear h1
  obtain ⟨y00, y01, y02, y03, y04, y05, y06, y07, yf0⟩ := PR.out.cells8
  go_wp2_with fail
  clear y00 y01 y02 y03 y04 y05 y06 y07 yf0
  refine (gcheck_any g D g.nd.length kd 0 _ (HR.out.gd) (by have := HR.out.gl; omega)).mono ?_
  rintro e w2 ⟨rfl, hb⟩
  replace HR := hid (HR.out.step hb); replace PR := hid (PR.out.step hb); replace PF := hid (PF.out.step hb); replace HB := hid (below_then HB.out hb)
  clear hb
  by_cases h2 : gchkC g = 0
  rotate_left
  ·skip
   have E := hid (NO.out (fun h => h2 h.2.1))
   have h2b : (gchkC g == 0) = false := by simpa using h2
   clear h2
   go_wp2
   go_ret
   exact ⟨ret_int E.out.symm, HB.out⟩
  have H2 := hid h2
  rw [h2]
  clear h2
  by_cases h3 : g.nd.length = n
  rotate_left
  ·skip
   have E := hid (NO.out (fun h => h3 (by rw [h.2.2.1]; exact hl1.out)))
   have h3b : ((g.nd.length : Int) != (n : Int)) = true := by simp; omega
   clear h3
   obtain ⟨y00, y01, y02, y03, y04, y05, y06, y07, yf0⟩ := PR.out.cells8
   go_wp2
   go_ret
   exact ⟨ret_int E.out.symm, HB.out⟩
  have H3 := hid h3
  have h3b : ((g.nd.length : Int) != (n : Int)) = false := by rw [h3]; simp
  clear h3
  by_cases h4 : nq = n
  rotate_left
  ·skip
   have E := hid (NO.out (fun h => h4 (by have := h.2.2.2.1; have h5 := hl1.out; have h6 := hl3.out; dsimp only at this h5 h6; omega)))
   have h4b : ((nq : Int) != (n : Int)) = true := by simp; omega
   clear h4
   obtain ⟨y00, y01, y02, y03, y04, y05, y06, y07, yf0⟩ := PR.out.cells8
   go_wp2
   go_ret
   exact ⟨ret_int E.out.symm, HB.out⟩
  have H4 := hid h4
  have h4b : ((nq : Int) != (n : Int)) = false := by rw [h4]; simp
  clear h4
  obtain ⟨y00, y01, y02, y03, y04, y05, y06, y07, yf0⟩ := PR.out.cells8
  go_wp2_with fail
  clear h3b h4b y00 y01 y02 y03 y04 y05 y06 y07 yf0
  refine (all_qe Q nq kq es 55 #[ptr w.heap.size, ptr (w.heap.size + 1)] (rightQ g) w2 HR.out.qs (by have := HR.out.ql; dsimp only at this; omega) (enters_of Tryz.func55 (by kernel_rfl) rfl) (fun x W hx hbW => rightq_any x w.heap.size (w.heap.size + 1) (now, ns, os) g ⟨A, n, k, B, m, d, D, kd, Q, nq, kq⟩ W ((HR.out.qe x hx).step hbW) (PR.out.step hbW) (PF.out.step hbW) HR.out.gi)).mono ?_
  rintro e w3 ⟨rfl, hb⟩
  replace HR := hid (HR.out.step hb); replace PR := hid (PR.out.step hb); replace PF := hid (PF.out.step hb); replace HB := hid (below_then HB.out hb)
  clear hb
  obtain ⟨q, hq⟩ : ∃ q, q = es.all (rightQ g) := ⟨_, rfl⟩
  have HQ := hid hq
  rw [← hq]
  clear hq
  rcases q with _ | _
  · have E := hid (NO.out (fun h => by have h5 := h.2.2.2.2; rw [← HQ.out] at h5; cases h5))
    go_wp2
    go_ret
    exact ⟨ret_int E.out.symm, HB.out⟩
  · have E := hid (YES.out ⟨H1.out, H2.out, by have h5 := hl1.out; have h6 := H3.out; dsimp only at h5 ⊢; omega, by have h5 := hl1.out; have h6 := H4.out; have h7 := hl3.out; dsimp only at h5 h7 ⊢; omega, HQ.out.symm⟩)
    go_wp2
    go_ret
    exact ⟨ret_int E.out.symm, HB.out⟩
end Go.Proofs.YtfipdoofgbjbjaaGreat

/- package rcu: tries. No condition but sizes, and that numbers are of their kinds. -/
namespace Go.Proofs.YtfipdoofgbjbjaaGreat
open Go.RowKit
attribute [local go_sem] Oper.semAt_some
theorem rneed_yes (e : Int) (w : World) : Calls Tryz.prog 46 #[.bool true, .int .i64 e] w fun x w' => x = .returned (.tuple #[]) ∧ w' = w := by
  go_enter Tryz.func46, Tryz.ntmps46
  go_wp2
  go_end0
  exact ⟨rfl, rfl⟩
theorem rneed_no (e : Int) (w : World) : Calls Tryz.prog 46 #[.bool false, .int .i64 e] w fun x w' => x = leaves e ∧ w' = w := by
  go_enter Tryz.func46, Tryz.ntmps46
  go_wp2
  exact ⟨rfl, rfl, rfl⟩
theorem info_que : (Tryz.prog.info? 58).map (fun i => (i.zero, i.size, i.bytes)) = some (some (.agg #[.slice none 0 0, .int .u64 0]), 2, 32) := by kernel_rfl
theorem encQ_one (y : Qe) (j : Nat) (_ : j < 2) : (encQ y j).oneCell' = true := by
  unfold encQ; split <;> rfl
/-- what queues hold, wherever they lie -/
def ql (es : List Qe) : List (List Cb × Int) := es.map fun x => (x.l, x.o)
@[reducible] def ccells (s : St) (g : Gr) (a : Ra) (is what : Int) (R : Option Addr) (nr kr : Nat) : Array Value := #[.int .i64 s.1, .slice a.A a.n a.k, .slice a.B a.m a.d, .int .i64 g.dn, .int .i64 g.ak, .bool g.on, .slice a.D g.nd.length a.kd, .slice a.Q a.nq a.kq, .int .i64 is, .int .u64 what, .slice R nr kr]
/-- all of it, owned, each row in blocks of its type -/
structure RcT (w : World) (lo : Nat) (s : St) (g : Gr) (es : List Qe) (a : Ra) : Prop where
  ro : Rown w lo a.A a.n a.k a.B a.m a.d s.2.1 s.2.2
  gd : Ow blv w lo 4 a.D g.nd.length a.kd g.nd
  qs : Om 2 encQ w lo 58 a.Q a.nq a.kq es
  qe : ∀ x ∈ es, Om 2 encC w lo 60 x.A x.n x.c x.l ∧ x.n ≤ 1000
theorem RcT.step {w w' : World} {lo : Nat} {s : St} {g : Gr} {es : List Qe} {a : Ra} (h : RcT w lo s g es a) (hb : Below w.heap.size w w') : RcT w' lo s g es a :=
  ⟨h.ro.step hb, h.gd.step hb, h.qs.step hb, fun x hx => ⟨(h.qe x hx).1.step hb, (h.qe x hx).2⟩⟩
theorem Rown.keptM' {α : Type} {sz : Nat} {enc : α → Nat → Value} {xs : List α} {w w' : World} {lo lo2 n c m d k cl : Nat} {e : TypeId} {A B L : Option Addr} {ns os : List Int} (h : Rown w lo A n c B m d ns os) (ho : Om sz enc w lo2 e L k cl xs) (h1 : 3 ≠ e) (hg : w.grownBy w' (Value.slice L k cl).ownBlock) : Rown w' lo A n c B m d ns os :=
  ⟨h.oa.keptM ho h1 hg, h.ob.keptM ho h1 hg, h.apart, h.hn, h.hm⟩
theorem Rown.keptR {w w' : World} {lo n c m d g : Nat} {t : TypeId} {A B : Option Addr} {ns os : List Int} {cs : Array Value} (h : Rown w lo A n c B m d ns os) (hb : Blk w g t cs) (hne : t ≠ 3) (hg : w.grownBy w' (some g)) : Rown w' lo A n c B m d ns os :=
  ⟨h.oa.keptR hb hne hg, h.ob.keptR hb hne hg, h.apart, h.hn, h.hm⟩
theorem Om.keptR {α : Type} {sz : Nat} {enc : α → Nat → Value} {w w' : World} {lo n c g : Nat} {e t : TypeId} {A : Option Addr} {xs : List α} {cs : Array Value} (h : Om sz enc w lo e A n c xs) (hb : Blk w g t cs) (hne : t ≠ e) (hg : w.grownBy w' (some g)) : Om sz enc w' lo e A n c xs :=
  h.keptG hg (fun a ha e => h.ne_blk hb hne a ha (Option.some.inj e))
/-- a box of another type is turned -/
theorem RcT.keptR {w w' : World} {lo gb : Nat} {t : TypeId} {cs : Array Value} {s : St} {g : Gr} {es : List Qe} {a : Ra} (h : RcT w lo s g es a) (hb : Blk w gb t cs) (h1 : t ≠ 3) (h2 : t ≠ 4) (h3 : t ≠ 58) (h4 : t ≠ 60) (hg : w.grownBy w' (some gb)) : RcT w' lo s g es a :=
  ⟨h.ro.keptR hb h1 hg, h.gd.keptR hb h2 hg, h.qs.keptR hb h3 hg, fun x hx => ⟨(h.qe x hx).1.keptR hb h4 hg, (h.qe x hx).2⟩⟩
/-- one element, in a block -/
theorem Sm.oneB {α : Type} {sz : Nat} {enc : α → Nat → Value} {d : α} {w : World} {g : Nat} {e : TypeId} {cs : Array Value} {x : α} (h : Blk w g e cs) (hc : ∀ j, j < sz → cs[j]? = some (enc x j)) : Sm sz enc d w 0 w.heap.size (some ⟨g, 0, none⟩) 1 [x] := by
  refine ⟨rfl, fun _ => ⟨g, 0, rfl, Nat.zero_le _, h.lt, fun k hk j hj => ?_⟩⟩
  obtain rfl : k = 0 := by omega
  rw [show 0 + 0 * sz + j = j by omega, h.cell, hc j hj]
  rfl
/-- what tries hands back -/
def RTried (w : World) (q : Nat → Prop) (YES : Nat → Nat → World → Prop) (NO : Int → World → Prop) (x : Ending) (w' : World) : Prop :=
  GrownP q w w' ∧ ((∃ gb, x = .returned (.tuple #[ptr gb, .int .i64 0]) ∧ ∃ l, w.heap.size ≤ l ∧ l ≤ gb ∧ YES l gb w') ∨ ∃ gn c, x = .returned (.tuple #[ptr gn, .int .i64 c]) ∧ NO c w' ∧ w.heap.size ≤ gn ∧ Blk w' gn 78 cpu0)
set_option maxRecDepth 100000 in
set_option maxHeartbeats 8000000 in
theorem rtries_any (s : St) (g : Gr) (es : List Qe) (a : Ra) (F : Nat) (caps : Array Value) (q : Nat → Prop) (YES : Nat → Nat → World → Prop) (NO : Int → World → Prop) (w : World) (hq : ∀ i, q i → i < w.heap.size) (h : RcR w s g es a) (hF : Enters Tryz.prog F)
    (hno : ¬ RcOk s g es → ∀ W, Below w.heap.size w W → NO 240 W)
    (hdo : RcOk s g es → ∀ (w1 : World) (l gc : Nat) (a1 : Ra) (es1 : List Qe), w.heap.size ≤ l → l ≤ gc → Below w.heap.size w w1 → Blk w1 gc 78 (ccells s g a1 0 0 none 0 0) → RcT w1 l s g es1 a1 → ql es1 = ql es →
      Calls Tryz.prog F (#[ptr gc] ++ caps) w1 fun x w2 => GrownP (fun i => q i ∨ l ≤ i) w1 w2 ∧ ((x = .returned (.tuple #[]) ∧ YES l gc w2) ∨ ∃ c, x = leaves c ∧ NO c w2))
    (hst : ∀ (l gb : Nat) (W : World) (p : Addr) (u : Value), YES l gb W → w.heap.size ≤ p.block → p.block < l → YES l gb (W.setCell p u))
    (hsn : ∀ (c : Int) (W W' : World), NO c W → Below w.heap.size W W' → NO c W') :
    Calls Tryz.prog 33 #[rcv s g a, .func (.func F) #[] caps] w (RTried w q YES NO) := by
  have HR := hid h; have HB := hid (Below.refl w.heap.size w); have HDO := hid hdo; have HF := hid hF; have HST := hid hst; have HSN := hid hsn; have HQ := hid hq; have HNO := hid hno
  clear h hdo hF hst hsn hq hno
  obtain ⟨A, n, k, B, m, d, D, kd, Q, nq, kq⟩ := a
  obtain ⟨now, ns, os⟩ := s
  have hmf : ∀ (fn : Fn) (first cap : Array Value) (w : World), (Instr.makeFunc fn first cap).run Tryz.prog w = .ok (.func fn first cap) w := fun _ _ _ _ => rfl
  have hQ3 := hid HR.out.qs.len
  have bx := below_box w (.cells (rcells (now, ns, os) g ⟨A, n, k, B, m, d, D, kd, Q, nq, kq⟩) 30)
  replace HR := hid (HR.out.step bx); replace HB := hid (below_then HB.out bx)
  clear bx
  have P2 := hid (Blk.new w 30 (rcells (now, ns, os) g ⟨A, n, k, B, m, d, D, kd, Q, nq, kq⟩))
  have bx := below_box (w.alloc (.cells (rcells (now, ns, os) g ⟨A, n, k, B, m, d, D, kd, Q, nq, kq⟩) 30)) (.cells #[.pointer none] 72)
  replace HR := hid (HR.out.step bx); replace P2 := hid (P2.out.step bx); replace HB := hid (below_then HB.out bx)
  clear bx
  have P4 := hid (Blk.new2 w 72 #[.pointer none] (.cells (rcells (now, ns, os) g ⟨A, n, k, B, m, d, D, kd, Q, nq, kq⟩) 30))
  have bx := below_box ((w.alloc (.cells (rcells (now, ns, os) g ⟨A, n, k, B, m, d, D, kd, Q, nq, kq⟩) 30)).alloc (.cells #[.pointer none] 72)) (.cells #[.int .i64 0] 39)
  replace HR := hid (HR.out.step bx); replace P2 := hid (P2.out.step bx); replace P4 := hid (P4.out.step bx); replace HB := hid (below_then HB.out bx)
  clear bx
  have P5 := hid (Blk.new3 w 39 #[.int .i64 0] (.cells (rcells (now, ns, os) g ⟨A, n, k, B, m, d, D, kd, Q, nq, kq⟩) 30) (.cells #[.pointer none] 72))
  go_enter_defers Tryz.func33, Tryz.ntmps33
  go_upto_region 2 with fail
  have hz0 := hid (show (((w.alloc (.cells (rcells (now, ns, os) g ⟨A, n, k, B, m, d, D, kd, Q, nq, kq⟩) 30)).alloc (.cells #[.pointer none] 72)).alloc (.cells #[.int .i64 0] 39)).heap.size = w.heap.size + 3 by simp)
  generalize ((w.alloc (.cells (rcells (now, ns, os) g ⟨A, n, k, B, m, d, D, kd, Q, nq, kq⟩) 30)).alloc (.cells #[.pointer none] 72)).alloc (.cells #[.int .i64 0] 39) = W0 at *
  have HZ := hz0
  clear hmf
  obtain ⟨y00, y01, y02, y03, y04, y05, y06, y07, yf0⟩ := P2.out.cells8
  go_wp2_with fail
  clear y00 y01 y02 y03 y04 y05 y06 y07 yf0
  refine (rcheck_any (now, ns, os) g es ⟨A, n, k, B, m, d, D, kd, Q, nq, kq⟩ _ HR.out).mono ?_
  rintro e w1 ⟨rfl, hb⟩
  have HS1 := hid hb.size
  replace HR := hid (HR.out.step hb); replace P2 := hid (P2.out.step hb); replace P4 := hid (P4.out.step hb); replace P5 := hid (P5.out.step hb); replace HB := hid (below_then HB.out hb)
  clear hb
  by_cases hok : RcOk (now, ns, os) g es
  rotate_left
  ·skip
   rw [show rcheckC (now, ns, os) g es = 240 from if_neg hok]
   have HN := hid (HNO.out hok)
   clear hok
   go_wp2_with fail
   refine (rneed_no 240 _).mono ?_
   rintro x v1 ⟨rfl, rfl⟩
   have HZZ := hid (show w.heap.size + 3 ≤ v1.heap.size by have := HZ.out; have := HS1.out; omega)
   refine leaves_cons (f := 71) (args := #[ptr (w.heap.size + 1), ptr (w.heap.size + 1 + 1)]) (by simp) (by simp [go_sem]) ?_
   refine (rcatch_panicking (w.heap.size + 1) (w.heap.size + 1 + 1) w.heap.size 240 _ _ v1 P4.out P5.out (by omega) (by omega) HB.out.size).mono ?_
   rintro x u' w'' ⟨rfl, rfl, gn, hgn, hbb, hbn, hb4, hb5⟩
   have c4 := hb4.cell 0
   have c5 := hb5.cell 0
   simp [Leaves, settle, results, Tryz.results33, go_sem, c4, c5]
   have hfin := HB.out.trans hbb
   exact ⟨.mono (.ofBelow hfin) (fun _ h => h), .inr ⟨_, _, rfl, HN.out _ hfin, by have := HZZ.out; omega, hbn⟩⟩
  rw [show rcheckC (now, ns, os) g es = 0 from if_pos hok]
  have HOK := hid hok
  clear hok HNO
  go_wp2_with fail
  refine (rneed_yes 240 _).mono ?_
  rintro x v1 ⟨rfl, rfl⟩
  have hv := hid (show w.heap.size + 3 ≤ v1.heap.size by have := HZ.out; have := HS1.out; omega)
  have HVL := hid (Below.refl v1.heap.size v1)
  have XHR := HR; have XP2 := P2; have XP4 := P4; have XP5 := P5; have XHB := HB
  clear HR P4 P5 HB
  obtain ⟨y00, y01, y02, y03, y04, y05, y06, y07, yf0⟩ := P2.out.cells8
  have bx := below_box v1 (.cells #[.int .i64 0, .slice none 0 0, .slice none 0 0, .int .i64 g.dn, .int .i64 g.ak, .bool g.on, .slice D g.nd.length kd, .slice none 0 0] 30)
  replace HVL := hid (below_then HVL.out bx)
  clear bx
  have PO := hid (Blk.new v1 30 #[.int .i64 0, .slice none 0 0, .slice none 0 0, .int .i64 g.dn, .int .i64 g.ak, .bool g.on, .slice D g.nd.length kd, .slice none 0 0])
  go_upto_region 4 with fail
  clear P2 y00 y01 y02 y03 y04 y05 y06 y07 yf0
  have hz3w := hid (show (v1.alloc (.cells #[.int .i64 0, .slice none 0 0, .slice none 0 0, .int .i64 g.dn, .int .i64 g.ak, .bool g.on, .slice D g.nd.length kd, .slice none 0 0] 30)).heap.size = v1.heap.size + 1 by simp)
  generalize v1.alloc (.cells #[.int .i64 0, .slice none 0 0, .slice none 0 0, .int .i64 g.dn, .int .i64 g.ak, .bool g.on, .slice D g.nd.length kd, .slice none 0 0] 30) = W3 at *
  have bx := (Below.refl W3.heap.size W3).drew
  replace PO := hid (PO.out.step bx); replace HVL := hid (below_then HVL.out bx)
  clear bx
  have hszd := hid (show W3.drew.heap.size = W3.heap.size from rfl)
  refine wp_region_noPanic ?_
  refine wp_region_held_tail 12 (fun W' : World => W'.cell? ⟨w.heap.size, 0, none⟩ = some (.int .i64 now) ∧ W'.cell? ⟨w.heap.size, 1, none⟩ = some (.slice A n k) ∧ W'.cell? ⟨w.heap.size, 2, none⟩ = some (.slice B m d)) #[false, false, false, false, false, false, false, false, false, false, false, false, false, false] (by kernel_rfl) ⟨(XP2.out.below HVL.out XP2.out.lt).cells8.1, (XP2.out.below HVL.out XP2.out.lt).cells8.2.1, (XP2.out.below HVL.out XP2.out.lt).cells8.2.2.1⟩ (by kernel_rfl) (by kernel_rfl) (fun hS => ?_)
  generalize W3.drew = Wd at *
  refine tkT 0 hS ?_
  refine tkT 1 hS ?_
  refine tkT 2 hS ?_
  refine tkT 3 hS ?_
  refine tkT 4 hS ?_
  refine tkT 5 hS ?_
  refine tkT 7 hS ?_
  refine tkT 8 hS ?_
  refine tkT 9 hS ?_
  refine rdyT [6] (csyT (fun K hK => ?_) AllReadyT.nil)
  go_simp
  refine (clone_int A n k 0 ns _ ((XHR.out.rd.hx.below HVL.out (Nat.le_refl _)).mono (Nat.le_refl _) HVL.out.size) (by have := XHR.out.rd.hn; dsimp only at this; omega)).mono ?_
  rintro e w6 ⟨A6, c6, rfl, ho, hb⟩
  have hsz0 := hid (show Wd.heap.size ≤ w6.heap.size from hb.size)
  replace PO := hid (PO.out.step hb); replace HVL := hid (below_then HVL.out hb)
  clear hb
  have O6 := hid ho; have O6b := hid ho; have HZ6 := hid HVL.out.size
  go_wp2_with fail
  clear hS
  refine kyT hK ⟨(XP2.out.below HVL.out XP2.out.lt).cells8.1, (XP2.out.below HVL.out XP2.out.lt).cells8.2.1, (XP2.out.below HVL.out XP2.out.lt).cells8.2.2.1⟩ fun hS => ?_
  clear hK K
  refine rdyT [10] (csyT (fun K hK => ?_) AllReadyT.nil)
  go_simp
  refine (clone_int B m d 0 os _ ((XHR.out.rd.hy.below HVL.out (Nat.le_refl _)).mono (Nat.le_refl _) HVL.out.size) (by have := XHR.out.rd.hm; dsimp only at this; omega)).mono ?_
  rintro e w10 ⟨A10, c10, rfl, ho, hb⟩
  have hsz1 := hid (show w6.heap.size ≤ w10.heap.size from hb.size)
  replace PO := hid (PO.out.step hb); replace O6 := hid (O6.out.step hb); replace HVL := hid (below_then HVL.out hb)
  clear hb
  have O10 := hid ho; have O10b := hid ho
  go_wp2_with fail
  clear hS
  refine kyT hK ⟨(XP2.out.below HVL.out XP2.out.lt).cells8.1, (XP2.out.below HVL.out XP2.out.lt).cells8.2.1, (XP2.out.below HVL.out XP2.out.lt).cells8.2.2.1⟩ fun hS => ?_
  clear hK K
  refine tkT 11 hS ?_
  refine wpAnyT_done (by kernel_rfl) ?_
  simp only [List.drop_succ_cons, List.drop_zero]
  clear hS
  obtain ⟨y00, y01, y02, y03, y04, y05, y06, y07, yf0⟩ := PO.out.cells8
  go_wp2_with fail
  refine NoPanic.normal ?_
  clear y00 y01 y02 y03 y04 y05 y06 y07 yf0
  have hgr := grown_set (grown_set (grown_set (World.grownBy.refl w10 (some v1.heap.size)) 0 (.int .i64 now)) 1 (.slice A6 n c6)) 2 (.slice A10 m c10)
  have hro := hid (show Rown (((w10.setCell ⟨v1.heap.size, 0, none⟩ (.int .i64 now)).setCell ⟨v1.heap.size, 1, none⟩ (.slice A6 n c6)).setCell ⟨v1.heap.size, 2, none⟩ (.slice A10 m c10)) v1.heap.size A6 n c6 A10 m c10 ns os from ⟨(O6.out.keptR PO.out (by decide) hgr).mono (by have := hszd.out; have := hz3w.out; omega), (O10.out.keptR PO.out (by decide) hgr).mono HZ6.out, fun ga gq h1 h2 e => by subst e; obtain ⟨_, cs5, q5⟩ := O6b.out.blk _ h1; have := q5.lt; have := (O10b.out.blk _ h2).1; omega, XHR.out.rd.hn, XHR.out.rd.hm⟩)
  replace HVL := hid (HVL.out.grown hgr HVL.out.size (fun r e => by cases e; exact Nat.le_refl _))
  replace PO := hid (show Blk (((w10.setCell ⟨v1.heap.size, 0, none⟩ (.int .i64 now)).setCell ⟨v1.heap.size, 1, none⟩ (.slice A6 n c6)).setCell ⟨v1.heap.size, 2, none⟩ (.slice A10 m c10)) v1.heap.size 30 #[.int .i64 now, .slice A6 n c6, .slice A10 m c10, .int .i64 g.dn, .int .i64 g.ak, .bool g.on, .slice D g.nd.length kd, .slice none 0 0] from ((PO.out.setCell 0 _).setCell 1 _).setCell 2 _)
  have RO := hid hro
  clear hgr hro O6 O10 O6b O10b hszd HZ6
  generalize ((w10.setCell ⟨v1.heap.size, 0, none⟩ (.int .i64 now)).setCell ⟨v1.heap.size, 1, none⟩ (.slice A6 n c6)).setCell ⟨v1.heap.size, 2, none⟩ (.slice A10 m c10) = W4 at *
  have P2a := hid (XP2.out.below HVL.out XP2.out.lt)
  obtain ⟨y00, y01, y02, y03, y04, y05, y06, y07, yf0⟩ := P2a.out.cells8
  go_wp2_with fail
  clear P2a y00 y01 y02 y03 y04 y05 y06 y07 yf0
  refine (clone_bool D g.nd.length kd 0 g.nd W4 ((XHR.out.gd.below HVL.out (Nat.le_refl _)).mono (Nat.le_refl _) HVL.out.size) (by have := XHR.out.gl; omega)).mono ?_
  rintro e W5 ⟨A7, c7, rfl, ho, hb⟩
  have DO := hid (ho.mono HVL.out.size)
  replace PO := hid (PO.out.step hb); replace RO := hid (RO.out.step hb); replace HVL := hid (below_then HVL.out hb)
  clear ho hb
  have P2a := hid (XP2.out.below HVL.out XP2.out.lt)
  obtain ⟨y00, y01, y02, y03, y04, y05, y06, y07, yf0⟩ := PO.out.cells8
  go_upto_region 6 with fail
  clear P2a y00 y01 y02 y03 y04 y05 y06 y07 yf0
  have hgr := grown_set (World.grownBy.refl W5 (some v1.heap.size)) 6 (.slice A7 g.nd.length c7)
  replace RO := hid (RO.out.keptR PO.out (by decide) hgr); replace DO := hid (DO.out.keptR PO.out (by decide) hgr); replace HVL := hid (HVL.out.grown hgr HVL.out.size (fun r e => by cases e; exact Nat.le_refl _))
  replace PO := hid (show Blk (W5.setCell ⟨v1.heap.size, 6, none⟩ (.slice A7 g.nd.length c7)) v1.heap.size 30 #[.int .i64 now, .slice A6 n c6, .slice A10 m c10, .int .i64 g.dn, .int .i64 g.ak, .bool g.on, .slice A7 g.nd.length c7, .slice none 0 0] from PO.out.setCell 6 _)
  clear hgr
  generalize W5.setCell ⟨v1.heap.size, 6, none⟩ (.slice A7 g.nd.length c7) = W6 at *
  have P2a := hid (XP2.out.below HVL.out XP2.out.lt)
  obtain ⟨y00, y01, y02, y03, y04, y05, y06, y07, yf0⟩ := P2a.out.cells8
  go_wp2_with fail
  clear P2a y00 y01 y02 y03 y04 y05 y06 y07 yf0
  go_loopw [8, 39] (fun _ i wr => ∃ (j : Nat) (Qo : Option Addr) (cq : Nat) (ej : List Qe), j ≤ nq ∧ i = .int .i64 j ∧ Below v1.heap.size v1 wr ∧ Blk wr v1.heap.size 30 #[.int .i64 now, .slice A6 n c6, .slice A10 m c10, .int .i64 g.dn, .int .i64 g.ak, .bool g.on, .slice A7 g.nd.length c7, .slice Qo j cq] ∧ RcT wr v1.heap.size (now, ns, os) g ej ⟨A6, n, c6, A10, m, c10, A7, c7, Qo, j, cq⟩ ∧ ql ej = (ql es).take j) (fun _ i _ => nq - (intOf i).toNat)
  case atStart => exact ⟨0, none, 0, [], Nat.zero_le _, rfl, HVL.out, PO.out, ⟨RO.out, DO.out, Om.nil _ _ _, fun _ h => (by cases h)⟩, rfl⟩
  case round =>
    clear HVL PO RO DO
    obtain ⟨j, Qo, cq, ej, hj, rfl, h1, h2, h3, h4⟩ := hrel
    have HVL := hid h1; have PO := hid h2; have RT := hid h3; have HQL := hid h4
    clear h1 h2 h3 h4
    by_cases hjn : j < nq
    rotate_left
    ·skip
     obtain rfl : j = nq := by omega
     have hnn : ¬ ((j : Int) < (j : Int)) := by omega
     have HQL2 := hid (show ql ej = ql es by rw [HQL.out, List.take_of_length_le (by unfold ql; rw [List.length_map, hQ3.out]; exact Nat.le_refl _)])
     clear HQL
     have hvr := hid (show v1.heap.size < wr.heap.size from PO.out.lt)
     have P4a := hid ((XP4.out.below HVL.out XP4.out.lt).alloc (.cells #[.int .i64 now, .slice A6 n c6, .slice A10 m c10, .int .i64 g.dn, .int .i64 g.ak, .bool g.on, .slice A7 g.nd.length c7, .slice Qo j cq, .int .i64 0, .int .u64 0, .slice none 0 0] 78))
     have P5a := hid ((XP5.out.below HVL.out XP5.out.lt).alloc (.cells #[.int .i64 now, .slice A6 n c6, .slice A10 m c10, .int .i64 g.dn, .int .i64 g.ak, .bool g.on, .slice A7 g.nd.length c7, .slice Qo j cq, .int .i64 0, .int .u64 0, .slice none 0 0] 78))
     obtain ⟨y00, y01, y02, y03, y04, y05, y06, y07, yf0⟩ := PO.out.cells8
     obtain ⟨y10, yf1⟩ := P4a.out.cells1
     go_upto_region 12 with fail
     clear y00 y01 y02 y03 y04 y05 y06 y07 yf0 y10 yf1
     have hgr := grown_set (World.grownBy.refl (wr.alloc (.cells #[.int .i64 now, .slice A6 n c6, .slice A10 m c10, .int .i64 g.dn, .int .i64 g.ak, .bool g.on, .slice A7 g.nd.length c7, .slice Qo j cq, .int .i64 0, .int .u64 0, .slice none 0 0] 78)) (some (w.heap.size + 1))) 0 (.pointer (some ⟨wr.heap.size, 0, none⟩))
     have PC := hid (show Blk ((wr.alloc (.cells #[.int .i64 now, .slice A6 n c6, .slice A10 m c10, .int .i64 g.dn, .int .i64 g.ak, .bool g.on, .slice A7 g.nd.length c7, .slice Qo j cq, .int .i64 0, .int .u64 0, .slice none 0 0] 78)).setCell ⟨w.heap.size + 1, 0, none⟩ (.pointer (some ⟨wr.heap.size, 0, none⟩))) wr.heap.size 78 (ccells (now, ns, os) g ⟨A6, n, c6, A10, m, c10, A7, c7, Qo, j, cq⟩ 0 0 none 0 0) from (Blk.new wr 78 #[.int .i64 now, .slice A6 n c6, .slice A10 m c10, .int .i64 g.dn, .int .i64 g.ak, .bool g.on, .slice A7 g.nd.length c7, .slice Qo j cq, .int .i64 0, .int .u64 0, .slice none 0 0]).far (p := ⟨w.heap.size + 1, 0, none⟩) (by have := hv.out; have := hvr.out; simp; omega) (.pointer (some ⟨wr.heap.size, 0, none⟩)))
     have RT2 := hid ((RT.out.step (below_box wr (.cells #[.int .i64 now, .slice A6 n c6, .slice A10 m c10, .int .i64 g.dn, .int .i64 g.ak, .bool g.on, .slice A7 g.nd.length c7, .slice Qo j cq, .int .i64 0, .int .u64 0, .slice none 0 0] 78))).keptR P4a.out (by decide) (by decide) (by decide) (by decide) hgr)
     have P4 := hid (show Blk ((wr.alloc (.cells #[.int .i64 now, .slice A6 n c6, .slice A10 m c10, .int .i64 g.dn, .int .i64 g.ak, .bool g.on, .slice A7 g.nd.length c7, .slice Qo j cq, .int .i64 0, .int .u64 0, .slice none 0 0] 78)).setCell ⟨w.heap.size + 1, 0, none⟩ (.pointer (some ⟨wr.heap.size, 0, none⟩))) (w.heap.size + 1) 72 #[ptr wr.heap.size] from P4a.out.setCell 0 _)
     have P5 := hid (P5a.out.far (p := ⟨w.heap.size + 1, 0, none⟩) (by simp) (.pointer (some ⟨wr.heap.size, 0, none⟩)))
     have HB := hid (((below_then XHB.out HVL.out).alloc (below_then XHB.out HVL.out).size (.cells #[.int .i64 now, .slice A6 n c6, .slice A10 m c10, .int .i64 g.dn, .int .i64 g.ak, .bool g.on, .slice A7 g.nd.length c7, .slice Qo j cq, .int .i64 0, .int .u64 0, .slice none 0 0] 78)).setCell (p := ⟨w.heap.size + 1, 0, none⟩) (by simp) (.pointer (some ⟨wr.heap.size, 0, none⟩)))
     clear P4a P5a PO RT HVL hgr
     generalize ((wr.alloc (.cells #[.int .i64 now, .slice A6 n c6, .slice A10 m c10, .int .i64 g.dn, .int .i64 g.ak, .bool g.on, .slice A7 g.nd.length c7, .slice Qo j cq, .int .i64 0, .int .u64 0, .slice none 0 0] 78)).setCell ⟨w.heap.size + 1, 0, none⟩ (.pointer (some ⟨wr.heap.size, 0, none⟩))) = W5 at *
     have hEn := HF.out
     obtain ⟨y00, yf0⟩ := P4.out.cells1
     go_wp2_with fail
     clear y00 yf0 hEn
     rw [HF.out (#[ptr wr.heap.size] ++ caps) W5]
     rw [Oper.upon_enter]
     refine (HDO.out HOK.out W5 v1.heap.size wr.heap.size ⟨A6, n, c6, A10, m, c10, A7, c7, Qo, j, cq⟩ ej (by have := hv.out; omega) (by have := hvr.out; omega) HB.out PC.out RT2.out HQL2.out).mono ?_
     rintro x W6 ⟨hb, ⟨rfl, hy⟩ | ⟨c, rfl, hno⟩⟩
     ·skip
      have P4a := hid (P4.out.keptP hb (by rintro (h | h); exact absurd (HQ.out _ h) (by omega); exact absurd h (by have := hv.out; omega)))
      have P5a := hid (P5.out.keptP hb (by rintro (h | h); exact absurd (HQ.out _ h) (by omega); exact absurd h (by have := hv.out; omega)))
      have HBa := hid (GrownP.cut HB.out hb (show w.heap.size ≤ v1.heap.size by have := hv.out; omega))
      have HYa := hid hy
      clear hy hb P4 P5 PC HB HDO RT2
      have c4 := P4a.out.cell 0
      have f4 := P4a.out.frozen 0
      have c5 := P5a.out.cell 0
      have f5 := P5a.out.frozen 0
      go_upto_region 13 with fail
      go_wp2_with fail
      clear c4 f4 c5 f5
      have P4b := hid ((P4a.out.setCell 0 (ptr wr.heap.size)).far (p := ⟨w.heap.size + 1 + 1, 0, none⟩) (by simp) (.int .i64 0))
      have P5b := hid ((P5a.out.far (p := ⟨w.heap.size + 1, 0, none⟩) (by simp) (ptr wr.heap.size)).setCell 0 (.int .i64 0))
      have HBb := hid ((HBa.out.setCell (p := ⟨w.heap.size + 1, 0, none⟩) (by simp) (ptr wr.heap.size)).setCell (p := ⟨w.heap.size + 1 + 1, 0, none⟩) (by simp; omega) (.int .i64 0))
      have HYb := hid (HST.out _ _ _ ⟨w.heap.size + 1 + 1, 0, none⟩ (.int .i64 0) (HST.out _ _ _ ⟨w.heap.size + 1, 0, none⟩ (ptr wr.heap.size) HYa.out (by simp) (by have := hv.out; simp; omega)) (by simp; omega) (by have := hv.out; simp; omega))
      clear P4a P5a HBa HYa
      generalize (W6.setCell ⟨w.heap.size + 1, 0, none⟩ (ptr wr.heap.size)).setCell ⟨w.heap.size + 1 + 1, 0, none⟩ (.int .i64 0) = W7 at *
      refine leaves_cons (f := 71) (args := #[ptr (w.heap.size + 1), ptr (w.heap.size + 1 + 1)]) (by simp) (by simp [go_sem]) ?_
      refine (rcatch_idle _ _ _).mono ?_
      rintro x u' w'' ⟨rfl, rfl, rfl⟩
      have c4 := P4b.out.cell 0
      have c5 := P5b.out.cell 0
      simp [Leaves, settle, results, Tryz.results33, go_sem, c4, c5]
      exact ⟨HBb.out, .inl ⟨_, rfl, _, by have := hv.out; omega, by have := hvr.out; omega, HYb.out⟩⟩
     ·skip
      have P4a := hid (P4.out.keptP hb (by rintro (h | h); exact absurd (HQ.out _ h) (by omega); exact absurd h (by have := hv.out; omega)))
      have P5a := hid (P5.out.keptP hb (by rintro (h | h); exact absurd (HQ.out _ h) (by omega); exact absurd h (by have := hv.out; omega)))
      have HBa := hid (GrownP.cut HB.out hb (show w.heap.size ≤ v1.heap.size by have := hv.out; omega))
      have HNOa := hid hno
      clear hno hb P4 P5 PC HB HDO RT2
      refine leaves_cons (f := 71) (args := #[ptr (w.heap.size + 1), ptr (w.heap.size + 1 + 1)]) (by simp) (by simp [go_sem]) ?_
      refine (rcatch_panicking (w.heap.size + 1) (w.heap.size + 1 + 1) w.heap.size c _ _ W6 P4a.out P5a.out (by omega) (by omega) HBa.out.size).mono ?_
      rintro x u' w'' ⟨rfl, rfl, gn, hgn, hbb, hbn, hb4, hb5⟩
      have HN := hid (HSN.out _ _ _ HNOa.out hbb)
      have c4 := hb4.cell 0
      have c5 := hb5.cell 0
      simp [Leaves, settle, results, Tryz.results33, go_sem, c4, c5]
      exact ⟨HBa.out.then_ hbb, .inr ⟨_, _, rfl, HN.out, by have := HBa.out.size; omega, hbn⟩⟩
    have hji : (j : Int) < (nq : Int) := by omega
    obtain ⟨b, off, hbq, _, hbh, hc⟩ := XHR.out.qs.row (by dsimp only; omega)
    obtain ⟨x, hx⟩ : ∃ x, x = es[j]?.getD zQe := ⟨_, rfl⟩
    have c0 := hc j hjn 0 (by omega)
    have c1 := hc j hjn 1 (by omega)
    rw [← hx] at c0 c1
    have HQE := hid (XHR.out.qe x (by rw [hx, List.getElem?_eq_getElem (by rw [hQ3.out]; exact hjn)]; exact List.getElem_mem _))
    have HXQ := hid (show (ql es).take (j + 1) = (ql es).take j ++ [(x.l, x.o)] by
      have hlt : j < es.length := by rw [hQ3.out]; exact hjn
      rw [List.take_succ_eq_append_getElem (by unfold ql; rw [List.length_map]; exact hlt), hx, List.getElem?_eq_getElem hlt]; simp [ql])
    obtain ⟨xl, xo, xA, xn, xc⟩ := x
    have f0 : wr.cell? ⟨b, off + j * 2, none⟩ = some (.slice xA xn xc) := by rw [Nat.add_zero] at c0; exact (HVL.out.cell (p := ⟨b, off + j * 2, none⟩) (by show b < _; omega)).trans c0
    have f1 : wr.cell? ⟨b, off + j * 2 + 1, none⟩ = some (.int .u64 xo) := (HVL.out.cell (p := ⟨b, off + j * 2 + 1, none⟩) (by show b < _; omega)).trans c1
    clear hc c0 c1 hx hbh
    dsimp only at hbq
    subst hbq
    have HQB := hid (show ∀ a, Qo = some a → a.block < wr.heap.size from fun a ha => by obtain ⟨_, cs, q⟩ := RT.out.qs.blk a ha; exact q.lt)
    have bx := below_box wr (.cells #[.slice xA xn xc, .int .u64 xo] 58)
    replace PO := hid (PO.out.step bx); replace RT := hid (RT.out.step bx); replace HVL := hid (below_then HVL.out bx)
    clear bx
    have PT := hid (Blk.new wr 58 #[.slice xA xn xc, .int .u64 xo])
    go_upto_region 9 with fail
    clear f0 f1
    have hzr := hid (show (wr.alloc (.cells #[.slice xA xn xc, .int .u64 xo] 58)).heap.size = wr.heap.size + 1 by simp)
    generalize wr.alloc (.cells #[.slice xA xn xc, .int .u64 xo] 58) = W7 at *
    have HVW := hid (show v1.heap.size ≤ wr.heap.size by have := hzr.out; have := PO.out.lt; have := HVL.out.size; omega)
    obtain ⟨i0, hi0, hz00, hz01, hz02⟩ := info_parts info_que
    have bx := (Below.refl W7.heap.size W7).drew
    replace PO := hid (PO.out.step bx); replace RT := hid (RT.out.step bx); replace PT := hid (PT.out.step bx); replace HVL := hid (below_then HVL.out bx)
    clear bx
    have hszd := hid (show W7.drew.heap.size = W7.heap.size from rfl)
    refine wp_region_noPanic ?_
    refine wp_region_held_tail 10 (fun W' : World => W'.cell? ⟨v1.heap.size, 7, none⟩ = some (.slice Qo j cq) ∧ W'.cell? ⟨wr.heap.size, 0, none⟩ = some (.slice xA xn xc) ∧ W'.cell? ⟨wr.heap.size, 1, none⟩ = some (.int .u64 xo)) #[false, false, false, false, false, false, false, false, false, false, false, false] (by kernel_rfl) ⟨PO.out.cells8.2.2.2.2.2.2.2.1, PT.out.cells2.1, PT.out.cells2.2.1⟩ (by kernel_rfl) (by kernel_rfl) (fun hS => ?_)
    generalize W7.drew = Wd at *
    refine tkT 0 hS ?_
    refine tkT 1 hS ?_
    refine tkT 2 hS ?_
    refine tkT 3 hS ?_
    refine tkT 5 hS ?_
    refine tkT 6 hS ?_
    refine rdyT [4] (csyT (fun K hK => ?_) AllReadyT.nil)
    go_simp
    refine (clone_cb xA xn xc 0 xl _ ((HQE.out.1.below (HVL.out) (Nat.le_refl _)).mono (Nat.le_refl _) (HVL.out).size) (by have := HQE.out.2.2.1; dsimp only at this; omega)).mono ?_
    rintro e w4 ⟨A4, c4, rfl, ho, hb⟩
    have hsz0 := hid (show Wd.heap.size ≤ w4.heap.size from hb.size)
    replace PO := hid (PO.out.step hb); replace RT := hid (RT.out.step hb); replace PT := hid (PT.out.step hb); replace HVL := hid (below_then HVL.out hb)
    clear hb
    have O4 := hid (ho.mono (show v1.heap.size ≤ _ by have := HVW.out; have := hzr.out; have := hszd.out; omega))
    clear ho
    go_wp2_with fail
    clear hS
    refine kyT hK ⟨PO.out.cells8.2.2.2.2.2.2.2.1, PT.out.cells2.1, PT.out.cells2.2.1⟩ fun hS => ?_
    clear hK K
    refine tkT 7 hS ?_
    refine rdyT [8] (csyT (fun K hK => ?_) AllReadyT.nil)
    go_simp
    refine named_alloc ?_
    intro Wa8 hbk hb hsz
    have hsz1 := hid hsz
    replace PO := hid (PO.out.step hb); replace RT := hid (RT.out.step hb); replace PT := hid (PT.out.step hb); replace O4 := hid (O4.out.step hb); replace HVL := hid (below_then HVL.out hb)
    have PL := hid hbk
    clear hb hbk hsz
    clear hS
    refine kyT hK ⟨PO.out.cells8.2.2.2.2.2.2.2.1, PT.out.cells2.1, PT.out.cells2.2.1⟩ fun hS => ?_
    clear hK K
    refine rdyT [9] (csyT (fun K hK => ?_) AllReadyT.nil)
    refine step_appm 2 encQ zQe _ rfl _ _ 28 rfl v1.heap.size 58 i0 _ 32 Tryz.underlying28 hi0 hz00 hz01 hz02 rfl (by omega) Qo j cq ej rfl RT.out.qs 0 _ (some ⟨w4.heap.size, 0, none⟩) 1 1 [⟨xl, xo, A4, xn, c4⟩] rfl (Sm.oneB PL.out (fun k hk => by match k, hk with | 0, _ => rfl | 1, _ => rfl)) encQ_one (by have := XHR.out.ql; dsimp only at this; simp only [maxLen]; omega) (by have := XHR.out.ql; dsimp only at this; omega) HVL.out.size ?_
    intro A9 c9 Wc9 hown hgr hat
    have RT9 := hid (show RcT Wc9 v1.heap.size (now, ns, os) g (ej ++ [⟨xl, xo, A4, xn, c4⟩]) ⟨A6, n, c6, A10, m, c10, A7, c7, A9, j + 1, c9⟩ from
      ⟨RT.out.ro.keptM' RT.out.qs (by decide) hgr, RT.out.gd.keptM RT.out.qs (by decide) hgr, hown, fun y hy => by
        rcases List.mem_append.1 hy with hy | hy
        · exact ⟨(RT.out.qe y hy).1.keptM RT.out.qs (by decide) hgr, (RT.out.qe y hy).2⟩
        · obtain rfl := List.mem_singleton.1 hy
          exact ⟨O4.out.keptM RT.out.qs (by decide) hgr, HQE.out.2.2.1⟩⟩)
    replace PO := hid (PO.out.keptM RT.out.qs (by decide) hgr)
    replace PT := hid (PT.out.grown hgr (fun e => by obtain ⟨a, ha, hb⟩ := own_addr e.symm; have := HQB.out a ha; omega))
    replace HVL := hid (HVL.out.grown hgr HVL.out.size (fun r e => RT.out.qs.row_ge r e))
    clear hown hgr hat PL RT O4
    clear hS
    refine kyT hK ⟨PO.out.cells8.2.2.2.2.2.2.2.1, PT.out.cells2.1, PT.out.cells2.2.1⟩ fun hS => ?_
    clear hK K
    refine wpAnyT_done (by kernel_rfl) ?_
    simp only [List.drop_succ_cons, List.drop_zero]
    clear hS
    obtain ⟨y00, y01, y02, y03, y04, y05, y06, y07, yf0⟩ := PO.out.cells8
    go_wp2_with fail
    refine NoPanic.normal ?_
    clear y00 y01 y02 y03 y04 y05 y06 y07 yf0
    have hgr := grown_set (World.grownBy.refl Wc9 (some v1.heap.size)) 7 (.slice A9 (j + 1) c9)
    have RTn := hid (RT9.out.keptR PO.out (by decide) (by decide) (by decide) (by decide) hgr)
    replace HVL := hid (HVL.out.grown hgr HVL.out.size (fun r e => by cases e; exact Nat.le_refl _))
    replace PO := hid (show Blk (Wc9.setCell ⟨v1.heap.size, 7, none⟩ (.slice A9 (j + 1) c9)) v1.heap.size 30 #[.int .i64 now, .slice A6 n c6, .slice A10 m c10, .int .i64 g.dn, .int .i64 g.ak, .bool g.on, .slice A7 g.nd.length c7, .slice A9 (j + 1) c9] from PO.out.setCell 7 _)
    clear hgr RT9
    generalize Wc9.setCell ⟨v1.heap.size, 7, none⟩ (.slice A9 (j + 1) c9) = Wn at *
    have hw1 : IntKind.i64.wrap ((j : Int) + 1) = (j : Int) + 1 := by rw [IntKind.wrap_i64]; have := XHR.out.ql; dsimp only at this; omega
    go_wp2_with fail
    go_roundw
    case rel => exact ⟨j + 1, A9, c9, _, by omega, by go_num, HVL.out, PO.out, RTn.out, by rw [HXQ.out, ← HQL.out]; simp [ql]⟩
    case measure => simp [intOf]; omega
end Go.Proofs.YtfipdoofgbjbjaaGreat

/- package rcu: sure; what a cpu holds. No condition but sizes. -/
namespace Go.Proofs.YtfipdoofgbjbjaaGreat
open Go.RowKit
attribute [local go_sem] Oper.semAt_some
set_option maxRecDepth 100000 in
set_option maxHeartbeats 2000000 in
theorem sureQ_yes (A : Option Addr) (n k : Nat) (o : Int) (w : World) : Calls Tryz.prog 85 #[.agg #[.slice A n k, .int .u64 o], .int .i64 0] w fun x w' => x = .returned (.agg #[.slice A n k, .int .u64 o]) ∧ Below w.heap.size w w' := by
  have HB := hid (Below.refl w.heap.size w)
  have bx := below_box w (.cells #[.slice A n k, .int .u64 o] 58)
  replace HB := hid (below_then HB.out bx)
  clear bx
  have PX := hid (Blk.new w 58 #[.slice A n k, .int .u64 o])
  have bx := below_box (w.alloc (.cells #[.slice A n k, .int .u64 o] 58)) (.cells #[.slice none 0 0, .int .u64 0] 58)
  replace PX := hid (PX.out.step bx); replace HB := hid (below_then HB.out bx)
  clear bx
  have PZ := hid (Blk.new2 w 58 #[.slice none 0 0, .int .u64 0] (.cells #[.slice A n k, .int .u64 o] 58))
  go_enter Tryz.func85, Tryz.ntmps85
  go_wp2_with fail
  have hz0 := hid (show ((w.alloc (.cells #[.slice A n k, .int .u64 o] 58)).alloc (.cells #[.slice none 0 0, .int .u64 0] 58)).heap.size = w.heap.size + 2 by simp)
  generalize (w.alloc (.cells #[.slice A n k, .int .u64 o] 58)).alloc (.cells #[.slice none 0 0, .int .u64 0] 58) = W0 at *
  refine (rneed_yes 0 _).mono ?_
  rintro e v1 ⟨rfl, rfl⟩
  obtain ⟨y00, y01, yf0⟩ := PX.out.cells2
  obtain ⟨y10, y11, yf1⟩ := PZ.out.cells2
  go_wp2_with fail
  clear y00 y01 yf0 y10 y11 yf1
  have Z4 := hid (show Blk ((v1.setCell ⟨w.heap.size + 1, 0, none⟩ (.slice A n k)).setCell ⟨w.heap.size + 1, 1, none⟩ (.int .u64 o)) (w.heap.size + 1) 58 #[.slice A n k, .int .u64 o] from ((PZ.out.setCell 0 (.slice A n k)).setCell 1 (.int .u64 o)))
  obtain ⟨y00, y01, yf0⟩ := Z4.out.cells2
  exact bodyPost_ret (v := .agg #[.slice A n k, .int .u64 o]) (by simp [results, Tryz.results85, go_sem, y00, y01]) rfl ⟨rfl, ((HB.out.setCell (p := ⟨w.heap.size + 1, 0, none⟩) (by simp) (.slice A n k)).setCell (p := ⟨w.heap.size + 1, 1, none⟩) (by simp) (.int .u64 o))⟩
set_option maxRecDepth 100000 in
set_option maxHeartbeats 2000000 in
theorem sureQ_no (A : Option Addr) (n k : Nat) (o : Int) (c : Int) (w : World) (hc : c ≠ 0) : Calls Tryz.prog 85 #[.agg #[.slice A n k, .int .u64 o], .int .i64 c] w fun x w' => x = leaves c ∧ Below w.heap.size w w' := by
  have d1 : (c == 0) = false := by simpa using hc
  have HB := hid (Below.refl w.heap.size w)
  clear hc
  have bx := below_box w (.cells #[.slice A n k, .int .u64 o] 58)
  replace HB := hid (below_then HB.out bx)
  clear bx
  have bx := below_box (w.alloc (.cells #[.slice A n k, .int .u64 o] 58)) (.cells #[.slice none 0 0, .int .u64 0] 58)
  replace HB := hid (below_then HB.out bx)
  clear bx
  go_enter Tryz.func85, Tryz.ntmps85
  go_wp2_with fail
  refine (rneed_no c _).mono ?_
  rintro e v1 ⟨rfl, rfl⟩
  unfold leaves
  go_wp2_with fail
  exact ⟨rfl, rfl, HB.out⟩
set_option maxRecDepth 100000 in
set_option maxHeartbeats 2000000 in
theorem sureR_yes (now : Int) (A : Option Addr) (n k : Nat) (B : Option Addr) (m d : Nat) (w : World) : Calls Tryz.prog 114 #[.agg #[.int .i64 now, .slice A n k, .slice B m d], .int .i64 0] w fun x w' => x = .returned (.agg #[.int .i64 now, .slice A n k, .slice B m d]) ∧ Below w.heap.size w w' := by
  have HB := hid (Below.refl w.heap.size w)
  have bx := below_box w (.cells #[.int .i64 now, .slice A n k, .slice B m d] 24)
  replace HB := hid (below_then HB.out bx)
  clear bx
  have PX := hid (Blk.new w 24 #[.int .i64 now, .slice A n k, .slice B m d])
  have bx := below_box (w.alloc (.cells #[.int .i64 now, .slice A n k, .slice B m d] 24)) (.cells #[.int .i64 0, .slice none 0 0, .slice none 0 0] 24)
  replace PX := hid (PX.out.step bx); replace HB := hid (below_then HB.out bx)
  clear bx
  have PZ := hid (Blk.new2 w 24 #[.int .i64 0, .slice none 0 0, .slice none 0 0] (.cells #[.int .i64 now, .slice A n k, .slice B m d] 24))
  go_enter Tryz.func114, Tryz.ntmps114
  go_wp2_with fail
  have hz0 := hid (show ((w.alloc (.cells #[.int .i64 now, .slice A n k, .slice B m d] 24)).alloc (.cells #[.int .i64 0, .slice none 0 0, .slice none 0 0] 24)).heap.size = w.heap.size + 2 by simp)
  generalize (w.alloc (.cells #[.int .i64 now, .slice A n k, .slice B m d] 24)).alloc (.cells #[.int .i64 0, .slice none 0 0, .slice none 0 0] 24) = W0 at *
  refine (rneed_yes 0 _).mono ?_
  rintro e v1 ⟨rfl, rfl⟩
  obtain ⟨y00, y01, y02, yf0⟩ := PX.out.cells3
  obtain ⟨y10, y11, y12, yf1⟩ := PZ.out.cells3
  go_wp2_with fail
  clear y00 y01 y02 yf0 y10 y11 y12 yf1
  have Z4 := hid (show Blk (((v1.setCell ⟨w.heap.size + 1, 0, none⟩ (.int .i64 now)).setCell ⟨w.heap.size + 1, 1, none⟩ (.slice A n k)).setCell ⟨w.heap.size + 1, 2, none⟩ (.slice B m d)) (w.heap.size + 1) 24 #[.int .i64 now, .slice A n k, .slice B m d] from (((PZ.out.setCell 0 (.int .i64 now)).setCell 1 (.slice A n k)).setCell 2 (.slice B m d)))
  obtain ⟨y00, y01, y02, yf0⟩ := Z4.out.cells3
  exact bodyPost_ret (v := .agg #[.int .i64 now, .slice A n k, .slice B m d]) (by simp [results, Tryz.results114, go_sem, y00, y01, y02]) rfl ⟨rfl, (((HB.out.setCell (p := ⟨w.heap.size + 1, 0, none⟩) (by simp) (.int .i64 now)).setCell (p := ⟨w.heap.size + 1, 1, none⟩) (by simp) (.slice A n k)).setCell (p := ⟨w.heap.size + 1, 2, none⟩) (by simp) (.slice B m d))⟩
set_option maxRecDepth 100000 in
set_option maxHeartbeats 2000000 in
theorem sureR_no (now : Int) (A : Option Addr) (n k : Nat) (B : Option Addr) (m d : Nat) (c : Int) (w : World) (hc : c ≠ 0) : Calls Tryz.prog 114 #[.agg #[.int .i64 now, .slice A n k, .slice B m d], .int .i64 c] w fun x w' => x = leaves c ∧ Below w.heap.size w w' := by
  have d1 : (c == 0) = false := by simpa using hc
  have HB := hid (Below.refl w.heap.size w)
  clear hc
  have bx := below_box w (.cells #[.int .i64 now, .slice A n k, .slice B m d] 24)
  replace HB := hid (below_then HB.out bx)
  clear bx
  have bx := below_box (w.alloc (.cells #[.int .i64 now, .slice A n k, .slice B m d] 24)) (.cells #[.int .i64 0, .slice none 0 0, .slice none 0 0] 24)
  replace HB := hid (below_then HB.out bx)
  clear bx
  go_enter Tryz.func114, Tryz.ntmps114
  go_wp2_with fail
  refine (rneed_no c _).mono ?_
  rintro e v1 ⟨rfl, rfl⟩
  unfold leaves
  go_wp2_with fail
  exact ⟨rfl, rfl, HB.out⟩
set_option maxRecDepth 100000 in
set_option maxHeartbeats 2000000 in
theorem sureG_yes (dn ak : Int) (on : Bool) (D : Option Addr) (n k : Nat) (w : World) : Calls Tryz.prog 82 #[.agg #[.int .i64 dn, .int .i64 ak, .bool on, .slice D n k], .int .i64 0] w fun x w' => x = .returned (.agg #[.int .i64 dn, .int .i64 ak, .bool on, .slice D n k]) ∧ Below w.heap.size w w' := by
  have HB := hid (Below.refl w.heap.size w)
  have bx := below_box w (.cells #[.int .i64 dn, .int .i64 ak, .bool on, .slice D n k] 27)
  replace HB := hid (below_then HB.out bx)
  clear bx
  have PX := hid (Blk.new w 27 #[.int .i64 dn, .int .i64 ak, .bool on, .slice D n k])
  have bx := below_box (w.alloc (.cells #[.int .i64 dn, .int .i64 ak, .bool on, .slice D n k] 27)) (.cells #[.int .i64 0, .int .i64 0, .bool false, .slice none 0 0] 27)
  replace PX := hid (PX.out.step bx); replace HB := hid (below_then HB.out bx)
  clear bx
  have PZ := hid (Blk.new2 w 27 #[.int .i64 0, .int .i64 0, .bool false, .slice none 0 0] (.cells #[.int .i64 dn, .int .i64 ak, .bool on, .slice D n k] 27))
  go_enter Tryz.func82, Tryz.ntmps82
  go_wp2_with fail
  have hz0 := hid (show ((w.alloc (.cells #[.int .i64 dn, .int .i64 ak, .bool on, .slice D n k] 27)).alloc (.cells #[.int .i64 0, .int .i64 0, .bool false, .slice none 0 0] 27)).heap.size = w.heap.size + 2 by simp)
  generalize (w.alloc (.cells #[.int .i64 dn, .int .i64 ak, .bool on, .slice D n k] 27)).alloc (.cells #[.int .i64 0, .int .i64 0, .bool false, .slice none 0 0] 27) = W0 at *
  refine (rneed_yes 0 _).mono ?_
  rintro e v1 ⟨rfl, rfl⟩
  obtain ⟨y00, y01, y02, y03, yf0⟩ := PX.out.cells4
  obtain ⟨y10, y11, y12, y13, yf1⟩ := PZ.out.cells4
  go_wp2_with fail
  clear y00 y01 y02 y03 yf0 y10 y11 y12 y13 yf1
  have Z4 := hid (show Blk ((((v1.setCell ⟨w.heap.size + 1, 0, none⟩ (.int .i64 dn)).setCell ⟨w.heap.size + 1, 1, none⟩ (.int .i64 ak)).setCell ⟨w.heap.size + 1, 2, none⟩ (.bool on)).setCell ⟨w.heap.size + 1, 3, none⟩ (.slice D n k)) (w.heap.size + 1) 27 #[.int .i64 dn, .int .i64 ak, .bool on, .slice D n k] from ((((PZ.out.setCell 0 (.int .i64 dn)).setCell 1 (.int .i64 ak)).setCell 2 (.bool on)).setCell 3 (.slice D n k)))
  obtain ⟨y00, y01, y02, y03, yf0⟩ := Z4.out.cells4
  exact bodyPost_ret (v := .agg #[.int .i64 dn, .int .i64 ak, .bool on, .slice D n k]) (by simp [results, Tryz.results82, go_sem, y00, y01, y02, y03]) rfl ⟨rfl, ((((HB.out.setCell (p := ⟨w.heap.size + 1, 0, none⟩) (by simp) (.int .i64 dn)).setCell (p := ⟨w.heap.size + 1, 1, none⟩) (by simp) (.int .i64 ak)).setCell (p := ⟨w.heap.size + 1, 2, none⟩) (by simp) (.bool on)).setCell (p := ⟨w.heap.size + 1, 3, none⟩) (by simp) (.slice D n k))⟩
/-- the blocks that a cpu's methods write -/
def CS (gc : Nat) (Q R : Option Addr) (i : Nat) : Prop := i = gc ∨ (∃ b, Q = some b ∧ i = b.block) ∨ ∃ b, R = some b ∧ i = b.block
theorem Qown.keptP {w w' : World} {lo n : Nat} {A : Option Addr} {xs : List Cb} {p : Nat → Prop} (h : Qown w lo A n xs) (k : GrownP p w w') (hp : 0 < n → ∀ a, A = some a → ¬ p a.block) : Qown w' lo A n xs := by
  rcases Nat.eq_zero_or_pos n with h0 | h0
  · subst h0
    have hl := h.sm.len
    exact ⟨⟨hl, fun hn => absurd hn (by omega)⟩, fun hn => absurd hn (by omega)⟩
  · obtain ⟨b, off, rfl, h1, h2, hc⟩ := h.sm.row h0
    have hb : w'.heap[b]? = w.heap[b]? := k.block b h2 (hp h0 _ rfl)
    refine ⟨⟨h.sm.len, fun _ => ⟨b, off, rfl, h1, Nat.lt_of_lt_of_le h2 k.size, fun i hi j hj => ?_⟩⟩, fun hn b' off' e i => ?_⟩
    · rw [← hc i hi j hj]; unfold World.cell?; rw [hb]
    · cases e
      rw [← h.free hn b off rfl i]; unfold World.frozen?; rw [hb]
/-- a queue whose row a cpu owns -/
def QeO (w : World) (lo : Nat) (S : Nat → Prop) (x : Qe) : Prop := Qown w lo x.A x.n x.l ∧ x.n ≤ x.c ∧ x.n ≤ 1000 ∧ (0 ≤ x.o ∧ x.o ≤ 18446744073709551615) ∧ (0 < x.n → ∀ a, x.A = some a → ¬ S a.block)
/-- what a cpu holds -/
structure CA (w : World) (l gc : Nat) (s : St) (g : Gr) (es : List Qe) (is what : Int) (ran : List Int) (a : Ra) (R : Option Addr) (nr kr : Nat) : Prop where
  box : Blk w gc 78 (ccells s g a is what R nr kr)
  ro : Rown w l a.A a.n a.k a.B a.m a.d s.2.1 s.2.2
  gd : Ow blv w l 4 a.D g.nd.length a.kd g.nd
  qs : Om 2 encQ w l 58 a.Q a.nq a.kq es
  rn : Ow u64v w l 35 R nr kr ran
  qe : ∀ x ∈ es, QeO w l (CS gc a.Q R) x
  lg : l ≤ gc
section
variable {w w' : World} {l gc : Nat} {s : St} {g : Gr} {es : List Qe} {is what : Int} {ran : List Int} {a : Ra} {R : Option Addr} {nr kr : Nat}
theorem QeO.step {S : Nat → Prop} {x : Qe} {lo : Nat} (h : QeO w lo S x) (hb : Below w.heap.size w w') : QeO w' lo S x := ⟨h.1.step hb, h.2⟩
theorem CA.step (h : CA w l gc s g es is what ran a R nr kr) (hb : Below w.heap.size w w') : CA w' l gc s g es is what ran a R nr kr :=
  ⟨h.box.step hb, h.ro.step hb, h.gd.step hb, h.qs.step hb, h.rn.step hb, fun x hx => (h.qe x hx).step hb, h.lg⟩
/-- a box that is new to it is turned -/
theorem CA.turn (h : CA w l gc s g es is what ran a R nr kr) {q : Nat} {t : TypeId} {cs : Array Value} (hb : Blk w q t cs) (h1 : t ≠ 78) (h2 : t ≠ 3) (h3 : t ≠ 4) (h4 : t ≠ 35)
    (hq : ∀ b, a.Q = some b → b.block ≠ q) (hf : ∀ x ∈ es, 0 < x.n → ∀ b, x.A = some b → b.block ≠ q) (hg : w.grownBy w' (some q)) : CA w' l gc s g es is what ran a R nr kr := by
  refine ⟨h.box.grown hg (fun e => ?_), h.ro.keptR hb h2 hg, h.gd.keptR hb h3 hg, h.qs.keptG hg (fun b hb e => hq b hb (Option.some.inj e)), h.rn.keptR hb h4 hg, fun x hx => ?_, h.lg⟩
  · have e1 := Option.some.inj e
    subst e1
    have := h.box
    unfold Blk at this hb
    rw [hb] at this
    simp at this
    exact h1 this.2
  · obtain ⟨k1, k2⟩ := h.qe x hx
    exact ⟨k1.keptP (GrownP.ofGrown (p := fun i => i = q) hg rfl) (fun hn b hb e => hf x hx hn b hb e), k2⟩
theorem CA.rcr (h : CA w l gc s g es is what ran a R nr kr) (gl : g.nd.length ≤ 1000) (gi : g.dn ≤ 9223372036854775807 ∧ g.ak ≤ 9223372036854775807) (ql : a.nq ≤ 1000) : RcR w s g es a :=
  ⟨h.ro.rds, (h.gd.sl (d := false)).mono (Nat.zero_le _) (Nat.le_refl _), gl, gi, (h.qs.sm (d := zQe)).mono (Nat.zero_le _) (Nat.le_refl _), ql, fun x hx => ⟨((h.qe x hx).1.mono (Nat.zero_le _)).sm, (h.qe x hx).2.1, (h.qe x hx).2.2.1, (h.qe x hx).2.2.2.1.1, (h.qe x hx).2.2.2.1.2⟩⟩
end
/-- what tries lays is what a cpu holds -/
theorem RcT.ca {w : World} {l gc : Nat} {s : St} {g : Gr} {es : List Qe} {a : Ra} (h : RcT w l s g es a) (hb : Blk w gc 78 (ccells s g a 0 0 none 0 0)) (hl : l ≤ gc) (ho : ∀ x ∈ es, 0 ≤ x.o ∧ x.o ≤ 18446744073709551615) : CA w l gc s g es 0 0 [] a none 0 0 := by
  refine ⟨hb, h.ro, h.gd, h.qs, Ow.nil _ _ _, fun x hx => ⟨Qown.ofOm (h.qe x hx).1, (h.qe x hx).1.cap.1, (h.qe x hx).2, ho x hx, fun hn b hbx hs => ?_⟩, hl⟩
  obtain ⟨_, cs, hbb⟩ := (h.qe x hx).1.blk b hbx
  rcases hs with e | ⟨q, hq, e⟩ | ⟨q, hq, _⟩
  · exact (h.qe x hx).1.ne_blk hb (by decide) b hbx e
  · exact h.qs.ne_blk hbb (by decide) q hq e.symm
  · cases hq
end Go.Proofs.YtfipdoofgbjbjaaGreat
