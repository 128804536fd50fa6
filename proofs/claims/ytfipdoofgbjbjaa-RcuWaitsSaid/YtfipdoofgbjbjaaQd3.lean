/- package queue: Drain. No condition but sizes. -/
import Derived.Test.YtfipdoofgbjbjaaQd2
import Derived.Test.YtfipdoofgbjbjaaKitA
namespace Go.Proofs.Ytfipdoofgbjbjaa
open Go.RowKit Go.Shelf
attribute [local go_sem] Oper.semAt_some
def drainF (o : Int) (l : List Cb) (most : Int) : Int × List Cb × List Int × Int :=
  if ¬ QGood o l then (0, [], [], 230) else if most < 0 then (0, [], [], 2) else (o, l.drop (min (doneN o l) most.toNat), (l.take (min (doneN o l) most.toNat)).map (·.2), 0)
def DrPost (W : World) (r : Int × List Cb × List Int × Int) (e : Ending) (W' : World) : Prop :=
  ∃ A n c B m d, e = .returned (.tuple #[qv A n c r.1, .slice B m d, .int .i64 r.2.2.2]) ∧ Qown W' W.heap.size A n r.2.1 ∧ Ow u64v W' W.heap.size 38 B m d r.2.2.1 ∧ Below W.heap.size W W' ∧ n ≤ c
/-- what the rounds of Drain keep -/
structure DrI (w1 W4 : World) (g8 : Nat) (xs : List Cb) (k : Nat) (W : World) : Prop where
  out : ∃ G cg, Blk W g8 52 #[.slice G k cg] ∧ Ow u64v W W4.heap.size 38 G k cg ((xs.take k).map (·.2))
  be : Below w1.heap.size w1 W
  size : W4.heap.size ≤ W.heap.size
theorem cell_lt {W : World} {p : Addr} {v : Value} (h : W.cell? p = some v) : p.block < W.heap.size := by
  obtain ⟨o, ho, _⟩ := not_walk_of_cell h
  exact (Array.getElem?_eq_some_iff.1 ho).1
section
variable {w1 W4 : World} {g8 : Nat} {xs : List Cb} {k : Nat} {W W' : World} {row : Option Nat}
theorem Ow.grownL {α : Type} {enc : α → Value} {e : TypeId} {A : Option Addr} {n c lo : Nat} {xs : List α} (h : Ow enc W lo e A n c xs) (hg : W.grownBy W' row) (hr : ∀ k, row = some k → k < lo) : Ow enc W' lo e A n c xs := by
  refine ⟨h.len, h.own.1, ?_⟩
  rcases h.own.2 with hh | ⟨g, cap, cur, hv, hb1, hgg, r⟩
  · exact .inl hh
  · exact .inr ⟨g, cap, cur, hv, hb1, (hg.block g (Array.getElem?_eq_some_iff.1 hgg).1 (fun e => by have := hr g e.symm; omega)).trans hgg, r⟩
theorem DrI.books (h : DrI w1 W4 g8 xs k W) (h14 : w1.heap.size ≤ W4.heap.size) (hg : W.grownBy W' row) (hr : ∀ r, row = some r → W4.heap.size ≤ r ∧ ∃ o : Obj, W.heap[r]? = some o ∧ o.isCells = false) : DrI w1 W4 g8 xs k W' := by
  obtain ⟨G, cg, h1, h2⟩ := h.out
  exact ⟨⟨G, cg, h1.abides hg (fun r e => (hr r e).2), h2.abides hg (fun r e => (hr r e).2)⟩, h.be.grown hg h.be.size (fun r e => Nat.le_trans h14 (hr r e).1), Nat.le_trans h.size hg.size⟩
theorem DrI.stepD (h : DrI w1 W4 g8 xs k W) (h8 : g8 ≠ w1.heap.size) (h14 : w1.heap.size < W4.heap.size) (hg : W.grownBy W' (some w1.heap.size)) : DrI w1 W4 g8 xs k W' := by
  obtain ⟨G, cg, h1, h2⟩ := h.out
  exact ⟨⟨G, cg, h1.grown hg (fun e => by cases e; exact h8 rfl), h2.grownL hg (fun r e => by cases e; exact h14)⟩, h.be.grown hg h.be.size (fun r e => by cases e; exact Nat.le_refl _), Nat.le_trans h.size hg.size⟩
end
theorem Drs.books {D Tb lo hi B0 : Nat} {o : Int} {xs : List Cb} {k : Nat} {W W' : World} {row : Option Nat} (h : Drs D Tb lo hi o xs k W) (hT : Tb < B0) (hD : D < B0) (hh : hi ≤ B0) (hg : W.grownBy W' row) (hr : ∀ r, row = some r → B0 ≤ r ∧ ∃ o : Obj, W.heap[r]? = some o ∧ o.isCells = false) : Drs D Tb lo hi o xs k W' := by
  have hs := h.fn.lt
  obtain ⟨A, c, h1, h2, h3, h4⟩ := h.box
  refine ⟨h.fn.grown hg (fun e => by have := (hr _ e.symm).1; omega), A, c, h1.grown hg (fun e => by have := (hr _ e.symm).1; omega), h2, ?_, ?_⟩
  · refine ⟨h3.len, fun hn => ?_⟩
    obtain ⟨b, off, e, e1, e2, hc⟩ := h3.row hn
    have hbl := cell_lt (hc 0 hn 0 (by omega))
    refine ⟨b, off, e, e1, e2, fun j hj i hi => ?_⟩
    rw [← hc j hj i hi]
    unfold World.cell?
    rw [hg.block b hbl (fun e => by have := (hr _ e.symm).1; omega)]
  · intro hn b off hA i
    obtain ⟨b', off', e, e1, e2, hc⟩ := h3.row hn
    rw [hA] at e
    cases e
    have hbl := cell_lt (hc 0 hn 0 (by omega))
    rw [← h4 hn b off hA i]
    unfold World.frozen?
    rw [hg.block b hbl (fun e => by have := (hr _ e.symm).1; omega)]
theorem cell_ne_deferred {W : World} {b : Nat} {ds : Option (List Deferred)} {p : Addr} {v : Value} (h : W.cell? p = some v) (hd : W.heap[b]? = some (.deferred ds)) : p.block ≠ b := by
  rintro rfl
  unfold World.cell? at h
  rw [hd] at h
  simp at h
theorem Qown.put {W : World} {lo : Nat} {A : Option Addr} {n : Nat} {xs : List Cb} {b : Nat} {ds : Option (List Deferred)} (h : Qown W lo A n xs) (hd : W.heap[b]? = some (.deferred ds)) (o' : Obj) : Qown (W.putObj b o') lo A n xs := by
  have hsz : (W.putObj b o').heap.size = W.heap.size := by simp [World.putObj]
  refine ⟨⟨h.sm.len, fun hn => ?_⟩, fun hn b' off hA i => ?_⟩
  · obtain ⟨b', off, e, e1, e2, hc⟩ := h.sm.row hn
    refine ⟨b', off, e, e1, by rw [hsz]; exact e2, fun j hj i hi => ?_⟩
    have hx := hc j hj i hi
    rw [← hx]
    unfold World.cell?
    rw [World.putObj_heap_other (cell_ne_deferred hx hd)]
  · obtain ⟨b2, off2, e, e1, e2, hc⟩ := h.sm.row hn
    rw [hA] at e
    cases e
    rw [← h.free hn b' off hA i]
    unfold World.frozen?
    rw [World.putObj_heap_other (cell_ne_deferred (hc 0 hn 0 (by omega)) hd)]
set_option maxRecDepth 100000 in
set_option maxHeartbeats 8000000 in
theorem drain_in (A : Option Addr) (n c : Nat) (o : Int) (xs : List Cb) (most : Int) (w : World) (h : Sm 2 encC (0, 0) w 0 w.heap.size A n xs) (hn : n ≤ 1000000) (h0 : 0 ≤ o) :
    CallsIn Fence.wide 5 Try.prog 82 #[qv A n c o, .int .i64 most] w (DrPost w (drainF o xs most)) := by
  have HE := hid (show drainF o xs most = if ¬ QGood o xs then (0, [], [], 230) else if most < 0 then (0, [], [], 2) else (o, xs.drop (min (doneN o xs) most.toNat), (xs.take (min (doneN o xs) most.toNat)).map (·.2), 0) from rfl)
  have HC := hid (show qcheckC o xs = if QGood o xs then 0 else 230 from rfl)
  have hl := hid h.len
  obtain ⟨i0, hi0, hz00, hz01, hz02⟩ := info_parts info_u64
  have HI0 := hid hi0; have HZ0 := hid hz00; have HZ1 := hid hz01; have HZ2 := hid hz02
  clear hi0 hz00 hz01 hz02
  have HR := hid h; have HB := hid (Below.refl w.heap.size w)
  clear h
  have bx := below_box w (.cells (qcs A n c o) 40)
  replace HR := hid (HR.out.step bx); replace HB := hid (below_then HB.out bx)
  clear bx
  have PQ := hid (Blk.new w 40 (qcs A n c o))
  have bx := below_box (w.alloc (.cells (qcs A n c o) 40)) (.cells #[.int .i64 most] 3)
  replace HR := hid (HR.out.step bx); replace PQ := hid (PQ.out.step bx); replace HB := hid (below_then HB.out bx)
  clear bx
  have PM := hid (Blk.new2 w 3 #[.int .i64 most] (.cells (qcs A n c o) 40))
  have bx := below_box ((w.alloc (.cells (qcs A n c o) 40)).alloc (.cells #[.int .i64 most] 3)) (.cells (qcs none 0 0 0) 40)
  replace HR := hid (HR.out.step bx); replace PQ := hid (PQ.out.step bx); replace PM := hid (PM.out.step bx); replace HB := hid (below_then HB.out bx)
  clear bx
  have PZ := hid (Blk.new3 w 40 (qcs none 0 0 0) (.cells (qcs A n c o) 40) (.cells #[.int .i64 most] 3))
  obtain ⟨y00, y01, yf0⟩ := PQ.out.cells2
  refine callsIn_of_wp_marks Try.func82 rfl trivial ?_ rfl
  simp only [Try.ntmps82, List.size_toArray, List.length_cons, List.length_nil, Nat.reduceAdd, Nat.reduceSub, Array.replicate_succ, Array.replicate_zero, List.push_toArray, List.append_toArray, List.nil_append, List.cons_append]
  refine wpIn_wide.2 ?_
  go_wp2_with fail
  go_step3
  go_wp2_with fail
  clear y00 y01 yf0
  refine (qcheck_any A n c o xs _ HR.out hn h0).mono ?_
  rintro e w1 ⟨rfl, hb⟩
  replace HR := hid (HR.out.step hb); replace PQ := hid (PQ.out.step hb); replace PM := hid (PM.out.step hb); replace PZ := hid (PZ.out.step hb); replace HB := hid (below_then HB.out hb)
  clear hb
  have hz1 := hid PZ.out.lt; have PM1 := PM; have PZ1 := PZ; have HB1 := HB
  by_cases hg : QGood o xs
  · have e0 : qcheckC o xs = 0 := by rw [HC.out, if_pos hg]
    rw [e0]
    clear e0
    have HG := hid hg
    clear hg
    by_cases h1 : most < 0
    · have h1b : decide (most < 0) = true := decide_eq_true h1
      have H1 := hid h1
      clear h1
      obtain ⟨y00, y01, yf0⟩ := PZ.out.cells2
      obtain ⟨y10, yf1⟩ := PM.out.cells1
      go_wp2
      rw [Exit.noGoto_ret]
      obtain ⟨q0, q1, qf⟩ := ((PZ.out.setCell 0 (.slice none 0 0)).setCell 1 (.int .u64 0)).cells2
      have E : drainF o xs most = (0, [], [], 2) := by rw [HE.out, if_neg (not_not_intro HG.out), if_pos H1.out]
      rw [E]
      exact ⟨.tuple #[qv none 0 0 0, .slice none 0 0, .int .i64 2], (by simp [results, Try.results82, go_sem, q0, q1]), none, 0, 0, none, 0, 0, rfl, Qown.nil _ _, Ow.nil _ _ _, (HB.out.setCell (by simp; omega) _).setCell (by simp; omega) _, Nat.le_refl _⟩
    · have h1b : decide (most < 0) = false := decide_eq_false h1
      have hm := hid (show 0 ≤ most by omega)
      have HE2 := hid (show drainF o xs most = (o, xs.drop (min (doneN o xs) most.toNat), (xs.take (min (doneN o xs) most.toNat)).map (·.2), 0) by rw [HE.out, if_neg (not_not_intro HG.out), if_neg h1])
      clear HE HC h1
      obtain ⟨y00, y01, yf0⟩ := PQ.out.cells2
      obtain ⟨y10, yf1⟩ := PM.out.cells1
      go_upto_region 6 with fail
      clear h1b y00 y01 yf0 y10 yf1
      have bx := below_box w1 (.cells (dcs A n c o) 139)
      replace HR := hid (HR.out.step bx); replace PQ := hid (PQ.out.step bx); replace PM := hid (PM.out.step bx); replace PZ := hid (PZ.out.step bx); replace HB := hid (below_then HB.out bx)
      clear bx
      have PD := hid (Blk.new w1 139 (dcs A n c o))
      have HD0 := hid (Below.refl w1.heap.size w1)
      have HD1 := hid (below_box w1 (.cells (dcs A n c o) 139))
      have hz2 := hid (show (w1.alloc (.cells (dcs A n c o) 139)).heap.size = w1.heap.size + 1 by simp)
      generalize w1.alloc (.cells (dcs A n c o) 139) = W2 at *
      obtain ⟨y00, y01, yf0⟩ := PQ.out.cells2
      obtain ⟨y10, y11, yf1⟩ := PD.out.cells2
      go_wp2_with fail
      clear y00 y01 yf0 y10 y11 yf1
      refine (clone_cb A n c 0 xs _ HR.out hn).mono ?_
      rintro e w3 ⟨A3, c3, rfl, ho, hb⟩
      have HO := hid ho; have hs3 := hid hb.size
      clear ho
      replace HR := hid (HR.out.step hb); replace PQ := hid (PQ.out.step hb); replace PM := hid (PM.out.step hb); replace PZ := hid (PZ.out.step hb); replace PD := hid (PD.out.step hb); replace HB := hid (below_then HB.out hb); replace HD1 := hid (below_then HD1.out hb)
      clear hb
      clear HR
      obtain ⟨y00, y01, yf0⟩ := PD.out.cells2
      go_upto_region 8 with fail
      clear y00 y01 yf0
      replace PQ := hid (PQ.out.far (p := ⟨w1.heap.size, 0, none⟩) (by have := hz1.out; simp; omega) (.slice A3 n c3)); replace PM := hid (PM.out.far (p := ⟨w1.heap.size, 0, none⟩) (by have := hz1.out; simp; omega) (.slice A3 n c3)); replace PZ := hid (PZ.out.far (p := ⟨w1.heap.size, 0, none⟩) (by have := hz1.out; simp; omega) (.slice A3 n c3))
      replace PD := hid (PD.out.setCell 0 (.slice A3 n c3))
      replace HO := hid (HO.out.setCell (p := ⟨w1.heap.size, 0, none⟩) (by have := hz2.out; simp; omega) (.slice A3 n c3))
      replace HB := hid (HB.out.setCell (p := ⟨w1.heap.size, 0, none⟩) (by have := hz1.out; simp; omega) (.slice A3 n c3))
      replace HD1 := hid (HD1.out.setCell (p := ⟨w1.heap.size, 0, none⟩) (Nat.le_refl _) (.slice A3 n c3))
      have hsx : (w3.setCell ⟨w1.heap.size, 0, none⟩ (.slice A3 n c3)).heap.size = w3.heap.size := by simp
      have bx := below_box (w3.setCell ⟨w1.heap.size, 0, none⟩ (.slice A3 n c3)) (.cells #[.slice none 0 0] 52)
      have P8 := hid (Blk.at (w := w3.setCell ⟨w1.heap.size, 0, none⟩ (.slice A3 n c3)) (t := 52) (cs := #[.slice none 0 0]) hsx.symm)
      have hs5 := hid (show ((w3.setCell ⟨w1.heap.size, 0, none⟩ (.slice A3 n c3)).alloc (.cells #[.slice none 0 0] 52)).heap.size = w3.heap.size + 1 by simp)
      have HSM := hid (show Sm 2 encC (0, 0) (w3.setCell ⟨w1.heap.size, 0, none⟩ (.slice A3 n c3)) W2.heap.size w3.heap.size A3 n xs by have := HO.out.sm (d := ((0, 0) : Cb)); rwa [hsx] at this)
      replace HSM := hid (HSM.out.below bx (Nat.le_of_eq hsx.symm))
      have HFZ := hid ((Qown.ofOm HO.out).step bx).free
      replace PQ := hid (PQ.out.step bx); replace PM := hid (PM.out.step bx); replace PZ := hid (PZ.out.step bx); replace PD := hid (PD.out.step bx); replace HO := hid (HO.out.step bx); replace HB := hid (below_then HB.out bx); replace HD1 := hid (below_then HD1.out bx)
      clear bx hsx
      generalize (w3.setCell ⟨w1.heap.size, 0, none⟩ (.slice A3 n c3)).alloc (.cells #[.slice none 0 0] 52) = W5 at *
      by_cases hm0 : most = 0
      · have hm0b : (most == 0) = true := by simpa using hm0
        have HE3 := hid (show drainF o xs most = (o, xs, [], 0) by rw [HE2.out, hm0]; simp)
        obtain ⟨y00, yf0⟩ := PM.out.cells1
        obtain ⟨y10, y11, yf1⟩ := PD.out.cells2
        obtain ⟨y20, y21, yf2⟩ := PZ.out.cells2
        go_wp2
        rw [Exit.noGoto_ret]
        obtain ⟨q0, q1, qf⟩ := ((PZ.out.setCell 0 (.slice A3 n c3)).setCell 1 (.int .u64 o)).cells2
        have hzl := hid (show w.heap.size + 1 + 1 < W2.heap.size by have := hz1.out; have := hz2.out; omega)
        have o5 := Qown.ofOm HO.out
        exact ⟨.tuple #[qv A3 n c3 o, .slice none 0 0, .int .i64 0], (by simp [results, Try.results82, go_sem, q0, q1]), A3, n, c3, none, 0, 0, by rw [HE3.out], by rw [HE3.out]; exact ((o5.setCell (p := ⟨w.heap.size + 1 + 1, 0, none⟩) hzl.out _).setCell (p := ⟨w.heap.size + 1 + 1, 1, none⟩) hzl.out _).mono (by have := hzl.out; omega), by rw [HE3.out]; exact Ow.nil _ _ _, (HB.out.setCell (by simp; omega) _).setCell (by simp; omega) _, HO.out.cap.1⟩
      · have hm0b : (most == 0) = false := by simpa using hm0
        obtain ⟨y00, yf0⟩ := PM.out.cells1
        go_wp2_with fail
        clear y00 yf0
        go_step3
        go_wp2_with fail
        refine (done_any w1.heap.size W5).mono ?_
        rintro e W6 ⟨rfl, rfl⟩
        have bx := below_box W5 (.cells #[.func (.func 99) #[ptr w1.heap.size] #[]] 153)
        have PT := hid (Blk.new W5 153 #[.func (.func 99) #[ptr w1.heap.size] #[]])
        have hs6 := hid (show (W5.alloc (.cells #[.func (.func 99) #[ptr w1.heap.size] #[]] 153)).heap.size = W5.heap.size + 1 by simp)
        have h85 := hid (show w3.heap.size < W5.heap.size by have := hs5.out; omega)
        replace HSM := hid (HSM.out.below bx (Nat.le_of_lt h85.out))
        replace HFZ := hid (show 0 < n → ∀ b off, A3 = some ⟨b, off, none⟩ → ∀ i, (W5.alloc (.cells #[.func (.func 99) #[ptr w1.heap.size] #[]] 153)).frozen? ⟨b, i, none⟩ = false from ((⟨HO.out.sm, HFZ.out⟩ : Qown W5 _ A3 n xs).step bx).free)
        replace P8 := hid (P8.out.step bx)
        replace PQ := hid (PQ.out.step bx); replace PM := hid (PM.out.step bx); replace PZ := hid (PZ.out.step bx); replace PD := hid (PD.out.step bx); replace HO := hid (HO.out.step bx); replace HB := hid (below_then HB.out bx); replace HD1 := hid (below_then HD1.out bx)
        clear bx
        go_wp2_with fail
        generalize W5.alloc (.cells #[.func (.func 99) #[ptr w1.heap.size] #[]] 153) = W6 at *
        have hDrs0 : Drs w1.heap.size W5.heap.size W2.heap.size w3.heap.size o xs 0 W6 := ⟨PT.out, A3, c3, by rw [Nat.sub_zero, hl.out]; exact PD.out, by rw [Nat.sub_zero, hl.out]; exact HO.out.cap.1, by rw [Nat.sub_zero, hl.out, List.drop_zero]; exact HSM.out, by rw [Nat.sub_zero, hl.out]; exact HFZ.out⟩
        have hDrI0 : DrI w1 W6 w3.heap.size xs 0 W6 := ⟨⟨none, 0, P8.out, Ow.nil _ _ _⟩, HD1.out, Nat.le_refl _⟩
        have a1 := hid (show w1.heap.size < W2.heap.size ∧ W2.heap.size ≤ w3.heap.size ∧ w3.heap.size < W5.heap.size ∧ W5.heap.size < W6.heap.size from ⟨by have := hz2.out; omega, hs3.out, h85.out, by have := hs6.out; omega⟩)
        have a2 := a1.out
        refine (wpIn_wide (n := 5)).1 ?_
        refine' wpIn_rangeFunc_state rfl (by omega) (gf := 100) (lb := #[ptr W5.heap.size]) rfl trivial (enters_of Try.func100 (by kernel_rfl) rfl)
          (done_seq (5 - 1) w1.heap.size W5.heap.size W2.heap.size w3.heap.size o xs 0 (by omega) (by rw [hl.out]; exact hn) (by omega) (by omega) (by omega) (by omega)) (fun _ => rfl) (by omega)
          (fun k W => (k : Int) < most ∧ DrI w1 W6 w3.heap.size xs k W) (fun cc k W => cc = .exit 1 ∧ (k : Int) = most ∧ k ≤ doneN o xs ∧ DrI w1 W6 w3.heap.size xs k W ∧ Drs w1.heap.size W5.heap.size W2.heap.size w3.heap.size o xs k W)
          ?hI ?hT ?hX ?hID ?h0 hDrs0 _ ?assign ?body ?done ?stop
        case assign =>
          intro l k W K hK
          have HK := hid hK
          clear hK
          gi_wp2_with fail
          exact HK.out
        case hI => exact fun k X Y row hs hg hr => ⟨hs.1, hs.2.books (by omega) hg hr⟩
        case hT => exact fun k X Y row hs hg hr => hs.books (by omega) (by omega) (by omega) hg hr
        case hX => exact fun cc k X Y row hs hg hr => ⟨hs.1, hs.2.1, hs.2.2.1, hs.2.2.2.1.books (by omega) hg hr, hs.2.2.2.2.books (by omega) (by omega) (by omega) hg hr⟩
        case hID => exact fun k X Y hs hg => ⟨hs.1, hs.2.stepD (by omega) (by omega) hg⟩
        case h0 => exact ⟨by have := hm.out; show ((0 : Nat) : Int) < most; omega, hDrI0⟩
        case body =>
          rintro l k W hk ⟨hkm, hi⟩ ht
          obtain ⟨v, hv⟩ : ∃ v, v = (xs[k]?.getD (0, 0)).2 := ⟨_, rfl⟩
          rw [← hv]
          have hkx : k < xs.length := Nat.lt_of_lt_of_le hk (doneN_le o xs)
          have HV := hid (show ((xs.take k).map fun x => x.2) ++ [v] = (xs.take (k + 1)).map fun x => x.2 by rw [List.take_add_one, List.map_append, hv, List.getElem?_eq_getElem hkx]; rfl)
          obtain ⟨G, cg, h1, h2⟩ := hi.out
          have hk6 : k ≤ 1000000 := by have := hl.out; omega
          have PMW := hid (PM1.out.below hi.be (by have := hz1.out; omega))
          have hi0 := HI0.out; have hz00 := HZ0.out; have hz01 := HZ1.out; have hz02 := HZ2.out
          obtain ⟨o0, of⟩ := h1.cells1
          have hsz := hid hi.size
          have hbe := hid hi.be
          have HT := hid ht; have H1 := hid h1; have H2 := hid h2; have HKM := hid hkm; have HK := hid hk
          clear hv hi ht h1 h2 hkm hk hkx
          have ne1 : ¬ w3.heap.size = w.heap.size + 1 := by have := hz1.out; omega
          have ne2 : ¬ w.heap.size + 1 = w3.heap.size := by have := hz1.out; omega
          by_cases hend : (k : Int) + 1 = most
          · have hendb : ((k : Int) + 1 == most) = true := by simpa using hend
            gi_wp2_with (gi_at_builtin; refine wpListIn_app u64v 0 _ rfl _ _ 52 rfl W6.heap.size 38 i0 _ 8 Try.underlying52 hi0 hz00 hz01 hz02 rfl G k cg ((xs.take k).map fun x => x.2) rfl (H2.out.alloc _) W.heap.size (W.heap.size + 1) _ 1 _ [v] rfl (Sl.one' (by simp)) (fun _ => rfl) (by simp only [maxLen]; omega) (by omega) (by have := hsz.out; simp; omega) ?_; intro G' cg' w7 og' hg' hat'; have hrow := hid H2.out.row_ge; have b7 := (H1.out.alloc (.cells #[.int .u64 v] 38)).grown hg' (H2.out.ne_row (by omega)); have hbe7 := (hbe.out.alloc (by have := hsz.out; omega) (.cells #[.int .u64 v] 38)).grown hg' (by have := hsz.out; simp; omega) (fun r e => by have := hrow.out r e; omega); obtain ⟨u0, uf⟩ := b7.cells1; obtain ⟨m0, mf⟩ := (PM1.out.below hbe7 (by have := hz1.out; omega)).cells1)
            rw [HV.out] at og'
            have hrw := HKM.out
            have hss := hsz.out
            have hkeep : ∀ q, q < W6.heap.size → q ≠ w3.heap.size → (w7.setCell ⟨w3.heap.size, 0, none⟩ (.slice G' (k + 1) cg')).heap[q]? = W.heap[q]? := fun q e1 e2 =>
              (Below.heap_setCell w7 ⟨w3.heap.size, 0, none⟩ _ q e2).trans ((hg'.block q (by simp; omega) (fun e => by have := H2.out.row_ge q e.symm; omega)).trans (Below.heap_alloc W _ q (by omega)))
            have k1 := KeepsFrom.of_grownBy (B := W6.heap.size) (World.grownBy_alloc W (.cells #[.int .u64 v] 38) none) (fun j e => by cases e)
            have k2 := (H2.out.alloc (.cells #[.int .u64 v] 38)).keeps (B := W6.heap.size) hg'
            have k3 := KeepsFrom.of_grownBy (B := W6.heap.size) (grownBy_setCell' w7 w3.heap.size (.slice G' (k + 1) cg')) (fun j e => by cases e; omega)
            have hz7 := hg'.size
            simp at hz7
            have hdr : DrI w1 W6 w3.heap.size xs (k + 1) (w7.setCell ⟨w3.heap.size, 0, none⟩ (.slice G' (k + 1) cg')) := ⟨⟨G', cg', by have := b7.setCell 0 (.slice G' (k + 1) cg'); simpa using this, og'.setCell (p := ⟨w3.heap.size, 0, none⟩) (by show w3.heap.size < W6.heap.size; omega) _⟩, hbe7.setCell (p := ⟨w3.heap.size, 0, none⟩) (by show w1.heap.size ≤ w3.heap.size; omega) _, by simp; omega⟩
            have hds := HT.out.kept (hkeep _ (by omega) (by omega)) (hkeep _ (by omega) (by omega)) (fun q e1 e2 => hkeep q (by omega) (by omega))
            exact ⟨(k1.trans k2).trans k3, rfl, by push_cast; exact hend, HK.out, hdr, hds⟩
          · have hendb : ((k : Int) + 1 == most) = false := by simpa using hend
            gi_wp2_with (gi_at_builtin; refine wpListIn_app u64v 0 _ rfl _ _ 52 rfl W6.heap.size 38 i0 _ 8 Try.underlying52 hi0 hz00 hz01 hz02 rfl G k cg ((xs.take k).map fun x => x.2) rfl (H2.out.alloc _) W.heap.size (W.heap.size + 1) _ 1 _ [v] rfl (Sl.one' (by simp)) (fun _ => rfl) (by simp only [maxLen]; omega) (by omega) (by have := hsz.out; simp; omega) ?_; intro G' cg' w7 og' hg' hat'; have hrow := hid H2.out.row_ge; have b7 := (H1.out.alloc (.cells #[.int .u64 v] 38)).grown hg' (H2.out.ne_row (by omega)); have hbe7 := (hbe.out.alloc (by have := hsz.out; omega) (.cells #[.int .u64 v] 38)).grown hg' (by have := hsz.out; simp; omega) (fun r e => by have := hrow.out r e; omega); obtain ⟨u0, uf⟩ := b7.cells1; obtain ⟨m0, mf⟩ := (PM1.out.below hbe7 (by have := hz1.out; omega)).cells1)
            rw [HV.out] at og'
            have hrw := HKM.out
            have hss := hsz.out
            have hkeep : ∀ q, q < W6.heap.size → q ≠ w3.heap.size → (w7.setCell ⟨w3.heap.size, 0, none⟩ (.slice G' (k + 1) cg')).heap[q]? = W.heap[q]? := fun q e1 e2 =>
              (Below.heap_setCell w7 ⟨w3.heap.size, 0, none⟩ _ q e2).trans ((hg'.block q (by simp; omega) (fun e => by have := H2.out.row_ge q e.symm; omega)).trans (Below.heap_alloc W _ q (by omega)))
            have k1 := KeepsFrom.of_grownBy (B := W6.heap.size) (World.grownBy_alloc W (.cells #[.int .u64 v] 38) none) (fun j e => by cases e)
            have k2 := (H2.out.alloc (.cells #[.int .u64 v] 38)).keeps (B := W6.heap.size) hg'
            have k3 := KeepsFrom.of_grownBy (B := W6.heap.size) (grownBy_setCell' w7 w3.heap.size (.slice G' (k + 1) cg')) (fun j e => by cases e; omega)
            have hz7 := hg'.size
            simp at hz7
            have hdr : DrI w1 W6 w3.heap.size xs (k + 1) (w7.setCell ⟨w3.heap.size, 0, none⟩ (.slice G' (k + 1) cg')) := ⟨⟨G', cg', by have := b7.setCell 0 (.slice G' (k + 1) cg'); simpa using this, og'.setCell (p := ⟨w3.heap.size, 0, none⟩) (by show w3.heap.size < W6.heap.size; omega) _⟩, hbe7.setCell (p := ⟨w3.heap.size, 0, none⟩) (by show w1.heap.size ≤ w3.heap.size; omega) _, by simp; omega⟩
            have hds := HT.out.kept (hkeep _ (by omega) (by omega)) (hkeep _ (by omega) (by omega)) (fun q e1 e2 => hkeep q (by omega) (by omega))
            exact ⟨(k1.trans k2).trans k3, ⟨by push_cast; omega, hdr⟩, hds⟩
        case done =>
          rintro b W hb ⟨hkm, hi⟩ ht hD
          have hmin : min (doneN o xs) most.toNat = doneN o xs := by omega
          obtain ⟨G, cg, g1, g2⟩ := hi.out
          obtain ⟨A9, c9, d1, d2, d3, d4⟩ := ht.box
          have PZ9 := hid (PZ1.out.below hi.be (by have := hz1.out; omega))
          obtain ⟨o0, of⟩ := g1.cells1
          obtain ⟨v0, v1, vf⟩ := d1.cells2
          obtain ⟨z0, z1, zf⟩ := PZ9.out.cells2
          have HMIN := hid hmin; have G2 := hid g2; have D3 := hid d3; have D4 := hid d4; have D2 := hid d2; have HBE := hid hi.be; have HSI := hid hi.size
          clear hmin g1 g2 d1 d2 d3 d4 hi ht hkm
          have ne1 : ¬ w3.heap.size = w.heap.size + 1 + 1 := by have := hz1.out; omega
          have ne2 : ¬ w.heap.size + 1 + 1 = w3.heap.size := by have := hz1.out; omega
          have ne3 : ¬ w1.heap.size = w.heap.size + 1 + 1 := by have := hz1.out; omega
          have ne4 : ¬ w.heap.size + 1 + 1 = w1.heap.size := by have := hz1.out; omega
          go_wp2_with fail
          go_region
          all_goals
            have hlw := hz1.out
            have hs6' := HSI.out
            have hD2 : ((W.setCell ⟨w.heap.size + 1 + 1, 0, none⟩ (.slice A9 (xs.length - (doneN o xs)) c9)).setCell ⟨w.heap.size + 1 + 1, 1, none⟩ (.int .u64 o)).drew.heap[b]? = some (.deferred (some [])) := (Below.heap_setCell _ ⟨w.heap.size + 1 + 1, 1, none⟩ _ b (by show b ≠ w.heap.size + 1 + 1; omega)).trans ((Below.heap_setCell _ ⟨w.heap.size + 1 + 1, 0, none⟩ _ b (by show b ≠ w.heap.size + 1 + 1; omega)).trans hD)
            have HD2 := hid hD2
            clear hD2 o0 of v0 v1 vf z0 z1 zf
            go_wp2
            rw [Exit.noGoto_ret]
            refine ⟨by simp, .inl ⟨_, _, rfl, run_takeDeferred HD2.out, ?_⟩⟩
            have hg := grownBy_putObj' (((W.setCell ⟨w.heap.size + 1 + 1, 0, none⟩ (.slice A9 (xs.length - (doneN o xs)) c9)).setCell ⟨w.heap.size + 1 + 1, 1, none⟩ (.int .u64 o)).drew) b (.deferred none)
            have hr : ∀ r, some b = some r → ∃ o' : Obj, (((W.setCell ⟨w.heap.size + 1 + 1, 0, none⟩ (.slice A9 (xs.length - (doneN o xs)) c9)).setCell ⟨w.heap.size + 1 + 1, 1, none⟩ (.int .u64 o)).drew).heap[r]? = some o' ∧ o'.isCells = false := fun r e => by cases e; exact ⟨_, HD2.out, rfl⟩
            have zz := (show Blk ((W.setCell ⟨w.heap.size + 1 + 1, 0, none⟩ (.slice A9 (xs.length - (doneN o xs)) c9)).setCell ⟨w.heap.size + 1 + 1, 1, none⟩ (.int .u64 o)).drew (w.heap.size + 1 + 1) 40 #[.slice A9 (xs.length - (doneN o xs)) c9, .int .u64 o] from ((PZ9.out.setCell 0 (.slice A9 (xs.length - (doneN o xs)) c9)).setCell 1 (.int .u64 o)).drew).abides hg hr
            obtain ⟨q0, q1, qf⟩ := zz.cells2
            refine ⟨.tuple #[qv A9 (xs.length - (doneN o xs)) c9 o, .slice G (doneN o xs) cg, .int .i64 0], (by simp [results, Try.results82, go_sem, q0, q1]), A9, xs.length - (doneN o xs), c9, G, (doneN o xs), cg, by rw [HE2.out], ?_, ?_, ?_, D2.out⟩
            · rw [HE2.out, HMIN.out]
              have qo : Qown W w.heap.size A9 (xs.length - (doneN o xs)) (xs.drop (doneN o xs)) := ⟨⟨D3.out.len, fun hn => by
                obtain ⟨b', off, e, e1, e2, hc⟩ := D3.out.row hn
                exact ⟨b', off, e, by omega, cell_lt (hc 0 hn 0 (by omega)), hc⟩⟩, D4.out⟩
              have qo2 : Qown W W2.heap.size A9 (xs.length - (doneN o xs)) (xs.drop (doneN o xs)) := ⟨⟨D3.out.len, fun hn => by
                obtain ⟨b', off, e, e1, e2, hc⟩ := D3.out.row hn
                exact ⟨b', off, e, e1, cell_lt (hc 0 hn 0 (by omega)), hc⟩⟩, D4.out⟩
              have qs := (qo2.setCell (p := ⟨w.heap.size + 1 + 1, 0, none⟩) (by show w.heap.size + 1 + 1 < W2.heap.size; omega) (.slice A9 (xs.length - (doneN o xs)) c9)).setCell (p := ⟨w.heap.size + 1 + 1, 1, none⟩) (by show w.heap.size + 1 + 1 < W2.heap.size; omega) (.int .u64 o)
              exact ((qs.step (Below.refl _ _).drew).put HD2.out _).mono (by omega)
            · rw [HE2.out, HMIN.out]
              exact (((G2.out.setCell (p := ⟨w.heap.size + 1 + 1, 0, none⟩) (by show w.heap.size + 1 + 1 < W6.heap.size; omega) _).setCell (p := ⟨w.heap.size + 1 + 1, 1, none⟩) (by show w.heap.size + 1 + 1 < W6.heap.size; omega) _).drewN 1 |>.abides hg hr).mono (by omega)
            · exact ((((below_then HB1.out HBE.out).setCell (p := ⟨w.heap.size + 1 + 1, 0, none⟩) (by show w.heap.size ≤ w.heap.size + 1 + 1; omega) _).setCell (p := ⟨w.heap.size + 1 + 1, 1, none⟩) (by show w.heap.size ≤ w.heap.size + 1 + 1; omega) _).drew).trans (belowK_b (w := w) (Nat.le_refl _) _ b _ _ (by omega) HD2.out rfl rfl)
        case stop =>
          rintro b k cc W hb ⟨rfl, hkm, hkn, hi, ht⟩ hD
          have hmin : min (doneN o xs) most.toNat = k := by omega
          gi_wp2
          obtain ⟨G, cg, g1, g2⟩ := hi.out
          obtain ⟨A9, c9, d1, d2, d3, d4⟩ := ht.box
          have PZ9 := hid (PZ1.out.below hi.be (by have := hz1.out; omega))
          obtain ⟨o0, of⟩ := g1.cells1
          obtain ⟨v0, v1, vf⟩ := d1.cells2
          obtain ⟨z0, z1, zf⟩ := PZ9.out.cells2
          have HMIN := hid hmin; have G2 := hid g2; have D3 := hid d3; have D4 := hid d4; have D2 := hid d2; have HBE := hid hi.be; have HSI := hid hi.size
          clear hmin g1 g2 d1 d2 d3 d4 hi ht hkm
          have ne1 : ¬ w3.heap.size = w.heap.size + 1 + 1 := by have := hz1.out; omega
          have ne2 : ¬ w.heap.size + 1 + 1 = w3.heap.size := by have := hz1.out; omega
          have ne3 : ¬ w1.heap.size = w.heap.size + 1 + 1 := by have := hz1.out; omega
          have ne4 : ¬ w.heap.size + 1 + 1 = w1.heap.size := by have := hz1.out; omega
          go_wp2_with fail
          go_region
          all_goals
            have hlw := hz1.out
            have hs6' := HSI.out
            have hD2 : ((W.setCell ⟨w.heap.size + 1 + 1, 0, none⟩ (.slice A9 (xs.length - k) c9)).setCell ⟨w.heap.size + 1 + 1, 1, none⟩ (.int .u64 o)).drew.heap[b]? = some (.deferred (some [])) := (Below.heap_setCell _ ⟨w.heap.size + 1 + 1, 1, none⟩ _ b (by show b ≠ w.heap.size + 1 + 1; omega)).trans ((Below.heap_setCell _ ⟨w.heap.size + 1 + 1, 0, none⟩ _ b (by show b ≠ w.heap.size + 1 + 1; omega)).trans hD)
            have HD2 := hid hD2
            clear hD2 o0 of v0 v1 vf z0 z1 zf
            go_wp2
            rw [Exit.noGoto_ret]
            refine ⟨by simp, .inl ⟨_, _, rfl, run_takeDeferred HD2.out, ?_⟩⟩
            have hg := grownBy_putObj' (((W.setCell ⟨w.heap.size + 1 + 1, 0, none⟩ (.slice A9 (xs.length - k) c9)).setCell ⟨w.heap.size + 1 + 1, 1, none⟩ (.int .u64 o)).drew) b (.deferred none)
            have hr : ∀ r, some b = some r → ∃ o' : Obj, (((W.setCell ⟨w.heap.size + 1 + 1, 0, none⟩ (.slice A9 (xs.length - k) c9)).setCell ⟨w.heap.size + 1 + 1, 1, none⟩ (.int .u64 o)).drew).heap[r]? = some o' ∧ o'.isCells = false := fun r e => by cases e; exact ⟨_, HD2.out, rfl⟩
            have zz := (show Blk ((W.setCell ⟨w.heap.size + 1 + 1, 0, none⟩ (.slice A9 (xs.length - k) c9)).setCell ⟨w.heap.size + 1 + 1, 1, none⟩ (.int .u64 o)).drew (w.heap.size + 1 + 1) 40 #[.slice A9 (xs.length - k) c9, .int .u64 o] from ((PZ9.out.setCell 0 (.slice A9 (xs.length - k) c9)).setCell 1 (.int .u64 o)).drew).abides hg hr
            obtain ⟨q0, q1, qf⟩ := zz.cells2
            refine ⟨.tuple #[qv A9 (xs.length - k) c9 o, .slice G k cg, .int .i64 0], (by simp [results, Try.results82, go_sem, q0, q1]), A9, xs.length - k, c9, G, k, cg, by rw [HE2.out], ?_, ?_, ?_, D2.out⟩
            · rw [HE2.out, HMIN.out]
              have qo : Qown W w.heap.size A9 (xs.length - k) (xs.drop k) := ⟨⟨D3.out.len, fun hn => by
                obtain ⟨b', off, e, e1, e2, hc⟩ := D3.out.row hn
                exact ⟨b', off, e, by omega, cell_lt (hc 0 hn 0 (by omega)), hc⟩⟩, D4.out⟩
              have qo2 : Qown W W2.heap.size A9 (xs.length - k) (xs.drop k) := ⟨⟨D3.out.len, fun hn => by
                obtain ⟨b', off, e, e1, e2, hc⟩ := D3.out.row hn
                exact ⟨b', off, e, e1, cell_lt (hc 0 hn 0 (by omega)), hc⟩⟩, D4.out⟩
              have qs := (qo2.setCell (p := ⟨w.heap.size + 1 + 1, 0, none⟩) (by show w.heap.size + 1 + 1 < W2.heap.size; omega) (.slice A9 (xs.length - k) c9)).setCell (p := ⟨w.heap.size + 1 + 1, 1, none⟩) (by show w.heap.size + 1 + 1 < W2.heap.size; omega) (.int .u64 o)
              exact ((qs.step (Below.refl _ _).drew).put HD2.out _).mono (by omega)
            · rw [HE2.out, HMIN.out]
              exact (((G2.out.setCell (p := ⟨w.heap.size + 1 + 1, 0, none⟩) (by show w.heap.size + 1 + 1 < W6.heap.size; omega) _).setCell (p := ⟨w.heap.size + 1 + 1, 1, none⟩) (by show w.heap.size + 1 + 1 < W6.heap.size; omega) _).drewN 1 |>.abides hg hr).mono (by omega)
            · exact ((((below_then HB1.out HBE.out).setCell (p := ⟨w.heap.size + 1 + 1, 0, none⟩) (by show w.heap.size ≤ w.heap.size + 1 + 1; omega) _).setCell (p := ⟨w.heap.size + 1 + 1, 1, none⟩) (by show w.heap.size ≤ w.heap.size + 1 + 1; omega) _).drew).trans (belowK_b (w := w) (Nat.le_refl _) _ b _ _ (by omega) HD2.out rfl rfl)
  · have e0 : qcheckC o xs = 230 := by rw [HC.out, if_neg hg]
    rw [e0]
    clear e0
    have HG := hid hg
    clear hg
    obtain ⟨y00, y01, yf0⟩ := PZ.out.cells2
    obtain ⟨y10, yf1⟩ := PM.out.cells1
    go_wp2
    rw [Exit.noGoto_ret]
    obtain ⟨q0, q1, qf⟩ := ((PZ.out.setCell 0 (.slice none 0 0)).setCell 1 (.int .u64 0)).cells2
    have E : drainF o xs most = (0, [], [], 230) := by rw [HE.out, if_pos HG.out]
    rw [E]
    exact ⟨.tuple #[qv none 0 0 0, .slice none 0 0, .int .i64 230], (by simp [results, Try.results82, go_sem, q0, q1]), none, 0, 0, none, 0, 0, rfl, Qown.nil _ _, Ow.nil _ _ _, (HB.out.setCell (by simp; omega) _).setCell (by simp; omega) _, Nat.le_refl _⟩
theorem drain_any (A : Option Addr) (n c : Nat) (o : Int) (xs : List Cb) (most : Int) (w : World) (h : Sm 2 encC (0, 0) w 0 w.heap.size A n xs) (hn : n ≤ 1000000) (h0 : 0 ≤ o) :
    Calls Try.prog 82 #[qv A n c o, .int .i64 most] w (DrPost w (drainF o xs most)) := callsIn_wide.1 (drain_in A n c o xs most w h hn h0)
end Go.Proofs.Ytfipdoofgbjbjaa
