/- package grace: needed, begin, report: CPUs by their places. No condition but sizes. -/
import Derived.Test.YtfipdoofgbjbjaaGr4
import Derived.Test.YtfipdoofgbjbjaaKitA
import Derived.Laws.EntriesVeiled
namespace Go.Proofs.Ytfipdoofgbjbjaa
open Go.RowKit Go.Shelf
attribute [local go_sem] Oper.semAt_some
/-- all below H but g is kept -/
def KpO (H g : Nat) (A B : World) : Prop := ∀ i, i < H → i ≠ g → B.heap[i]? = A.heap[i]?
theorem KpO.trans {H g : Nat} (A B C : World) (h : KpO H g A B) (k : KpO H g B C) : KpO H g A C := fun i hi hg => (k i hi hg).trans (h i hi hg)
theorem KpO.put {H g l : Nat} (W : World) (o : Obj) (hl : H ≤ l) : KpO H g W (W.putObj l o) := fun i hi _ => World.putObj_heap_other (by omega)
theorem KpO.ofGrown {H g : Nat} {A B : World} (h : A.grownBy B (some g)) (hA : H ≤ A.heap.size) : KpO H g A B := fun i hi hg => h.block i (by omega) (by simpa using hg)
theorem KpO.blk {H g k : Nat} {A B : World} {t : TypeId} {cs : Array Value} (h : KpO H g A B) (hb : Blk A k t cs) (hk : k < H) (hg : k ≠ g) : Blk B k t cs := (h k hk hg).trans hb
theorem GrownP.thenB {q : Nat → Prop} {B : Nat} {w a b : World} (h : GrownP q w a) (k : Below B a b) (hB : w.heap.size ≤ B) : GrownP q w b :=
  ⟨k.os.trans h.os, k.tape.trans h.tape, k.output.trans h.output, Nat.le_trans h.size k.size, fun i hi hq => (k.block i (by omega)).trans (h.block i hi hq)⟩
theorem GrownP.set {q : Nat → Prop} {w a : World} (h : GrownP q w a) {p : Addr} (hp : q p.block) (u : Value) : GrownP q w (a.setCell p u) :=
  ⟨h.os, h.tape, h.output, by simpa using h.size, fun i hi hq => (Below.heap_setCell a p u i (fun e => hq (e ▸ hp))).trans (h.block i hi hq)⟩
theorem GrownP.mono {q r : Nat → Prop} {w a : World} (h : GrownP q w a) (hr : ∀ i, q i → r i) : GrownP r w a :=
  ⟨h.os, h.tape, h.output, h.size, fun i hi hn => h.block i hi (fun hq => hn (hr i hq))⟩
/-- the rest of a both -/
structure Bc where
  now : Int
  A : Option Addr
  n : Nat
  k : Nat
  B : Option Addr
  m : Nat
  d : Nat
  E : Option Addr
  ne : Nat
  ke : Nat
@[reducible] def Bc.cs (c : Bc) (g : Gr) (gd nd kd : Nat) : Array Value := bth c.now c.A c.n c.k c.B c.m c.d g (some ⟨gd, 0, none⟩) nd kd c.E c.ne c.ke
theorem needed_any (gb : Nat) (w : World) : Calls Try.prog 98 #[ptr gb] w fun e w' => e = .returned (.func (.func 103) #[] #[ptr w.heap.size]) ∧ w.alloc (.cells #[ptr gb] 120) = w' := by
  go_enter Try.func98, Try.ntmps98
  go_wp2
  go_ret
  exact ⟨rfl, rfl⟩
set_option maxRecDepth 100000 in
set_option maxHeartbeats 8000000 in
theorem needed_seq (M bx gb gd nd kd : Nat) (c : Bc) (g : Gr) (w0 : World) (hm : 1 ≤ M) (hnd : nd ≤ 1000000)
    (hbx : Blk w0 bx 120 #[ptr gb]) (hP : Blk w0 gb 126 (c.cs g gd nd kd)) (hne : gb ≠ gd) (hne' : bx ≠ gd) :
    FreshSeq Fence.wide M Try.prog 103 #[ptr bx] (fun k => #[.int .i64 k, .pointer (some ⟨gd, k, none⟩)]) nd (KpO w0.heap.size gd) w0 := by
  obtain ⟨now, A, n, k, B, m, d, E, ne, ke⟩ := c
  intro l J Jx W hb0 hJB hY hJ0
  refine callsIn_of_wp Try.func103 rfl trivial ?_ rfl
  simp only [Try.ntmps103, List.size_toArray, List.length_cons, List.length_nil, Nat.reduceAdd, Nat.reduceSub, Array.replicate_succ, Array.replicate_zero, List.push_toArray, List.append_toArray, List.nil_append, List.cons_append]
  have HB0 := hid hb0; have HY := hid hY; have HJ := hid hJ0
  have PX := hid (hbx.below hb0 hbx.lt); have P := hid (hP.below hb0 hP.lt)
  have hL := hid (show bx < w0.heap.size ∧ gb < w0.heap.size from ⟨hbx.lt, hP.lt⟩)
  have hN := hid (show gb ≠ gd ∧ bx ≠ gd from ⟨hne, hne'⟩)
  clear hb0 hJB hY hJ0 hbx hP hne hne'
  obtain ⟨y00, yf0⟩ := PX.out.cells1
  obtain ⟨y10, y11, y12, y13, y14, y15, y16, y17, yf1⟩ := P.out.cells8
  refine wpIn_wide.2 ?_
  go_wp2_with fail
  clear y00 yf0 y10 y11 y12 y13 y14 y15 y16 y17 yf1
  go_loopw [3, 10] (fun _ i wr => ∃ j : Nat, j ≤ nd ∧ i = .int .i64 j ∧ J j wr ∧ Blk wr bx 120 #[ptr gb] ∧ Blk wr gb 126 (bth now A n k B m d g (some ⟨gd, 0, none⟩) nd kd E ne ke)) (fun _ i _ => nd - (intOf i).toNat)
  case atStart => exact ⟨0, Nat.zero_le _, rfl, HJ.out, PX.out, P.out⟩
  case round =>
    clear HJ PX P
    obtain ⟨j, hj, rfl, h1, h2, h3⟩ := hrel
    have HJ := hid h1; have PX := hid h2; have P := hid h3
    clear h1 h2 h3
    by_cases hjn : j < nd
    rotate_left
    · obtain rfl : j = nd := by omega
      have hnn : ¬ ((j : Int) < (j : Int)) := by omega
      go_wp2
      (try simp only [Exit.noGoto])
      go_end0
      exact ⟨⟨_, rfl⟩, .inl HJ.out⟩
    have hji : (j : Int) < (nd : Int) := by omega
    have hw1 : IntKind.i64.wrap ((j : Int) + 1) = (j : Int) + 1 := by rw [IntKind.wrap_i64]; omega
    have hy0 := HY.out j wr hjn HJ.out
    obtain ⟨fn, tmps, assign, body, hy, hR⟩ := hy0
    clear HY
    obtain ⟨y00, yf0⟩ := PX.out.cells1
    obtain ⟨y10, y11, y12, y13, y14, y15, y16, y17, yf1⟩ := P.out.cells8
    go_upto_region 3 with fail
    refine (wpIn_wide (n := M)).1 ?_
    gi_wp2_with fail
    clear y00 yf0 y10 y11 y12 y13 y14 y15 y16 y17 yf1
    refine hR.mono ?_
    rintro e W3 (⟨rfl, hJ3, hk3, hp3⟩ | ⟨rfl, hJx3⟩)
    · gi_wp2
      go_wp2_with fail
      go_roundw
      case rel => exact ⟨j + 1, by omega, by go_num, hJ3, hp3.blk PX.out hL.out.1 hN.out.2, hp3.blk P.out hL.out.2 hN.out.1⟩
      case measure => simp [intOf]; omega
    · gi_wp2
      go_wp2_with fail
      (try rw [Exit.noGoto_ret])
      exact bodyPost_ret (v := .tuple #[]) (by simp [results, Try.results103, go_sem]) rfl ⟨⟨_, rfl⟩, .inr ⟨_, hJx3⟩⟩
/-- rows while CPUs are gone through -/
def fillT (xs : List Bool) (k : Nat) : List Bool := List.replicate k true ++ xs.drop k
theorem fillT_set {xs : List Bool} {k : Nat} (h : k < xs.length) : (fillT xs k).set k true = fillT xs (k + 1) := by
  apply List.ext_getElem?
  intro j
  unfold fillT
  rw [List.getElem?_set]
  simp only [List.length_append, List.length_replicate, List.length_drop]
  by_cases e : k = j
  · subst e
    rw [if_pos rfl, if_pos (by omega), List.getElem?_append_left (by simp), List.getElem?_replicate, if_pos (by omega)]
  · rw [if_neg e]
    by_cases e2 : j < k
    · rw [List.getElem?_append_left (by simpa using e2), List.getElem?_append_left (by simp; omega), List.getElem?_replicate, List.getElem?_replicate, if_pos e2, if_pos (by omega)]
    · rw [List.getElem?_append_right (by simp; omega), List.getElem?_append_right (by simp; omega)]
      simp only [List.length_replicate, List.getElem?_drop]
      congr 1; omega
theorem fillT_all (xs : List Bool) : fillT xs xs.length = List.replicate xs.length true := by unfold fillT; simp
def repF (xs : List Bool) (c k : Nat) : List Bool := if c < k then xs.set c false else xs
theorem repF_at {xs : List Bool} {c k : Nat} (h : k ≤ c ∨ c < k) : (repF xs c k)[k]?.getD false = xs[k]?.getD false := by
  unfold repF
  split
  · rw [List.getElem?_set_ne (by omega)]
  · rfl
theorem set_get {xs : List Bool} {k : Nat} : xs.set k (xs[k]?.getD false) = xs := by
  apply List.ext_getElem?
  intro j
  rw [List.getElem?_set]
  by_cases e : k = j
  · subst e
    rw [if_pos rfl]
    split
    · rename_i h; rw [List.getElem?_eq_getElem h]; rfl
    · rename_i h; rw [List.getElem?_eq_none (by omega)]
  · rw [if_neg e]
theorem repF_ne {xs : List Bool} {c k : Nat} (h : k ≠ c) : (repF xs c k).set k (xs[k]?.getD false) = repF xs c (k + 1) := by
  have h1 : repF xs c (k + 1) = repF xs c k := by unfold repF; by_cases e : c < k <;> simp [e] <;> omega
  rw [h1, ← repF_at (c := c) (xs := xs) (k := k) (by omega)]
  exact set_get
theorem repF_ne' {xs : List Bool} {c k : Nat} {v : Bool} (h : k ≠ c) (hv : v = xs[k]?.getD false) : (repF xs c k).set k v = repF xs c (k + 1) := by rw [hv]; exact repF_ne h
theorem repF_eq {xs : List Bool} {c : Nat} : (repF xs c c).set c false = repF xs c (c + 1) := by
  unfold repF; rw [if_neg (by omega), if_pos (by omega)]
theorem repF_all {xs : List Bool} {c : Nat} (h : c < xs.length) : repF xs c xs.length = xs.set c false := by unfold repF; rw [if_pos h]
theorem Ow.atHeap {α : Type} {enc : α → Value} {w w' : World} {lo gd n c : Nat} {e : TypeId} {xs : List α} (h : Ow enc w lo e (some ⟨gd, 0, none⟩) n c xs) (hs : w'.heap[gd]? = w.heap[gd]?) : Ow enc w' lo e (some ⟨gd, 0, none⟩) n c xs := h.same (fun a ha => by cases ha; exact hs)
/-- what a method that changes the grace leaves -/
def ChPost (w : World) (gb gd lo nd kd : Nat) (c : Bc) (g' : Gr) (x : Ending) (w' : World) : Prop :=
  x = .returned (.tuple #[]) ∧ Blk w' gb 126 (c.cs g' gd nd kd) ∧ Ow blv w' lo 4 (some ⟨gd, 0, none⟩) nd kd g'.nd ∧ GrownP (fun i => i = gb ∨ i = gd) w w'
set_option maxRecDepth 100000 in
set_option maxHeartbeats 8000000 in
theorem begin_in (gb gd lo nd kd : Nat) (c : Bc) (g : Gr) (w : World) (hP : Blk w gb 126 (c.cs g gd nd kd)) (hD : Ow blv w lo 4 (some ⟨gd, 0, none⟩) nd kd g.nd) (hne : gb ≠ gd) (hn : nd ≤ 8) :
    CallsIn Fence.wide 5 Try.prog 93 #[ptr gb] w (ChPost w gb gd lo nd kd c (gBegin g)) := by
  obtain ⟨now, A, n, k, B, m, d, E, ne, ke⟩ := c
  have HD := hid hD; have P := hid hP; have hl := hid hD.len; have hlt := hid (show gb < w.heap.size ∧ gd < w.heap.size from ⟨hP.lt, by obtain ⟨h1, cs, h2⟩ := hD.blk _ rfl; exact h2.lt⟩)
  clear hD hP
  refine callsIn_of_wp_marks Try.func93 rfl trivial ?_ rfl
  simp only [Try.ntmps93, List.size_toArray, List.length_cons, List.length_nil, Nat.reduceAdd, Nat.reduceSub, Array.replicate_succ, Array.replicate_zero, List.push_toArray, List.append_toArray, List.nil_append, List.cons_append]
  refine wpIn_wide.2 ?_
  go_wp2_with fail
  refine (needed_any gb w).mono ?_
  rintro e W1' ⟨rfl, hw1⟩
  have bx := below_box w (.cells #[ptr gb] 120)
  replace HD := hid (HD.out.step bx); replace P := hid (P.out.step bx)
  clear bx
  have PX := hid (Blk.new w 120 #[ptr gb])
  have HBB := hid (below_box w (.cells #[ptr gb] 120))
  have hz1 := hid (show (w.alloc (.cells #[ptr gb] 120)).heap.size = w.heap.size + 1 by simp)
  subst hw1
  go_wp2_with fail
  generalize w.alloc (.cells #[ptr gb] 120) = W1 at *
  have hsz := hz1.out
  have hlt1 := hlt.out
  refine (wpIn_wide (n := 5)).1 ?_
  refine' wpIn_rangeFunc_fresh rfl (by omega) (gf := 103) (lb := #[ptr w.heap.size]) rfl trivial (enters_of Try.func103 (by kernel_rfl) rfl)
    (needed_seq (5 - 1) w.heap.size gb gd nd kd ⟨now, A, n, k, B, m, d, E, ne, ke⟩ g W1 (by omega) (by omega) PX.out P.out hne (by omega)) (Below.refl _ _) (fun _ => rfl)
    (fun A B C => KpO.trans A B C) (fun W l o hl => KpO.put W o hl)
    (fun j W => Ow blv W lo 4 (some ⟨gd, 0, none⟩) nd kd (fillT g.nd j) ∧ Blk W gb 126 (bth now A n k B m d g (some ⟨gd, 0, none⟩) nd kd E ne ke) ∧ GrownP (fun i => i = gb ∨ i = gd) w W) (fun _ _ _ => False)
    (fun j A' B' hI hb => ⟨hI.1.atHeap (hb.block _ (by omega)), hI.2.1.below hb (by omega), hI.2.2.thenB hb (by omega)⟩) (fun _ _ _ _ h _ => h) ⟨HD.out, P.out, .ofBelow HBB.out⟩ _ ?assign ?body ?done ?stop
  all_goals clear hsz hlt1
  case assign =>
    intro l' k' W K hK
    have HK := hid hK
    clear hK
    gi_wp2_with fail
    exact HK.out
  case stop => exact fun _ _ _ _ _ h => h.elim
  case body =>
    rintro l' j W hk hW1 ⟨h1, h2, h3⟩
    have HO := hid h1; have P1 := hid h2; have HGP := hid h3
    obtain ⟨gq, hgq, _, _, c0, f0⟩ := h1.at_ false hk
    cases hgq
    clear h1 h2 h3
    gi_wp2_with fail
    clear c0 f0
    have hgr := grown_set (World.grownBy.refl W (some gd)) j (.bool true)
    have hs1 := hz1.out; have hs2 := hlt.out
    exact ⟨KeptFrom.ofGrown hgr (by omega), ⟨by rw [← fillT_set (by rw [hl.out]; exact hk)]; exact HO.out.stored j true, P1.out.far (p := ⟨gd, j, none⟩) hne _, HGP.out.set (p := ⟨gd, j, none⟩) (.inr rfl) _⟩, KpO.ofGrown hgr hW1⟩
  case done =>
    rintro b W hb ⟨h1, h2, h3⟩ hD
    have HO := hid h1; have P1 := hid h2; have HGP := hid h3; have hs1 := hz1.out; have hs2 := hlt.out
    have HDF := hid (show (W.setCell ⟨gb, 5, none⟩ (.bool true)).heap[b]? = some (.deferred (some [])) from (Below.heap_setCell W ⟨gb, 5, none⟩ (.bool true) b (by simp; omega)).trans hD)
    clear h1 h2 h3 hD
    obtain ⟨y00, y01, y02, y03, y04, y05, y06, y07, yf0⟩ := P1.out.cells8
    go_wp2
    clear y00 y01 y02 y03 y04 y05 y06 y07 yf0
    refine ⟨by simp, .inl ⟨_, _, rfl, run_takeDeferred HDF.out, ?_⟩⟩
    refine ⟨.tuple #[], (by simp [results, Try.results93, go_sem]), rfl, ?_, ?_, ?_⟩
    · exact (P1.out.setCell 5 (.bool true)).below (below_put (B := W1.heap.size) (l := b) _ (by omega)) (by omega)
    · have hq := HO.out
      rw [show fillT g.nd nd = (gBegin g).nd from by rw [← hl.out]; exact fillT_all _] at hq
      exact (hq.atHeap (Below.heap_setCell W ⟨gb, 5, none⟩ (.bool true) gd (by simp; omega))).atHeap (World.putObj_heap_other (show gd ≠ b by omega))
    · exact (HGP.out.set (p := ⟨gb, 5, none⟩) (.inl rfl) _).thenB (below_put (B := W1.heap.size) (l := b) _ (by omega)) (by omega)
set_option maxRecDepth 100000 in
set_option maxHeartbeats 8000000 in
theorem report_in (gb gd lo nd kd cp : Nat) (c : Bc) (g : Gr) (w : World) (hP : Blk w gb 126 (c.cs g gd nd kd)) (hD : Ow blv w lo 4 (some ⟨gd, 0, none⟩) nd kd g.nd) (hne : gb ≠ gd) (hn : nd ≤ 8) (hcp : cp < nd) (hdn : wrap64 (g.dn + 1) = g.dn + 1) :
    CallsIn Fence.wide 5 Try.prog 92 #[ptr gb, .int .i64 cp] w (ChPost w gb gd lo nd kd c (gReport g cp)) := by
  obtain ⟨now, A, n, k, B, m, d, E, ne, ke⟩ := c
  have HD := hid hD; have P := hid hP; have hl := hid hD.len; have hDN := hid hdn; have hlt := hid (show gb < w.heap.size ∧ gd < w.heap.size from ⟨hP.lt, by obtain ⟨h1, cs, h2⟩ := hD.blk _ rfl; exact h2.lt⟩)
  clear hD hP hdn
  have bx := below_box w (.cells #[.int .i64 cp] 3)
  replace HD := hid (HD.out.step bx); replace P := hid (P.out.step bx)
  clear bx
  have PC := hid (Blk.new w 3 #[.int .i64 cp])
  have HBA := below_box w (.cells #[.int .i64 cp] 3)
  refine callsIn_of_wp_marks Try.func92 rfl trivial ?_ rfl
  simp only [Try.ntmps92, List.size_toArray, List.length_cons, List.length_nil, Nat.reduceAdd, Nat.reduceSub, Array.replicate_succ, Array.replicate_zero, List.push_toArray, List.append_toArray, List.nil_append, List.cons_append]
  refine wpIn_wide.2 ?_
  go_wp2_with fail
  have hz0 := hid (show (w.alloc (.cells #[.int .i64 cp] 3)).heap.size = w.heap.size + 1 by simp)
  generalize w.alloc (.cells #[.int .i64 cp] 3) = W0 at *
  refine (needed_any gb W0).mono ?_
  rintro e W1' ⟨rfl, hw1⟩
  have bx := below_box W0 (.cells #[ptr gb] 120)
  replace HD := hid (HD.out.step bx); replace P := hid (P.out.step bx); replace PC := hid (PC.out.step bx)
  clear bx
  have PX := hid (Blk.new W0 120 #[ptr gb])
  have HBB := hid (below_then HBA (below_box W0 (.cells #[ptr gb] 120)))
  have hz1 := hid (show (W0.alloc (.cells #[ptr gb] 120)).heap.size = w.heap.size + 2 by have := hz0.out; simp; omega)
  subst hw1
  go_wp2_with fail
  generalize W0.alloc (.cells #[ptr gb] 120) = W1 at *
  clear HBA
  have hsz := hz1.out; have hsz0 := hz0.out
  have hlt1 := hlt.out
  refine (wpIn_wide (n := 5)).1 ?_
  refine' wpIn_rangeFunc_fresh rfl (by omega) (gf := 103) (lb := #[ptr W0.heap.size]) rfl trivial (enters_of Try.func103 (by kernel_rfl) rfl)
    (needed_seq (5 - 1) W0.heap.size gb gd nd kd ⟨now, A, n, k, B, m, d, E, ne, ke⟩ g W1 (by omega) (by omega) PX.out P.out hne (by omega)) (Below.refl _ _) (fun _ => rfl)
    (fun A B C => KpO.trans A B C) (fun W l o hl => KpO.put W o hl)
    (fun j W => Ow blv W lo 4 (some ⟨gd, 0, none⟩) nd kd (repF g.nd cp j) ∧ Blk W gb 126 (bth now A n k B m d g (some ⟨gd, 0, none⟩) nd kd E ne ke) ∧ Blk W w.heap.size 3 #[.int .i64 cp] ∧ GrownP (fun i => i = gb ∨ i = gd) w W) (fun _ _ _ => False)
    (fun j A' B' hI hb => ⟨hI.1.atHeap (hb.block _ (by omega)), hI.2.1.below hb (by omega), hI.2.2.1.below hb (by omega), hI.2.2.2.thenB hb (by omega)⟩) (fun _ _ _ _ h _ => h) ⟨HD.out, P.out, PC.out, .ofBelow HBB.out⟩ _ ?assign ?body ?done ?stop
  all_goals clear hsz hlt1 hsz0
  case assign =>
    intro l' k' W K hK
    have HK := hid hK
    clear hK
    gi_wp2_with fail
    exact HK.out
  case stop => exact fun _ _ _ _ _ h => h.elim
  case body =>
    rintro l' j W hk hW1 ⟨h1, h2, h3, h4⟩
    have HO := hid h1; have P1 := hid h2; have PC1 := hid h3; have HGP := hid h4
    obtain ⟨gq, hgq, _, _, c0, f0⟩ := h1.at_ false hk
    cases hgq
    rw [repF_at (by omega)] at c0
    obtain ⟨v, hv⟩ : ∃ v, v = g.nd[j]?.getD false := ⟨_, rfl⟩
    rw [← hv] at c0
    have HV := hid hv
    clear h1 h2 h3 h4 hv
    have hdl : (j : Int) < 9223372036854775807 := by omega
    by_cases hjc : j = cp
    · subst hjc
      have d1 : ((j : Int) != (j : Int)) = false := by simp
      obtain ⟨y10, yf1⟩ := PC1.out.cells1
      simp only [blv] at c0
      rcases v with _ | _
      · skip
        clear d1 y10 yf1
        gi_wp2_with fail
        clear c0 f0
        have hgr := grown_set (World.grownBy.refl W (some gd)) j (.bool false)
        have hs1 := hz1.out; have hs2 := hlt.out
        refine ⟨KeptFrom.ofGrown hgr (by omega), ⟨?_, P1.out.far (p := ⟨gd, j, none⟩) hne _, PC1.out.far (p := ⟨gd, j, none⟩) (by simp; omega) _, HGP.out.set (p := ⟨gd, j, none⟩) (.inr rfl) _⟩, KpO.ofGrown hgr hW1⟩
        have hst := HO.out.stored j false
        rw [repF_eq] at hst
        exact hst
      · skip
        gi_wp2_with fail
        clear c0 f0
        have hgr := grown_set (World.grownBy.refl W (some gd)) j (.bool false)
        have hs1 := hz1.out; have hs2 := hlt.out
        refine ⟨KeptFrom.ofGrown hgr (by omega), ⟨?_, P1.out.far (p := ⟨gd, j, none⟩) hne _, PC1.out.far (p := ⟨gd, j, none⟩) (by simp; omega) _, HGP.out.set (p := ⟨gd, j, none⟩) (.inr rfl) _⟩, KpO.ofGrown hgr hW1⟩
        have hst := HO.out.stored j false
        rw [repF_eq] at hst
        exact hst
    have d1 : ((j : Int) != (cp : Int)) = true := by simp; omega
    obtain ⟨y10, yf1⟩ := PC1.out.cells1
    simp only [blv] at c0
    rcases v with _ | _
    · skip
      clear d1 y10 yf1
      gi_wp2_with fail
      clear c0 f0
      have hgr := grown_set (World.grownBy.refl W (some gd)) j (.bool false)
      have hs1 := hz1.out; have hs2 := hlt.out
      refine ⟨KeptFrom.ofGrown hgr (by omega), ⟨?_, P1.out.far (p := ⟨gd, j, none⟩) hne _, PC1.out.far (p := ⟨gd, j, none⟩) (by simp; omega) _, HGP.out.set (p := ⟨gd, j, none⟩) (.inr rfl) _⟩, KpO.ofGrown hgr hW1⟩
      have hst := HO.out.stored j false
      rw [repF_ne' hjc HV.out] at hst
      exact hst
    · skip
      gi_wp2_with fail
      clear c0 f0
      have hgr := grown_set (World.grownBy.refl W (some gd)) j (.bool true)
      have hs1 := hz1.out; have hs2 := hlt.out
      refine ⟨KeptFrom.ofGrown hgr (by omega), ⟨?_, P1.out.far (p := ⟨gd, j, none⟩) hne _, PC1.out.far (p := ⟨gd, j, none⟩) (by simp; omega) _, HGP.out.set (p := ⟨gd, j, none⟩) (.inr rfl) _⟩, KpO.ofGrown hgr hW1⟩
      have hst := HO.out.stored j true
      rw [repF_ne' hjc HV.out] at hst
      exact hst
  case done =>
    rintro b W hb ⟨h1, h2, h3, h4⟩ hDf
    have hq := h1
    have hln := hl.out
    rw [← hln, repF_all (by omega), hln] at hq
    have HO := hid hq; have P1 := hid h2; have HGP := hid h4; have HDF := hid hDf
    clear h1 h2 h3 h4 hDf hq hln
    obtain ⟨g2, hg2⟩ : ∃ g2 : Gr, g2 = { g with nd := g.nd.set cp false } := ⟨_, rfl⟩
    have hRep : gReport g cp = if gIdle g2.nd then { g2 with dn := g2.dn + 1, on := false } else g2 := by rw [hg2]; rfl
    have P2 := hid (show Blk W gb 126 (bth now A n k B m d g2 (some ⟨gd, 0, none⟩) nd kd E ne ke) by rw [hg2]; exact P1.out)
    have HO2 := hid (show Ow blv W lo 4 (some ⟨gd, 0, none⟩) nd kd g2.nd by rw [hg2]; exact HO.out)
    have hDN2 := hid (show wrap64 (g2.dn + 1) = g2.dn + 1 by rw [hg2]; exact hDN.out)
    clear hg2 HO P1
    have HR := hid hRep
    clear hRep
    obtain ⟨y00, y01, y02, y03, y04, y05, y06, y07, yf0⟩ := P2.out.cells8
    go_wp2_with fail
    clear y00 y01 y02 y03 y04 y05 y06 y07 yf0
    refine (idle_any g2 (some ⟨gd, 0, none⟩) nd kd lo W HO2.out.sl (by omega)).mono ?_
    rintro x W2 ⟨rfl, hb2⟩
    have P3 := hid (P2.out.step hb2); have HO3 := hid (HO2.out.step hb2)
    have hbW := hid (show b < W.heap.size from (Array.getElem?_eq_some_iff.1 HDF.out).1)
    have HD3 := hid (show W2.heap[b]? = some (.deferred (some [])) from (hb2.block _ hbW.out).trans HDF.out)
    have HG3 := hid (HGP.out.thenB hb2 HGP.out.size)
    have hs1 := hid (show W1.heap.size ≤ b from hb)
    clear hb2 P2 HO2 HDF HGP
    obtain ⟨i, hi⟩ : ∃ i, i = gIdle g2.nd := ⟨_, rfl⟩
    rw [← hi]
    rw [← hi] at HR
    obtain ⟨dn1, hdn1⟩ : ∃ x, wrap64 (g2.dn + 1) = x := ⟨_, rfl⟩
    have e1 := hdn1
    have e3 := hDN2.out
    rw [hdn1] at e3
    rw [← e3] at HR
    clear hi e3 hdn1
    rcases i with _ | _
    · skip
      obtain ⟨y00, y01, y02, y03, y04, y05, y06, y07, yf0⟩ := P3.out.cells8
      go_wp2
      clear y00 y01 y02 y03 y04 y05 y06 y07 yf0
      rw [HR.out]
      have hs2 := hz1.out; have hs3 := hlt.out; have hs4 := hs1.out; have hs5 := hbW.out
      refine ⟨by simp, .inl ⟨_, _, rfl, run_takeDeferred HD3.out, ?_⟩⟩
      refine ⟨.tuple #[], (by simp [results, Try.results92, go_sem]), rfl, ?_, ?_, ?_⟩
      · exact P3.out.below (below_put (B := W1.heap.size) (l := b) _ (by omega)) (by omega)
      · exact HO3.out.atHeap (World.putObj_heap_other (show gd ≠ b by omega))
      · exact HG3.out.thenB (below_put (B := W1.heap.size) (l := b) _ (by omega)) (by omega)
    · skip
      obtain ⟨y00, y01, y02, y03, y04, y05, y06, y07, yf0⟩ := P3.out.cells8
      go_wp2
      clear y00 y01 y02 y03 y04 y05 y06 y07 yf0
      rw [HR.out]
      (try rw [e1])
      have hs2 := hz1.out; have hs3 := hlt.out; have hs4 := hs1.out; have hs5 := hbW.out
      have HD4 := hid (show ((W2.setCell ⟨gb, 3, none⟩ (.int .i64 dn1)).setCell ⟨gb, 5, none⟩ (.bool false)).heap[b]? = some (.deferred (some [])) from ((Below.heap_setCell _ ⟨gb, 5, none⟩ (.bool false) b (by simp; omega)).trans (Below.heap_setCell W2 ⟨gb, 3, none⟩ (.int .i64 dn1) b (by simp; omega))).trans HD3.out)
      refine ⟨by simp, .inl ⟨_, _, rfl, run_takeDeferred HD4.out, ?_⟩⟩
      refine ⟨.tuple #[], (by simp [results, Try.results92, go_sem]), rfl, ?_, ?_, ?_⟩
      · exact ((P3.out.setCell 3 (.int .i64 dn1)).setCell 5 (.bool false)).below (below_put (B := W1.heap.size) (l := b) _ (by omega)) (by omega)
      · exact ((HO3.out.atHeap (Below.heap_setCell W2 ⟨gb, 3, none⟩ (.int .i64 dn1) gd (by simp; omega))).atHeap (Below.heap_setCell _ ⟨gb, 5, none⟩ (.bool false) gd (by simp; omega))).atHeap (World.putObj_heap_other (show gd ≠ b by omega))
      · exact ((HG3.out.set (p := ⟨gb, 3, none⟩) (.inl rfl) _).set (p := ⟨gb, 5, none⟩) (.inl rfl) _).thenB (below_put (B := W1.heap.size) (l := b) _ (by omega)) (by omega)
theorem begin_any (gb gd lo nd kd : Nat) (c : Bc) (g : Gr) (w : World) (hP : Blk w gb 126 (c.cs g gd nd kd)) (hD : Ow blv w lo 4 (some ⟨gd, 0, none⟩) nd kd g.nd) (hne : gb ≠ gd) (hn : nd ≤ 8) :
    Calls Try.prog 93 #[ptr gb] w (ChPost w gb gd lo nd kd c (gBegin g)) := callsIn_wide.1 (begin_in gb gd lo nd kd c g w hP hD hne hn)
theorem report_any (gb gd lo nd kd cp : Nat) (c : Bc) (g : Gr) (w : World) (hP : Blk w gb 126 (c.cs g gd nd kd)) (hD : Ow blv w lo 4 (some ⟨gd, 0, none⟩) nd kd g.nd) (hne : gb ≠ gd) (hn : nd ≤ 8) (hcp : cp < nd) (hdn : wrap64 (g.dn + 1) = g.dn + 1) :
    Calls Try.prog 92 #[ptr gb, .int .i64 cp] w (ChPost w gb gd lo nd kd c (gReport g cp)) := callsIn_wide.1 (report_in gb gd lo nd kd cp c g w hP hD hne hn hcp hdn)
end Go.Proofs.Ytfipdoofgbjbjaa
