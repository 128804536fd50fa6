/- package queue: the iterator done. No condition but sizes. -/
import Derived.Test.YtfipdoofgbjbjaaQd
import Derived.Laws.EntriesVeiled
namespace Go.Proofs.Ytfipdoofgbjbjaa
open Go.RowKit Go.Shelf
attribute [local go_sem] Oper.semAt_some
/-- how many are done -/
def doneN (o : Int) (xs : List Cb) : Nat := (xs.takeWhile fun c => decide (c.1 ≤ o)).length
theorem doneN_le (o : Int) (xs : List Cb) : doneN o xs ≤ xs.length := List.IsPrefix.length_le (List.takeWhile_prefix _)
theorem doneN_lt {o : Int} : ∀ {xs : List Cb} {k : Nat}, k < doneN o xs → perAt xs k ≤ o
  | [], k, h => by simp [doneN] at h
  | x :: xs, k, h => by
    unfold doneN at h
    by_cases hx : x.1 ≤ o
    · rw [List.takeWhile_cons_of_pos (by simpa using hx)] at h
      cases k with
      | zero => exact hx
      | succ k => exact doneN_lt (xs := xs) (by simpa [doneN] using h)
    · rw [List.takeWhile_cons_of_neg (by simpa using hx)] at h
      simp at h
theorem doneN_stop {o : Int} : ∀ {xs : List Cb}, ¬ (doneN o xs < xs.length ∧ perAt xs (doneN o xs) ≤ o)
  | [], h => by simp at h
  | x :: xs, h => by
    unfold doneN at h
    by_cases hx : x.1 ≤ o
    · rw [List.takeWhile_cons_of_pos (by simpa using hx)] at h
      refine doneN_stop (xs := xs) ⟨by have := h.1; simp at this; exact this, ?_⟩
      have := h.2
      simpa [perAt, doneN] using this
    · rw [List.takeWhile_cons_of_neg (by simpa using hx)] at h
      exact hx h.2
/-- the queue behind k takings -/
structure Drs (D Tb lo hi : Nat) (o : Int) (xs : List Cb) (k : Nat) (W : World) : Prop where
  fn : Blk W Tb 153 #[.func (.func 99) #[ptr D] #[]]
  box : ∃ A c, Blk W D 139 (dcs A (xs.length - k) c o) ∧ xs.length - k ≤ c ∧ Sm 2 encC (0, 0) W lo hi A (xs.length - k) (xs.drop k) ∧ (0 < xs.length - k → ∀ b off, A = some ⟨b, off, none⟩ → ∀ i, W.frozen? ⟨b, i, none⟩ = false)
def lenAt (D : Nat) (W : World) : Nat := match W.cell? ⟨D, 0, none⟩ with | some (.slice _ m _) => m | _ => 0
section
variable {D Tb lo hi : Nat} {o : Int} {xs : List Cb} {k : Nat} {W W' : World}
theorem Drs.lenAt (h : Drs D Tb lo hi o xs k W) : Go.Proofs.Ytfipdoofgbjbjaa.lenAt D W = xs.length - k := by
  obtain ⟨A, c, hb, _⟩ := h.box
  unfold Go.Proofs.Ytfipdoofgbjbjaa.lenAt
  rw [hb.cells2.1]
/-- what turns neither the boxes nor the row -/
theorem Drs.kept (h : Drs D Tb lo hi o xs k W) (hT : W'.heap[Tb]? = W.heap[Tb]?) (hD : W'.heap[D]? = W.heap[D]?) (hr : ∀ b, lo ≤ b → b < hi → W'.heap[b]? = W.heap[b]?) : Drs D Tb lo hi o xs k W' := by
  obtain ⟨A, c, h1, h2, h3, h4⟩ := h.box
  refine ⟨hT.trans h.fn, A, c, hD.trans h1, h2, h3.keep fun b i e1 e2 => by unfold World.cell?; rw [hr b e1 e2], fun hn b off hA i => ?_⟩
  obtain ⟨b', off', hA', e1, e2, _⟩ := h3.row hn
  rw [hA] at hA'
  cases hA'
  rw [← h4 hn b off hA i]
  unfold World.frozen?
  rw [hr b e1 e2]
theorem Drs.next (h : Drs D Tb lo hi o xs k W) (hg : W.grownBy W' (some D)) (hT : Tb ≠ D) (hTl : Tb < W.heap.size) (hlo : D < lo) (hhi : hi ≤ W.heap.size) (hk : k < xs.length) {A : Option Addr} {m c : Nat} (hb0 : Blk W D 139 (dcs A m c o)) {A' : Option Addr} (hb : Blk W' D 139 (dcs A' (xs.length - k - 1) (xs.length - k - 1) o)) (hA : 1 < xs.length - k → ∃ b off, A = some ⟨b, off, none⟩ ∧ A' = some ⟨b, off + 2, none⟩) :
    Drs D Tb lo hi o xs (k + 1) W' := by
  obtain ⟨A0, c0, h1, h2, h3, h4⟩ := h.box
  have hA0 : A0 = A := by
    have e := h1.cells2.1
    rw [hb0.cells2.1] at e
    simp at e
    exact e.1.symm
  subst hA0
  refine ⟨(hg.block _ hTl (fun e => by cases e; exact hT rfl)).trans h.fn, A', xs.length - k - 1, hb, Nat.le_refl _, ?_, ?_⟩
  · refine ⟨by rw [List.length_drop], fun hn => ?_⟩
    obtain ⟨b, off, rfl, rfl⟩ := hA (by omega)
    obtain ⟨b', off', e, e1, e2, hc⟩ := h3.row (by omega)
    cases e
    refine ⟨b, off + 2, rfl, e1, e2, fun j hj i hi => ?_⟩
    have hx := hc (j + 1) (by omega) i hi
    rw [show off + 2 + j * 2 + i = off + (j + 1) * 2 + i by omega]
    have he : (xs.drop (k + 1))[j]? = (xs.drop k)[j + 1]? := by rw [List.getElem?_drop, List.getElem?_drop, show k + 1 + j = k + (j + 1) by omega]
    rw [he, ← hx]
    unfold World.cell?
    rw [hg.block b (by omega) (fun e => by cases e; omega)]
  · intro hn b2 off2 hb2 i
    obtain ⟨b, off, rfl, rfl⟩ := hA (by omega)
    cases hb2
    obtain ⟨b', off', e, e1, e2, _⟩ := h3.row (by omega)
    cases e
    rw [← h4 (by omega) _ off rfl i]
    unfold World.frozen?
    rw [hg.block b2 (by omega) (fun e => by cases e; omega)]
end
theorem done_any (D : Nat) (w : World) : Calls Try.prog 94 #[ptr D] w fun e w' => e = .returned (.func (.func 100) #[] #[ptr w.heap.size]) ∧ w.alloc (.cells #[.func (.func 99) #[ptr D] #[]] 153) = w' := by
  go_enter Try.func94, Try.ntmps94
  go_wp2
  go_ret
  exact ⟨rfl, rfl⟩
set_option maxRecDepth 100000 in
set_option maxHeartbeats 4000000 in
theorem done_seq (M D Tb lo hi : Nat) (o : Int) (xs : List Cb) (B0 : Nat) (hm : 1 ≤ M) (hn : xs.length ≤ 1000000) (hT : Tb ≠ D) (hlo : D < lo) (hlh : lo ≤ hi) (hTh : hi ≤ Tb) :
    StateSeq Fence.wide M Try.prog 100 #[ptr Tb] (fun k => #[.int .u64 (xs[k]?.getD (0, 0)).2]) (doneN o xs) D (Drs D Tb lo hi o xs) := by
  intro l J Jx W hJD hY hJ0 hI0
  have ek := enters_of Try.func99 (by kernel_rfl) rfl
  refine callsIn_of_wp Try.func100 rfl trivial ?_ rfl
  simp only [Try.ntmps100, List.size_toArray, List.length_cons, List.length_nil, Nat.reduceAdd, Nat.reduceSub, Array.replicate_succ, Array.replicate_zero, List.push_toArray, List.append_toArray, List.nil_append, List.cons_append]
  refine wpIn_wide.2 ?_
  go_wp2_with fail
  go_loopw [3, 4] (fun _ _ wr => ∃ k : Nat, k ≤ doneN o xs ∧ J k wr ∧ Drs D Tb lo hi o xs k wr) (fun _ _ wr => lenAt D wr)
  case atStart => exact ⟨0, Nat.zero_le _, hJ0, hI0⟩
  case round =>
    obtain ⟨k, hk, hj, hd⟩ := hrel
    have HJ := hid hj; have HD := hid hd
    have HYH := hid (show hi ≤ wr.heap.size from Nat.le_trans hTh (Nat.le_of_lt hd.fn.lt))
    clear hj hd hJ0 hI0
    obtain ⟨A, c, hb, hc, hs, hf⟩ := HD.out.box
    obtain ⟨t0, tf⟩ := HD.out.fn.cells1
    by_cases hlt : k < doneN o xs
    · have hkn : k < xs.length := Nat.lt_of_lt_of_le hlt (doneN_le o xs)
      have htake := hid (take_some D A (xs.length - k) c lo hi o (xs.drop k) wr hb hs (by omega) hc (by omega) (by have := doneN_lt hlt; unfold perAt at this ⊢; rw [List.getElem?_drop, Nat.add_zero]; exact this))
      have HBK := hid hb; have HSM := hid hs
      clear hb hs hf hc
      go_wp2_with fail
      clear t0 tf
      refine htake.out.mono ?_
      rintro e w1 ⟨rfl, A', hg, hb', hA⟩
      have hd1 := HD.out.next hg hT HD.out.fn.lt hlo HYH.out hkn HBK.out hb' hA
      have hj1 := hJD k _ _ HJ.out hg
      have hx : ((xs.drop k)[0]?.getD (0, 0)).2 = (xs[k]?.getD (0, 0)).2 := by rw [List.getElem?_drop, Nat.add_zero]
      obtain ⟨v, hv⟩ : ∃ v, v = (xs[k]?.getD (0, 0)).2 := ⟨_, rfl⟩
      have hy0 := hY k w1 hlt hj1 hd1
      rw [hx, ← hv]
      rw [← hv] at hy0
      obtain ⟨fn, tmps, assign, body, hy, hR⟩ := hy0
      clear htake hx hg hb' hA hj1 hv
      have HL := hid (show lenAt D wr = xs.length - k from HD.out.lenAt)
      clear HD HBK HSM HJ hd1 hY
      go_upto_region 1 with fail
      refine (wpIn_wide (n := M)).1 ?_
      gi_wp2
      refine hR.mono ?_
      rintro e W3 (⟨rfl, hJ3, hI3⟩ | ⟨rfl, hJx3⟩)
      · gi_wp2
        go_wp2_with fail
        go_roundw
        case rel => exact ⟨k + 1, by omega, hJ3, hI3⟩
        case measure => rw [HL.out, hI3.lenAt]; omega
      · gi_wp2
        go_wp2_with fail
        exact bodyPost_ret (v := .tuple #[]) (by simp [results, Try.results100, go_sem]) rfl ⟨⟨_, rfl⟩, .inr ⟨_, hJx3⟩⟩
    · obtain rfl : k = doneN o xs := by omega
      have hst := doneN_stop (o := o) (xs := xs)
      have htake := hid (take_none D A (xs.length - doneN o xs) c o.toNat lo hi o (xs.drop (doneN o xs)) wr hb hs (by omega) (fun h => hst ⟨by omega, by have := h.2; unfold perAt at this ⊢; rwa [List.getElem?_drop, Nat.add_zero] at this⟩))
      clear hb hs hf hc hst hY
      go_wp2_with fail
      clear t0 tf
      refine htake.out.mono ?_
      rintro e w1 ⟨rfl, q, rfl⟩
      have hg : wr.grownBy (wr.drewN q) (some D) := ⟨rfl, rfl, rfl, Nat.le_refl _, fun _ _ _ => rfl⟩
      have hj1 := hid (hJD _ _ _ HJ.out hg)
      have hd1 := hid (HD.out.kept (W' := wr.drewN q) rfl rfl (fun _ _ _ => rfl))
      clear htake hg
      go_wp2
      exact bodyPost_ret (v := .tuple #[]) (by simp [results, Try.results100, go_sem]) rfl ⟨⟨_, rfl⟩, .inl ⟨hj1.out, hd1.out⟩⟩
end Go.Proofs.Ytfipdoofgbjbjaa
