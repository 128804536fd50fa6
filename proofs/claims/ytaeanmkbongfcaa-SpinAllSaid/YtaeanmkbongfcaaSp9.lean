/- package spin: holders. No condition but sizes. -/
import Derived.Test.YtaeanmkbongfcaaSp8
import Derived.Test.YtaeanmkbongfcaaKitA
import Derived.Test.YtaeanmkbongfcaaSli
import Derived.Laws.EntriesVeiled
namespace Go.Proofs.Ytaeanmkbongfcaa
open Go.RowKit Go.Shelf
attribute [local go_sem] Oper.semAt_some
theorem Plm.same {W W' : World} {P lo : Nat} {m : MSt} {L : Option Addr} {nl cl lo2 : Nat} {l : List Spn} (h : Plm W P lo m L nl cl lo2 l)
    (hg : ∀ g cs t, Blk W g t cs → (t = 83 ∨ t = 38 ∨ t = 36 ∨ t = 4) → W'.heap[g]? = W.heap[g]?) (hs : W.heap.size ≤ W'.heap.size) : Plm W' P lo m L nl cl lo2 l := by
  obtain ⟨⟨A, n, c, B, k, d, hb, hm⟩, hr, hl⟩ := h
  refine ⟨⟨A, n, c, B, k, d, (hg _ _ _ hb (.inl rfl)).trans hb, hm.oa.same fun a ha => ?_, hm.ob.same fun a ha => ?_, hm.apart, hm.hn, hm.hm⟩, hr.same fun a ha => ?_, Nat.le_trans hl hs⟩
  · obtain ⟨_, cs, h'⟩ := hm.oa.blk a ha; exact hg _ _ _ h' (.inr (.inr (.inl rfl)))
  · obtain ⟨_, cs, h'⟩ := hm.ob.blk a ha; exact hg _ _ _ h' (.inr (.inr (.inr rfl)))
  · obtain ⟨_, cs, h'⟩ := hr.blk a ha; exact hg _ _ _ h' (.inr (.inl rfl))
/-- the iterator's state behind k picks that are there -/
structure Hld (P lo Tp Tq lq hq : Nat) (Q : Option Addr) (nq cq : Nat) (picks : List Int) (m0 : MSt) (l0 : List Spn) (L : Option Addr) (nl cl lo2 : Nat) (k : Nat) (W : World) : Prop where
  pl : Plm W P lo (playS m0 l0 ((vpk nl picks).take k)).1 L nl cl lo2 (playS m0 l0 ((vpk nl picks).take k)).2
  bp : Blk W Tp 81 #[ptr P]
  bq : Blk W Tq 27 #[.slice Q nq cq]
  sl : Sl i64 0 W lq hq Q nq picks
section
variable {P lo Tp Tq lq hq : Nat} {Q : Option Addr} {nq cq : Nat} {picks : List Int} {m0 : MSt} {l0 : List Spn} {L : Option Addr} {nl cl lo2 : Nat} {k : Nat} {W W' : World}
theorem Hld.same (h : Hld P lo Tp Tq lq hq Q nq cq picks m0 l0 L nl cl lo2 k W)
    (hg : ∀ g cs t, Blk W g t cs → (t = 83 ∨ t = 38 ∨ t = 36 ∨ t = 4) → W'.heap[g]? = W.heap[g]?) (hp : W'.heap[Tp]? = W.heap[Tp]?) (hq' : W'.heap[Tq]? = W.heap[Tq]?)
    (hr : ∀ b, lq ≤ b → b < hq → W'.heap[b]? = W.heap[b]?) (hs : W.heap.size ≤ W'.heap.size) : Hld P lo Tp Tq lq hq Q nq cq picks m0 l0 L nl cl lo2 k W' :=
  ⟨h.pl.same hg hs, hp.trans h.bp, hq'.trans h.bq, h.sl.keep fun b o e1 e2 => by unfold World.cell?; rw [hr b e1 e2]⟩
/-- the law's own book-keeping -/
theorem Hld.books {B0 : Nat} {row : Option Nat} (h : Hld P lo Tp Tq lq hq Q nq cq picks m0 l0 L nl cl lo2 k W) (hh : hq ≤ B0) (hB : hq ≤ W.heap.size) (hg : W.grownBy W' row) (hr : ∀ r, row = some r → B0 ≤ r ∧ ∃ o : Obj, W.heap[r]? = some o ∧ o.isCells = false) : Hld P lo Tp Tq lq hq Q nq cq picks m0 l0 L nl cl lo2 k W' := by
  have key : ∀ g cs t, Blk W g t cs → W'.heap[g]? = W.heap[g]? := fun g cs t hb => hg.block g hb.lt (fun e => by
    obtain ⟨_, o, ho, hc⟩ := hr g e.symm
    unfold Blk at hb
    rw [hb] at ho
    cases ho
    cases hc)
  exact h.same (fun g cs t hb _ => key g cs t hb) (key _ _ _ h.bp) (key _ _ _ h.bq) (fun b _ e2 => hg.block b (by omega) (fun e => by have := (hr b e.symm).1; omega)) hg.size
/-- what turns rows of ints from B0 on, and one box of another's -/
theorem Hld.grown {row : Option Nat} (h : Hld P lo Tp Tq lq hq Q nq cq picks m0 l0 L nl cl lo2 k W) (hB : hq ≤ W.heap.size) (hg : W.grownBy W' row) (hr : ∀ r, row = some r → hq ≤ r ∧ r ≠ Tq ∧ ∃ cs t, Blk W r t cs ∧ (t = 3 ∨ t = 27)) : Hld P lo Tp Tq lq hq Q nq cq picks m0 l0 L nl cl lo2 k W' := by
  have key : ∀ g cs t, Blk W g t cs → t ≠ 3 → t ≠ 27 → W'.heap[g]? = W.heap[g]? := fun g cs t hb h1 h2 => hg.block g hb.lt (fun e => by
    obtain ⟨_, _, cs', t', hb', ht⟩ := hr g e.symm
    unfold Blk at hb hb'
    rw [hb] at hb'
    simp only [Option.some.injEq, Obj.cells.injEq] at hb'
    rcases ht with ht | ht
    · exact h1 (hb'.2.1.trans ht)
    · exact h2 (hb'.2.1.trans ht))
  refine h.same (fun g cs t hb ht => key g cs t hb ?_ ?_) (key _ _ _ h.bp (by decide) (by decide)) (hg.block _ h.bq.lt (fun e => (hr _ e.symm).2.1 rfl)) (fun b _ e2 => hg.block b (by omega) (fun e => by have := (hr b e.symm).1; omega)) hg.size
  · rcases ht with rfl | rfl | rfl | rfl <;> decide
  · rcases ht with rfl | rfl | rfl | rfl <;> decide
/-- a step -/
theorem Hld.next (h : Hld P lo Tp Tq lq hq Q nq cq picks m0 l0 L nl cl lo2 k W) (hk : k < (vpk nl picks).length) (hhi : hq ≤ W.heap.size) (hP : hq ≤ P) (hL : hq ≤ lo2) (hg : GrownP (plp P L) W W')
    (hm : Plm W' P lo (pstepF (playS m0 l0 ((vpk nl picks).take k)).1 (playS m0 l0 ((vpk nl picks).take k)).2 ((vpk nl picks)[k]?.getD 0).toNat).1 L nl cl lo2 (pstepF (playS m0 l0 ((vpk nl picks).take k)).1 (playS m0 l0 ((vpk nl picks).take k)).2 ((vpk nl picks)[k]?.getD 0).toNat).2) : Hld P lo Tp Tq lq hq Q nq cq picks m0 l0 L nl cl lo2 (k + 1) W' := by
  obtain ⟨_, _, _, _, _, _, hpb, _⟩ := h.pl.box
  have hLb := h.pl.row
  refine ⟨by rw [take_succ_getD hk, playS_snoc]; exact hm, (hg.block _ h.bp.lt ?_).trans h.bp, (hg.block _ h.bq.lt ?_).trans h.bq, h.sl.keep fun b o e1 e2 => ?_⟩
  · rintro (e | ⟨a, ha, e⟩)
    · exact h.bp.ne hpb (by decide) e
    · exact hLb.ne_blk h.bp (by decide) a ha e
  · rintro (e | ⟨a, ha, e⟩)
    · exact h.bq.ne hpb (by decide) e
    · exact hLb.ne_blk h.bq (by decide) a ha e
  · unfold World.cell?
    rw [hg.block b (by omega)]
    rintro (e | ⟨a, ha, e⟩)
    · omega
    · have := (hLb.blk a ha).1; omega
end
theorem holders_any (P : Nat) (Q : Option Addr) (nq cq : Nat) (w : World) : Calls Try.prog 42 #[ptr P, .slice Q nq cq] w fun e w' => e = .returned (.func (.func 56) #[] #[ptr (w.heap.size + 1), ptr w.heap.size]) ∧ (w.alloc (.cells #[ptr P] 81)).alloc (.cells #[.slice Q nq cq] 27) = w' := by
  go_enter Try.func42, Try.ntmps42
  go_wp2
  go_ret
  exact ⟨rfl, rfl⟩
end Go.Proofs.Ytaeanmkbongfcaa
