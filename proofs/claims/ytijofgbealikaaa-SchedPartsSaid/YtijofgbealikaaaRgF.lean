/- A range over a function whose iterator turns nothing but blocks of its own, laid behind its entry: what its caller owes. No condition. -/
import Derived.RangeFuncNested
import Derived.RangeFuncLeaves
import Derived.Below
namespace Go.Proofs.Ytijofgbealikaaa
open Go.RowKit
/-- all blocks from B on are as they were -/
def KeptFrom (B : Nat) (W W' : World) : Prop := W.heap.size ≤ W'.heap.size ∧ ∀ i, B ≤ i → i < W.heap.size → W'.heap[i]? = W.heap[i]?
theorem KeptFrom.refl (B : Nat) (W : World) : KeptFrom B W W := ⟨Nat.le_refl _, fun _ _ _ => rfl⟩
theorem KeptFrom.trans {B : Nat} {a b c : World} (h : KeptFrom B a b) (k : KeptFrom B b c) : KeptFrom B a c := ⟨Nat.le_trans h.1 k.1, fun i hi hl => (k.2 i hi (Nat.lt_of_lt_of_le hl h.1)).trans (h.2 i hi hl)⟩
theorem KeptFrom.ofGrown {B g : Nat} {a b : World} (h : a.grownBy b (some g)) (hg : g < B) : KeptFrom B a b := ⟨h.size, fun i hi hl => h.block i hl (fun e => by cases e; omega)⟩
theorem KeptFrom.mono {B C : Nat} {a b : World} (h : KeptFrom B a b) (hc : B ≤ C) : KeptFrom C a b := ⟨h.1, fun i hi hl => h.2 i (Nat.le_trans hc hi) hl⟩
/-- the contract of an iterator that turns its own new blocks alone: N: how many elements there are; vs k: what yield is handed; Kp: what a round keeps for it -/
def FreshSeq (F : Fence) (m : Nat) (P : Program) (gf : Nat) (lb : Array Value) (vs : Nat → Array Value) (N : Nat) (Kp : World → World → Prop) (w0 : World) : Prop :=
  ∀ (l : Nat) (J Jx : Nat → World → Prop) (W : World), Below w0.heap.size w0 W → (∀ k A B, J k A → Below W.heap.size A B → J k B) →
    (∀ k W1, k < N → J k W1 → YieldAt F (m - 1) P l (vs k) W1 fun e W' => (e = .returned (.bool true) ∧ J (k + 1) W' ∧ KeptFrom W.heap.size W1 W' ∧ Kp W1 W') ∨ (e = .returned (.bool false) ∧ Jx (k + 1) W')) →
    J 0 W → CallsIn F m P gf (#[.func (.yield l) #[] #[]] ++ lb) W fun e W' => (∃ v, e = .returned v) ∧ (J N W' ∨ ∃ k, Jx k W')
/-- how a round may be left -/
def freshEnd (B0 : Nat) (I : Nat → World → Prop) (Ix : Code → Nat → World → Prop) (Kp : World → World → Prop) (k : Nat) (W : World) : Exit → Act → World → Prop
  | .normal, _, W' => KeptFrom B0 W W' ∧ I k W' ∧ Kp W W'
  | .ret, _, W' => KeptFrom B0 W W' ∧ Ix .ret k W'
  | .exit id, _, W' => KeptFrom B0 W W' ∧ Ix (.exit id) k W'
  | .goto t, _, W' => KeptFrom B0 W W' ∧ Ix (.goto t) k W'
  | .panic _, _, _ => False
  | .outgrown, _, _ => False
theorem below_put {B l : Nat} {W : World} (o : Obj) (hl : B ≤ l) : Below B W (W.putObj l o) :=
  ⟨rfl, rfl, rfl, by simp [World.putObj], fun i hi => World.putObj_heap_other (by omega)⟩
set_option maxHeartbeats 2000000 in
theorem wpIn_rangeFunc_fresh {F : Fence} {n : Nat} {P : Program} {g : Operand} {ps : Array Tmp} {assign body : Code} {Q : Exit → Act → World → Prop} {a : Act} {w : World} (hround : F.round = none) (h1 : 1 ≤ n)
    {gf : Nat} {lb : Array Value} (hg : a.eval g = .func (.func gf) #[] lb) (hin : F.fn gf) (eg : ∀ args w, (callFunc gf args).run P w = .ok (.enter gf args) w)
    {vs : Nat → Array Value} {N : Nat} {Kp : World → World → Prop} {w0 : World} (hseq : FreshSeq F (n - 1) P gf lb vs N Kp w0) (hb0 : Below w0.heap.size w0 w) (hvs : ∀ k, (vs k).size = ps.size)
    (hKt : ∀ A B C, Kp A B → Kp B C → Kp A C) (hKb : ∀ (W : World) (l : Nat) (o : Obj), w.heap.size ≤ l → Kp W (W.putObj l o))
    (I : Nat → World → Prop) (Ix : Code → Nat → World → Prop) (hI : ∀ k A B, I k A → Below w.heap.size A B → I k B) (hX : ∀ c k A B, Ix c k A → Below w.heap.size A B → Ix c k B) (h0 : I 0 w) (after : Nat → Act)
    (hassign : ∀ (l k : Nat) (W : World) (K : Act → World → Prop), K (after k) W → assign.wpIn (F.inRound l) (n - 1 - 1) P (Exit.then K (fun _ _ _ => False)) { tmps := (ps.zip (vs k)).foldl (fun t (p, v) => t.setIfInBounds p v) a.tmps, defers := [] } W)
    (hbody : ∀ (l k : Nat) (W : World), k < N → w.heap.size ≤ W.heap.size → I k W → body.wpIn (F.inRound l) (n - 1 - 1) P (freshEnd w.heap.size I Ix Kp (k + 1) W) (after k) W)
    (hdone : ∀ (b : Nat) (W : World), w.heap.size ≤ b → I N W → W.heap[b]? = some (.deferred (some [])) → Q .normal { a with defers := { target := .collected b, args := #[] } :: a.defers } W)
    (hstop : ∀ (b k : Nat) (c : Code) (W : World), w.heap.size ≤ b → Ix c k W → W.heap[b]? = some (.deferred (some [])) → c.wpIn F n P Q { a with defers := { target := .collected b, args := #[] } :: a.defers } W) :
    (Code.rangeFunc g ps assign body).wpIn F n P Q a w := by
  refine wpIn_rangeFunc fun fn hfn => ?_
  rw [hround]
  -- the record, by its state and the jump that is pending
  let mk : LoopState → Option Code → Obj := fun st pe => .loop { state := st, pending := pe, fn, tmps := a.tmps, params := ps, assign, body, defers := w.heap.size }
  generalize hW1 : (w.alloc (.deferred (some []))).alloc (mk .ready none) = W1
  have hz1 : W1.heap.size = w.heap.size + 2 := by rw [← hW1]; simp
  have rec1 : W1.heap[w.heap.size + 1]? = some (mk .ready none) := by
    have := World.alloc_heap_new (w.alloc (.deferred (some []))) (mk .ready none)
    rw [World.size_alloc] at this
    rw [← hW1]; exact this
  have def1 : W1.heap[w.heap.size]? = some (.deferred (some [])) := by
    rw [← hW1]; exact (Below.heap_alloc _ _ _ (by simp)).trans (World.alloc_heap_new w _)
  have hb1 : Below w.heap.size w W1 := by rw [← hW1]; exact ((Below.refl _ w).alloc (Nat.le_refl _) _).alloc (by simp) _
  refine ⟨w.heap.size + 1, [{ target := .collected w.heap.size, args := #[] }], W1, { target := .fn (.func gf) lb, args := #[.func (.yield (w.heap.size + 1)) #[] #[]] }, W1, gf, #[.func (.yield (w.heap.size + 1)) #[] #[]] ++ lb, W1,
    by rw [← hW1]; exact run_enterLoop_outer _ _ _ _ _, by simp only [resolve, hg]; simp [go_sem], fun f' hf' => by simp [Target.leads] at hf'; subst hf'; exact hin, by simp [invoke, go_sem, eg _ _], fun _ => h1, ?_⟩
  have hbw1 : Below w0.heap.size w0 W1 := ⟨hb1.os.trans hb0.os, hb1.tape.trans hb0.tape, hb1.output.trans hb0.output, Nat.le_trans hb0.size hb1.size, fun i hi => (hb1.block i (Nat.lt_of_lt_of_le hi hb0.size)).trans (hb0.block i hi)⟩
  refine (hseq (w.heap.size + 1) (fun k W => (I k W ∧ W1.heap.size ≤ W.heap.size) ∧ W.heap[w.heap.size + 1]? = some (mk .ready none) ∧ W.heap[w.heap.size]? = some (.deferred (some [])))
    (fun k W => ∃ c, Ix c k W ∧ W.heap[w.heap.size + 1]? = some (mk .done (some c)) ∧ W.heap[w.heap.size]? = some (.deferred (some []))) W1 hbw1 ?_ ?_
    ⟨⟨hI _ _ _ h0 hb1, Nat.le_refl _⟩, rec1, def1⟩).mono ?_
  · rintro k A B ⟨⟨hi, hs⟩, hl, hd⟩ hbl
    exact ⟨⟨hI _ _ _ hi ⟨hbl.os, hbl.tape, hbl.output, hbl.size, fun i hi => hbl.block i (by omega)⟩, Nat.le_trans hs hbl.size⟩, (hbl.block _ (by omega)).trans hl, (hbl.block _ (by omega)).trans hd⟩
  · -- a round
    rintro k W hk ⟨⟨hi, hs⟩, hl, hd⟩
    refine ⟨fn, _, assign, body, run_yield (P := P) (args := vs k) hl (by rw [hvs k]), roundIn_of_wpIn hfn (hassign _ k W _ ?_)⟩
    refine ⟨_, run_beginRound hl rfl, ?_⟩
    have hlt : w.heap.size + 1 < W.heap.size := (Array.getElem?_eq_some_iff.1 hl).1
    have hzp : (W.putObj (w.heap.size + 1) (mk .busy none)).heap.size = W.heap.size := by simp [World.putObj]
    have hl2 : (W.putObj (w.heap.size + 1) (mk .busy none)).heap[w.heap.size + 1]? = some (mk .busy none) := World.putObj_heap_same hlt
    have hd2 : (W.putObj (w.heap.size + 1) (mk .busy none)).heap[w.heap.size]? = some (.deferred (some [])) := (World.putObj_heap_other (by omega)).trans hd
    refine wpIn_mono (hbody _ k _ hk (by rw [hzp]; omega) (hI _ _ _ hi (below_put _ (by omega)))) ?_
    have over : ∀ (jump : Option Code) (W3 : World), KeptFrom w.heap.size (W.putObj (w.heap.size + 1) (mk .busy none)) W3 →
        W3.heap[w.heap.size + 1]? = some (mk .busy none) ∧ (Instr.endRound (w.heap.size + 1) jump).run P W3 = .ok (.bool jump.isNone) (W3.putObj (w.heap.size + 1) (mk (if jump.isNone then .ready else .done) jump)) ∧
        (W3.putObj (w.heap.size + 1) (mk (if jump.isNone then .ready else .done) jump)).heap[w.heap.size + 1]? = some (mk (if jump.isNone then .ready else .done) jump) ∧
        (W3.putObj (w.heap.size + 1) (mk (if jump.isNone then .ready else .done) jump)).heap[w.heap.size]? = some (.deferred (some [])) := fun jump W3 hk3 => by
      have hl3 := (hk3.2 _ (by omega) (by rw [hzp]; omega)).trans hl2
      exact ⟨hl3, run_endRound jump hl3, World.putObj_heap_same (Array.getElem?_eq_some_iff.1 hl3).1, (World.putObj_heap_other (by omega)).trans ((hk3.2 _ (Nat.le_refl _) (by rw [hzp]; omega)).trans hd2)⟩
    have keeps : ∀ (o o' : Obj) (W3 : World), KeptFrom w.heap.size (W.putObj (w.heap.size + 1) o) W3 → KeptFrom W1.heap.size W (W3.putObj (w.heap.size + 1) o') := fun o o' W3 hk3 => by
      have hz : (W.putObj (w.heap.size + 1) o).heap.size = W.heap.size := by simp [World.putObj]
      have hz3 : (W3.putObj (w.heap.size + 1) o').heap.size = W3.heap.size := by simp [World.putObj]
      refine ⟨by rw [hz3]; have := hk3.1; omega, fun i hi1 hi2 => ?_⟩
      rw [World.putObj_heap_other (by omega), hk3.2 i (by omega) (by omega), World.putObj_heap_other (by omega)]
    intro e a3 W3 hp
    have hz3 : ∀ o, (W3.putObj (w.heap.size + 1) o).heap.size = W3.heap.size := fun o => by simp [World.putObj]
    cases e with
    | normal =>
      obtain ⟨hk3, hi3, hq3⟩ := hp
      obtain ⟨hl3, hr, hl4, hd4⟩ := over none W3 hk3
      exact ⟨_, _, hr, .inl ⟨rfl, ⟨⟨hI _ _ _ hi3 (below_put _ (by omega)), by rw [hz3]; exact Nat.le_trans hs (Nat.le_trans (Nat.le_of_eq hzp.symm) hk3.1)⟩, hl4, hd4⟩, keeps _ _ _ hk3, hKt _ _ _ (hKb _ _ _ (by omega)) (hKt _ _ _ hq3 (hKb _ _ _ (by omega)))⟩⟩
    | ret =>
      obtain ⟨hl3, hr, hl4, hd4⟩ := over (some .ret) W3 hp.1
      exact ⟨_, _, hr, .inr ⟨rfl, _, hX _ _ _ _ hp.2 (below_put _ (by omega)), hl4, hd4⟩⟩
    | exit id =>
      obtain ⟨hl3, hr, hl4, hd4⟩ := over (some (.exit id)) W3 hp.1
      exact ⟨_, _, hr, .inr ⟨rfl, _, hX _ _ _ _ hp.2 (below_put _ (by omega)), hl4, hd4⟩⟩
    | goto t =>
      obtain ⟨hl3, hr, hl4, hd4⟩ := over (some (.goto t)) W3 hp.1
      exact ⟨_, _, hr, .inr ⟨rfl, _, hX _ _ _ _ hp.2 (below_put _ (by omega)), hl4, hd4⟩⟩
    | panic _ => exact hp.elim
    | outgrown => exact hp.elim
  · -- behind the iterator
    rintro e W2 ⟨⟨v, rfl⟩, ⟨⟨hi, hs⟩, hl, hd⟩ | ⟨k, c, hx, hl, hd⟩⟩
    · exact ⟨none, _, run_endLoop hl (by simp), hdone _ _ (Nat.le_refl _) (hI _ _ _ hi (below_put _ (by omega))) ((World.putObj_heap_other (by omega)).trans hd)⟩
    · exact ⟨some c, _, run_endLoop hl (by simp), hstop _ k c _ (Nat.le_refl _) (hX _ _ _ _ hx (below_put _ (by omega))) ((World.putObj_heap_other (by omega)).trans hd)⟩
end Go.Proofs.Ytijofgbealikaaa
