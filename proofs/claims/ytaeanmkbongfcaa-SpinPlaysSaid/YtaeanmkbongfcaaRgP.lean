/- A range over a function whose iterator writes some blocks of cells of its own between the rounds: what its caller owes. No condition. -/
import Derived.Test.YtaeanmkbongfcaaRgS
namespace Go.Proofs.Ytaeanmkbongfcaa
open Go.RowKit
/-- new blocks, and turns of the blocks p -/
structure GrownP (p : Nat → Prop) (w w' : World) : Prop where
  os : w'.os = w.os
  tape : w'.tape = w.tape
  output : w'.output = w.output
  size : w.heap.size ≤ w'.heap.size
  block : ∀ i, i < w.heap.size → ¬ p i → w'.heap[i]? = w.heap[i]?
theorem GrownP.refl (p : Nat → Prop) (w : World) : GrownP p w w := ⟨rfl, rfl, rfl, Nat.le_refl _, fun _ _ _ => rfl⟩
theorem GrownP.trans {p : Nat → Prop} {a b c : World} (h : GrownP p a b) (k : GrownP p b c) : GrownP p a c :=
  ⟨k.os.trans h.os, k.tape.trans h.tape, k.output.trans h.output, Nat.le_trans h.size k.size, fun i hi hp => (k.block i (Nat.lt_of_lt_of_le hi h.size) hp).trans (h.block i hi hp)⟩
theorem GrownP.ofBelow {p : Nat → Prop} {w w' : World} (h : Below w.heap.size w w') : GrownP p w w' := ⟨h.os, h.tape, h.output, h.size, fun i hi _ => h.block i hi⟩
theorem GrownP.ofGrown {p : Nat → Prop} {w w' : World} {g : Nat} (h : w.grownBy w' (some g)) (hp : p g) : GrownP p w w' := ⟨h.os, h.tape, h.output, h.size, fun i hi hn => h.block i hi (fun e => by cases e; exact hn hp)⟩
theorem GrownP.below {p : Nat → Prop} {B : Nat} {a w w' : World} (h : Below B a w) (k : GrownP p w w') (hp : ∀ i, p i → B ≤ i) (hB : B ≤ w.heap.size) : Below B a w' :=
  ⟨k.os.trans h.os, k.tape.trans h.tape, k.output.trans h.output, Nat.le_trans h.size k.size, fun i hi => (k.block i (Nat.lt_of_lt_of_le hi hB) (fun e => by have := hp i e; omega)).trans (h.block i hi)⟩
/-- what the caller says abides a step of the iterator: new blocks, and turns of the blocks p -/
def StepsP (p : Nat → Prop) (J : Nat → World → Prop) : Prop := ∀ k A B, J k A → GrownP p A B → J k B
/-- the contract of an iterator with a state: It k: k elements have been handed out; N: how many there are; vs k: what yield is handed -/
def StateSeqP (F : Fence) (m : Nat) (P : Program) (gf : Nat) (lb : Array Value) (vs : Nat → Array Value) (N : Nat) (p : Nat → Prop) (It : Nat → World → Prop) : Prop :=
  ∀ (l : Nat) (J Jx : Nat → World → Prop) (W : World), StepsP p J →
    (∀ k W1, k < N → J k W1 → It (k + 1) W1 → YieldAt F (m - 1) P l (vs k) W1 fun e W' => (e = .returned (.bool true) ∧ J (k + 1) W' ∧ It (k + 1) W') ∨ (e = .returned (.bool false) ∧ Jx (k + 1) W')) →
    J 0 W → It 0 W → CallsIn F m P gf (#[.func (.yield l) #[] #[]] ++ lb) W fun e W' => (∃ v, e = .returned v) ∧ ((J N W' ∧ It N W') ∨ ∃ k, Jx k W')
set_option maxHeartbeats 2000000 in
theorem wpIn_rangeFunc_stateP {F : Fence} {n : Nat} {P : Program} {g : Operand} {ps : Array Tmp} {assign body : Code} {Q : Exit → Act → World → Prop} {a : Act} {w : World} (hround : F.round = none) (h1 : 1 ≤ n)
    {gf : Nat} {lb : Array Value} (hg : a.eval g = .func (.func gf) #[] lb) (hin : F.fn gf) (eg : ∀ args w, (callFunc gf args).run P w = .ok (.enter gf args) w)
    {vs : Nat → Array Value} {N : Nat} {p : Nat → Prop} {It : Nat → World → Prop} (hseq : StateSeqP F (n - 1) P gf lb vs N p It) (hvs : ∀ k, (vs k).size = ps.size) (hD : ∀ i, p i → i < w.heap.size)
    (I : Nat → World → Prop) (Ix : Code → Nat → World → Prop) (hI : Books w.heap.size I) (hT : Books w.heap.size It) (hX : ∀ c, Books w.heap.size (Ix c)) (hID : StepsP p I) (h0 : I 0 w) (t0 : It 0 w) (after : Nat → Act)
    (hassign : ∀ (l k : Nat) (W : World) (K : Act → World → Prop), K (after k) W → assign.wpIn (F.inRound l) (n - 1 - 1) P (Exit.then K (fun _ _ _ => False)) { tmps := (ps.zip (vs k)).foldl (fun t (q, v) => t.setIfInBounds q v) a.tmps, defers := [] } W)
    (hbody : ∀ (l k : Nat) (W : World), k < N → I k W → It (k + 1) W → body.wpIn (F.inRound l) (n - 1 - 1) P (roundEnd w.heap.size I It Ix (k + 1) W) (after k) W)
    (hdone : ∀ (b : Nat) (W : World), w.heap.size ≤ b → I N W → It N W → W.heap[b]? = some (.deferred (some [])) → Q .normal { a with defers := { target := .collected b, args := #[] } :: a.defers } W)
    (hstop : ∀ (b k : Nat) (c : Code) (W : World), w.heap.size ≤ b → Ix c k W → W.heap[b]? = some (.deferred (some [])) → c.wpIn F n P Q { a with defers := { target := .collected b, args := #[] } :: a.defers } W) :
    (Code.rangeFunc g ps assign body).wpIn F n P Q a w := by
  refine wpIn_rangeFunc fun fn hfn => ?_
  rw [hround]
  -- the record, by its state and the jump that is pending
  let mk : LoopState → Option Code → Obj := fun st pe => .loop { state := st, pending := pe, fn, tmps := a.tmps, params := ps, assign, body, defers := w.heap.size }
  have hmk : ∀ st pe, (mk st pe).isCells = false := fun _ _ => rfl
  generalize hW1 : (w.alloc (.deferred (some []))).alloc (mk .ready none) = W1
  have rec1 : W1.heap[w.heap.size + 1]? = some (mk .ready none) := by
    have := World.alloc_heap_new (w.alloc (.deferred (some []))) (mk .ready none)
    rw [World.size_alloc] at this
    rw [← hW1]; exact this
  have def1 : W1.heap[w.heap.size]? = some (.deferred (some [])) := by
    rw [← hW1]; exact (Below.heap_alloc _ _ _ (by simp)).trans (World.alloc_heap_new w _)
  have keepD : ∀ {A B : World} {k : Nat} {o : Obj}, GrownP p A B → A.heap[k]? = some o → w.heap.size ≤ k → B.heap[k]? = some o := fun hg hk hle =>
    (hg.block _ (Array.getElem?_eq_some_iff.1 hk).1 (fun e => by have := hD _ e; omega)).trans hk
  refine ⟨w.heap.size + 1, [{ target := .collected w.heap.size, args := #[] }], W1, { target := .fn (.func gf) lb, args := #[.func (.yield (w.heap.size + 1)) #[] #[]] }, W1, gf, #[.func (.yield (w.heap.size + 1)) #[] #[]] ++ lb, W1,
    by rw [← hW1]; exact run_enterLoop_outer _ _ _ _ _, by simp only [resolve, hg]; simp [go_sem], fun f' hf' => by simp [Target.leads] at hf'; subst hf'; exact hin, by simp [invoke, go_sem, eg _ _], fun _ => h1, ?_⟩
  refine (hseq (w.heap.size + 1) (fun k W => I k W ∧ W.heap[w.heap.size + 1]? = some (mk .ready none) ∧ W.heap[w.heap.size]? = some (.deferred (some [])))
    (fun k W => ∃ c, Ix c k W ∧ W.heap[w.heap.size + 1]? = some (mk .done (some c)) ∧ W.heap[w.heap.size]? = some (.deferred (some []))) W1 ?_ ?_
    ⟨by rw [← hW1]; exact hI.alloc _ (hI.alloc _ h0), rec1, def1⟩ (by rw [← hW1]; exact hT.alloc _ (hT.alloc _ t0))).mono ?_
  · exact fun k A B hs hgr => ⟨hID k A B hs.1 hgr, keepD hgr hs.2.1 (by omega), keepD hgr hs.2.2 (Nat.le_refl _)⟩
  · -- a round
    rintro k W hk ⟨hi, hl, hd⟩ ht
    refine ⟨fn, _, assign, body, run_yield (P := P) (args := vs k) hl (by rw [hvs k]), roundIn_of_wpIn hfn (hassign _ k W _ ?_)⟩
    refine ⟨_, run_beginRound hl rfl, ?_⟩
    have hlt : w.heap.size + 1 < W.heap.size := (Array.getElem?_eq_some_iff.1 hl).1
    have hl2 : (W.putObj (w.heap.size + 1) (mk .busy none)).heap[w.heap.size + 1]? = some (mk .busy none) := World.putObj_heap_same hlt
    have hd2 : (W.putObj (w.heap.size + 1) (mk .busy none)).heap[w.heap.size]? = some (.deferred (some [])) := (World.putObj_heap_other (by omega)).trans hd
    refine wpIn_mono (hbody _ k _ hk (hI.put _ hi (by omega) hl rfl) (hT.put _ ht (by omega) hl rfl)) ?_
    have over : ∀ (jump : Option Code) (W3 : World), KeepsFrom w.heap.size (W.putObj (w.heap.size + 1) (mk .busy none)) W3 →
        W3.heap[w.heap.size + 1]? = some (mk .busy none) ∧ (Instr.endRound (w.heap.size + 1) jump).run P W3 = .ok (.bool jump.isNone) (W3.putObj (w.heap.size + 1) (mk (if jump.isNone then .ready else .done) jump)) ∧
        (W3.putObj (w.heap.size + 1) (mk (if jump.isNone then .ready else .done) jump)).heap[w.heap.size + 1]? = some (mk (if jump.isNone then .ready else .done) jump) ∧
        (W3.putObj (w.heap.size + 1) (mk (if jump.isNone then .ready else .done) jump)).heap[w.heap.size]? = some (.deferred (some [])) := fun jump W3 hk3 => by
      have hl3 := hk3.same _ _ (by omega) hl2 rfl
      exact ⟨hl3, run_endRound jump hl3, World.putObj_heap_same (Array.getElem?_eq_some_iff.1 hl3).1, (World.putObj_heap_other (by omega)).trans (hk3.same _ _ (Nat.le_refl _) hd2 rfl)⟩
    intro e a3 W3 hp
    cases e with
    | normal =>
      obtain ⟨hk3, hi3, ht3⟩ := hp
      obtain ⟨hl3, hr, hl4, hd4⟩ := over none W3 hk3
      exact ⟨_, _, hr, .inl ⟨rfl, ⟨hI.put _ hi3 (by omega) hl3 rfl, hl4, hd4⟩, hT.put _ ht3 (by omega) hl3 rfl⟩⟩
    | ret =>
      obtain ⟨hl3, hr, hl4, hd4⟩ := over (some .ret) W3 hp.1
      exact ⟨_, _, hr, .inr ⟨rfl, _, (hX _).put _ hp.2 (by omega) hl3 rfl, hl4, hd4⟩⟩
    | exit id =>
      obtain ⟨hl3, hr, hl4, hd4⟩ := over (some (.exit id)) W3 hp.1
      exact ⟨_, _, hr, .inr ⟨rfl, _, (hX _).put _ hp.2 (by omega) hl3 rfl, hl4, hd4⟩⟩
    | goto t =>
      obtain ⟨hl3, hr, hl4, hd4⟩ := over (some (.goto t)) W3 hp.1
      exact ⟨_, _, hr, .inr ⟨rfl, _, (hX _).put _ hp.2 (by omega) hl3 rfl, hl4, hd4⟩⟩
    | panic _ => exact hp.elim
    | outgrown => exact hp.elim
  · -- behind the iterator
    rintro e W2 ⟨⟨v, rfl⟩, ⟨⟨hi, hl, hd⟩, ht⟩ | ⟨k, c, hx, hl, hd⟩⟩
    · exact ⟨none, _, run_endLoop hl (by simp), hdone _ _ (Nat.le_refl _) (hI.put _ hi (by omega) hl rfl) (hT.put _ ht (by omega) hl rfl) ((World.putObj_heap_other (by omega)).trans hd)⟩
    · exact ⟨some c, _, run_endLoop hl (by simp), hstop _ k c _ (Nat.le_refl _) ((hX c).put _ hx (by omega) hl rfl) ((World.putObj_heap_other (by omega)).trans hd)⟩
end Go.Proofs.Ytaeanmkbongfcaa
