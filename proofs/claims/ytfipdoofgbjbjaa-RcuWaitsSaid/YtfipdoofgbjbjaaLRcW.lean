/- afterglowlaw14.RcuWaits returns true at every number of CPUs, and row of ops, and turns nothing old. No condition. -/
import Derived.Test.YtfipdoofgbjbjaaRc20
import Derived.Test.YtfipdoofgbjbjaaRcW
import Derived.Maps.Range
namespace Go.Proofs.Ytfipdoofgbjbjaa
open Go.RowKit
attribute [local go_sem] Oper.semAt_some
/-- what New hands back -/
def NwP (n : Nat) (w : World) (x : Ending) (w' : World) : Prop := ∃ a, x = .returned (.tuple #[rcv (nSt n) (nGr n) a, .int .i64 0]) ∧ RcP (fun i => i < w.heap.size) w' (nSt n) (nGr n) (List.replicate n zQe) a ∧ Below w.heap.size w w'
theorem rnewP_any (n : Nat) (w : World) (h1 : 1 ≤ n) (h8 : n ≤ 8) : Calls Try.prog 11 #[.int .i64 n] w (NwP n w) := by
  refine (rnew_ok n w h1 h8).mono ?_
  rintro x w' ⟨a, rfl, hn, ht, hb⟩
  refine ⟨a, rfl, fun w2 k => (ht.lowP k (fun i hi => hi)).rcr ?_ (show (0 : Int) ≤ 9223372036854775807 ∧ (0 : Int) ≤ 9223372036854775807 by decide) (by omega) (fun x hx => by obtain rfl := (List.mem_replicate.1 hx).2; decide), hb⟩
  show (List.replicate n false).length ≤ 1000
  rw [List.length_replicate]; omega
abbrev Rows := Nat → Option Addr × Nat × Nat
/-- the words of each CPU, by a map -/
structure QdI (W : World) (lo gq : Nat) (p : Nat → Prop) (ws : Nat → List Int) (M : List (Int × Value)) (R : Rows) : Prop where
  map : MapAt W gq .i64 M
  at_ : ∀ c : Nat, (getL M (c : Int)).getD (.slice none 0 0) = .slice (R c).1 (R c).2.1 (R c).2.2
  row : ∀ c : Nat, Wn W lo 38 (R c).1 (R c).2.1 (R c).2.2 (ws c)
  ne : ∀ c d : Nat, c ≠ d → ∀ a b, (R c).1 = some a → (R d).1 = some b → a.block ≠ b.block
  free : ∀ c a, (R c).1 = some a → p a.block
theorem Wn.rest {w : World} {lo b off : Nat} {e : TypeId} {n c : Nat} {x : Int} {xs : List Int} (h : Wn w lo e (some ⟨b, off, none⟩) n c (x :: xs)) :
    Wn w lo e (if c = 1 then some ⟨b, off, none⟩ else some ⟨b, off + 1, none⟩) (n - 1) (c - 1) xs ∧ (∀ a', (if c = 1 then some (⟨b, off, none⟩ : Addr) else some ⟨b, off + 1, none⟩) = some a' → a'.block = b) ∧ (1 : Int) ≤ (n : Int) := by
  have hl := h.len
  have hle := h.le
  have hsm := h.small
  rw [List.length_cons] at hl
  rcases h.row with ⟨h0, _⟩ | ⟨b', off', cs, e0, h1, h2, h3, h4⟩
  · cases h0
  · cases e0
    refine ⟨⟨by omega, by omega, by omega, .inr ?_⟩, fun a' ha => ?_, by omega⟩
    · by_cases hc : c = 1
      · rw [if_pos hc]
        exact ⟨b, off, cs, rfl, h1, h2, by omega, fun j hj => by omega⟩
      · rw [if_neg hc]
        refine ⟨b, off + 1, cs, rfl, h1, h2, by omega, fun j hj => ?_⟩
        have := h4 (j + 1) (by omega)
        rw [show off + (j + 1) = off + 1 + j by omega] at this
        rw [this]; rfl
    · by_cases hc : c = 1
      · rw [if_pos hc] at ha; cases ha; rfl
      · rw [if_neg hc] at ha; cases ha; rfl
/-- what the loop keeps -/
structure RWJ (w1 W : World) (g5 ga gq : Nat) (p : Nat → Prop) (s : St) (g : Gr) (es : List Qe) (a : Ra) (ws : Nat → List Int) (L : List (Int × Int)) (M : List (Int × Value)) (R : Rows) : Prop where
  p5 : Blk W g5 30 (rcells s g a)
  rr : RcP p W s g es a
  p0 : p g5
  p1 : p ga
  p2 : p gq
  ma : MapAt W ga .u64 (inV L)
  qd : QdI W w1.heap.size gq p ws M R
  be : Below w1.heap.size w1 W
  l0 : w1.heap.size ≤ g5
  l1 : w1.heap.size ≤ ga
  l2 : w1.heap.size ≤ gq
theorem MapAt.nocell {w : World} {g k : Nat} {ik : IntKind} {L : List (Int × Value)} {t : TypeId} {cs : Array Value} (h : MapAt w g ik L) (hb : Blk w k t cs) : k ≠ g := by
  intro e
  obtain ⟨es, ck, hm, _⟩ := h
  unfold Blk at hb
  rw [e, hm] at hb
  cases hb
theorem RcP.turnO {p : Nat → Prop} {w w' : World} {s : St} {g : Gr} {es : List Qe} {a : Ra} {r : Option Nat} (h : RcP p w s g es a) (hg : w.grownBy w' r) (hq : ∀ q, r = some q → p q) : RcP p w' s g es a := fun w2 k =>
  h w2 (GrownP.trans ⟨hg.os, hg.tape, hg.output, hg.size, fun i hi hp => hg.block i hi (fun e => hp (hq i e.symm))⟩ k)
section
variable {w1 W W1 W' : World} {g5 ga gq : Nat} {p : Nat → Prop} {s : St} {g : Gr} {es : List Qe} {a : Ra} {L : List (Int × Int)} {ws : Nat → List Int} {M : List (Int × Value)} {R : Rows} {qs : Qs}
theorem MapAt.step_ {g : Nat} {ik : IntKind} {L : List (Int × Value)} (h : MapAt W g ik L) (hb : Below W.heap.size W W') : MapAt W' g ik L := h.same (hb.block g h.lt)
theorem QdI.step {lo : Nat} (h : QdI W lo gq p ws M R) (hb : Below W.heap.size W W') : QdI W' lo gq p ws M R :=
  ⟨h.map.step_ hb, h.at_, fun c => (h.row c).step hb, h.ne, h.free⟩
theorem RWJ.step (h : RWJ w1 W g5 ga gq p s g es a ws L M R) (hb : Below W.heap.size W W') : RWJ w1 W' g5 ga gq p s g es a ws L M R :=
  ⟨h.p5.step hb, h.rr.step hb, h.p0, h.p1, h.p2, h.ma.step_ hb, h.qd.step hb, below_then h.be hb, h.l0, h.l1, h.l2⟩
theorem RWJ.rowNe (h : RWJ w1 W g5 ga gq p s g es a ws L M R) (c : Nat) : ∀ b, (R c).1 = some b → b.block ≠ g5 ∧ b.block ≠ ga ∧ b.block ≠ gq := by
  intro b hb
  obtain ⟨_, _, cs, hk⟩ := (h.qd.row c).lt b hb
  exact ⟨fun e => (h.p5.neT hk (by decide)) e.symm, h.ma.nocell hk, h.qd.map.nocell hk⟩
/-- r = n: its box is stored to, and what lies there is new -/
theorem RWJ.turned {s2 : St} {g2 : Gr} {es2 : List Qe} {a2 : Ra} {B : Nat} (h : RWJ w1 W g5 ga gq p s g es a ws L M R) (hr : RcP (fun i => i < B) W s2 g2 es2 a2) (h0 : g5 < B) (h1 : ga < B) (h2 : gq < B) (h3 : ∀ c b, (R c).1 = some b → b.block < B)
    (hg : W.grownBy W' (some g5)) (hp : Blk W' g5 30 (rcells s2 g2 a2)) : RWJ w1 W' g5 ga gq (fun i => i < B) s2 g2 es2 a2 ws L M R :=
  ⟨hp, hr.turn hg h0, h0, h1, h2, h.ma.grown hg (fun e => h.ma.nocell h.p5 (Option.some.inj e).symm),
   ⟨h.qd.map.grown hg (fun e => h.qd.map.nocell h.p5 (Option.some.inj e).symm), h.qd.at_, fun c => (h.qd.row c).grown hg (fun b hb e => (h.rowNe c b hb).1 (Option.some.inj e)), h.qd.ne, h3⟩,
   h.be.grown hg h.be.size (fun r e => by cases e; exact h.l0), h.l0, h.l1, h.l2⟩
/-- the map of steps is turned -/
theorem RWJ.atPut {L' : List (Int × Int)} (h : RWJ w1 W g5 ga gq p s g es a ws L M R) (hqa : gq ≠ ga) (hg : W.grownBy W' (some ga)) (hm : MapAt W' ga .u64 (inV L')) : RWJ w1 W' g5 ga gq p s g es a ws L' M R :=
  ⟨h.p5.grown hg (fun e => h.ma.nocell h.p5 (Option.some.inj e)), h.rr.turn hg h.p1, h.p0, h.p1, h.p2, hm,
   ⟨h.qd.map.grown hg (fun e => hqa (Option.some.inj e)), h.qd.at_, fun c => (h.qd.row c).grown hg (fun b hb e => (h.rowNe c b hb).2.1 (Option.some.inj e)), h.qd.ne, h.qd.free⟩,
   h.be.grown hg h.be.size (fun r e => by cases e; exact h.l1), h.l0, h.l1, h.l2⟩
/-- a CPU's row is another one -/
theorem RWJ.rowPut {c : Nat} {A' : Option Addr} {n' k' : Nat} {xs' : List Int} (h : RWJ w1 W g5 ga gq p s g es a ws L M R) (hqa : gq ≠ ga) (hg : W.grownBy W1 ((R c).1.map (·.block))) (hw : Wn W1 w1.heap.size 38 A' n' k' xs')
    (hA : ∀ a', A' = some a' → (∃ b, (R c).1 = some b ∧ a'.block = b.block) ∨ a'.block = W.heap.size) :
    MapAt W1 gq .i64 M ∧ ∀ W2, W1.grownBy W2 (some gq) → MapAt W2 gq .i64 (putL M (c : Int) (.slice A' n' k')) →
      RWJ w1 W2 g5 ga gq (fun i => p i ∨ W.heap.size ≤ i) s g es a (fun d => if d = c then xs' else ws d) L (putL M (c : Int) (.slice A' n' k')) (fun d => if d = c then (A', n', k') else R d) := by
  have hr : ∀ q, (R c).1.map (·.block) = some q → ∃ b, (R c).1 = some b ∧ b.block = q := fun q e => by
    cases hR : (R c).1 with
    | none => rw [hR] at e; cases e
    | some b => rw [hR] at e; cases e; exact ⟨b, rfl, rfl⟩
  have ne : ∀ q, (∀ b, (R c).1 = some b → b.block ≠ q) → some q ≠ (R c).1.map (·.block) := fun q hq e => by
    obtain ⟨b, h1, h2⟩ := hr q e.symm
    exact hq b h1 h2
  have m1 : MapAt W1 gq .i64 M := h.qd.map.grown hg (ne _ fun b hb => (h.rowNe c b hb).2.2)
  have m2 : MapAt W1 ga .u64 (inV L) := h.ma.grown hg (ne _ fun b hb => (h.rowNe c b hb).2.1)
  have b1 : Blk W1 g5 _ _ := h.p5.grown hg (ne _ fun b hb => (h.rowNe c b hb).1)
  have r1 : ∀ d, d ≠ c → Wn W1 w1.heap.size 38 (R d).1 (R d).2.1 (R d).2.2 (ws d) := fun d hd => (h.qd.row d).grown hg (fun b hb => ne _ fun b' hb' e => h.qd.ne d c hd b b' hb hb' e.symm)
  refine ⟨m1, fun W2 hg2 hm2 => ⟨b1.grown hg2 (fun e => m1.nocell b1 (Option.some.inj e)), ?_, .inl h.p0, .inl h.p1, .inl h.p2, m2.grown hg2 (fun e => hqa (Option.some.inj e).symm), ⟨hm2, fun d => ?_, fun d => ?_, fun d d' hdd x y hx hy => ?_, fun d x hx => ?_⟩,
    (h.be.grown hg h.be.size (fun r e => by obtain ⟨b, h1, h2⟩ := hr r e; rw [← h2]; exact ((h.qd.row c).lt b h1).1)).grown hg2 (Nat.le_trans h.be.size hg.size) (fun r e => by cases e; exact h.l2), h.l0, h.l1, h.l2⟩⟩
  · refine (h.rr.fresh.turnO hg (fun q e => ?_)).turn hg2 (.inl h.p2)
    obtain ⟨b, h1, h2⟩ := hr q e
    exact .inl (h2 ▸ h.qd.free c b h1)
  · rw [getL_put]
    by_cases e : d = c
    · subst e; rw [if_pos rfl, if_pos rfl]; rfl
    · rw [if_neg (by omega), if_neg e]; exact h.qd.at_ d
  · by_cases e : d = c
    · subst e
      simp only [if_true]
      exact hw.grown hg2 (fun b hb e2 => by
        obtain ⟨_, _, cs, hk⟩ := hw.lt b hb
        exact m1.nocell hk (Option.some.inj e2))
    · simp only [if_neg e]
      exact (r1 d e).grown hg2 (fun b hb e2 => by
        obtain ⟨_, _, cs, hk⟩ := (r1 d e).lt b hb
        exact m1.nocell hk (Option.some.inj e2))
  · have key : ∀ d, d ≠ c → ∀ x y, A' = some x → (R d).1 = some y → x.block ≠ y.block := fun d hd x y hx hy => by
      rcases hA x hx with ⟨b, h1, h2⟩ | h2
      · rw [h2]; exact h.qd.ne c d (Ne.symm hd) b y h1 hy
      · have := ((h.qd.row d).lt y hy).2.1
        omega
    by_cases e : d = c
    · by_cases e2 : d' = c
      · exact absurd (e.trans e2.symm) hdd
      · simp only [if_pos e] at hx
        simp only [if_neg e2] at hy
        exact key d' e2 x y hx hy
    · simp only [if_neg e] at hx
      by_cases e2 : d' = c
      · simp only [if_pos e2] at hy
        exact (key d e y x hy hx).symm
      · simp only [if_neg e2] at hy
        exact h.qd.ne d d' hdd x y hx hy
  · by_cases e : d = c
    · simp only [if_pos e] at hx
      rcases hA x hx with ⟨b, h1, h2⟩ | h2
      · exact .inl (h2 ▸ h.qd.free c b h1)
      · exact .inr (by omega)
    · simp only [if_neg e] at hx
      exact .inl (h.qd.free d x hx)
theorem nWords (n c : Nat) : words (nQs n) c = [] := by
  show ((List.replicate n ([], 0))[c]?.getD ([], 0)).1.map Prod.snd = []
  rw [List.getElem?_replicate]
  split <;> rfl
end
set_option maxRecDepth 100000 in
set_option maxHeartbeats 8000000 in
theorem rcwaits_any (cpus : Int) (T : Option Addr) (nt kt : Nat) (L0 : List (Int × Int × Int)) (w : World) (hT : Sm 3 encO (0, 0, 0) w 0 w.heap.size T nt L0) :
    Calls Try.prog 4 #[.int .i64 cpus, .slice T nt kt] w fun x w' => x = .returned (.bool true) ∧ Below w.heap.size w w' := by
  have HB := hid (Below.refl w.heap.size w); have HT := hid hT
  clear hT
  go_enter Try.func4, Try.ntmps4
  go_wp2_with fail
  refine (rcwakes_any w).mono ?_
  rintro e w1 ⟨rfl, hb⟩
  replace HB := hid (below_then HB.out hb)
  replace HT := hid (HT.out.below hb (Nat.le_refl _))
  have HT1 := HT
  clear hb
  go_wp2_with fail
  obtain ⟨n, hn1, hn8, hn⟩ : ∃ n : Nat, 1 ≤ n ∧ n ≤ 8 ∧ wrap64 (1 + wrap64 ((IntKind.u64.wrap cpus).tmod 8)) = (n : Int) := by
    have h0 : 0 ≤ IntKind.u64.wrap cpus := by rw [IntKind.wrap_u64]; omega
    rw [Int.tmod_eq_emod_of_nonneg h0]
    refine ⟨(1 + IntKind.u64.wrap cpus % 8).toNat, by omega, by omega, ?_⟩
    unfold wrap64; omega
  rw [hn]
  have H1 := hid hn1; have H8 := hid hn8
  clear hn hn1 hn8
  refine (rnewP_any n w1 H1.out H8.out).mono ?_
  rintro e w2 ⟨a, rfl, hr, hb⟩
  have RR := hid hr.fresh
  have HBE := hid hb
  have HWS := hid HB.out.size; have HZ2 := hid hb.size
  clear hr hb
  have bx := below_box w2 (.cells (rcells (nSt n) (nGr n) a) 30)
  replace RR := hid (RR.out.step bx); replace HBE := hid (below_then HBE.out bx)
  clear bx
  have P5 := hid (Blk.new w2 30 (rcells (nSt n) (nGr n) a))
  have hmm := @run_makeMap Try.prog
  go_upto_region 6 with fail
  have hz3 := hid (show (w2.alloc (.cells (rcells (nSt n) (nGr n) a) 30)).heap.size = w2.heap.size + 1 by simp)
  generalize w2.alloc (.cells (rcells (nSt n) (nGr n) a) 30) = W3 at *
  go_wp2_with fail
  clear hmm
  have bx := below_box W3 (.map #[] 0)
  have MP := hid (MapAt.new W3 .u64)
  replace RR := hid (RR.out.step bx); replace P5 := hid (P5.out.step bx); replace HBE := hid (below_then HBE.out bx)
  clear bx
  have hz4 := hid (show (W3.alloc (.map #[] 0)).heap.size = W3.heap.size + 1 by simp)
  generalize W3.alloc (.map #[] 0) = W4 at *
  have bx := below_box W4 (.map #[] 0)
  have MQ := hid (MapAt.new W4 .i64)
  replace MP := hid (MP.out.step_ bx)
  replace RR := hid (RR.out.step bx); replace P5 := hid (P5.out.step bx); replace HBE := hid (below_then HBE.out bx)
  clear bx
  rw [hz4.out] at MQ
  generalize W4.alloc (.map #[] 0) = W5 at *
  have hI := hid (show RWJ w1 W5 w2.heap.size W3.heap.size (W3.heap.size + 1) (fun i => i < w1.heap.size ∨ w2.heap.size ≤ i) (nSt n) (nGr n) (List.replicate n zQe) a (words (ql (List.replicate n zQe))) [] [] (fun _ => (none, 0, 0)) from
    ⟨P5.out, RR.out, .inr (Nat.le_refl _), .inr (by have := hz3.out; omega), .inr (by have := hz3.out; omega), MP.out,
     ⟨MQ.out, fun _ => rfl, fun c => by rw [ql_rep, nWords]; exact Wn.nil _ _ _, fun _ _ _ _ _ h => (by cases h), fun _ _ h => (by cases h)⟩, HBE.out, HZ2.out, by have := HZ2.out; have := hz3.out; omega, by have := HZ2.out; have := hz3.out; omega⟩)
  have hW := hid (show WI (nSt n) (nGr n) (ql (List.replicate n zQe)) [] [] 0 by rw [ql_rep]; exact WI.first H1.out H8.out)
  have hz5 := hid (show w2.heap.size + 1 ≤ W3.heap.size by have := hz3.out; omega)
  clear RR P5 MP MQ HBE hz3 hz4
  go_loopw [9, 34] (fun m i wr => ∃ (j many : Nat) (p : Nat → Prop) (s : St) (g' : Gr) (es : List Qe) (a' : Ra) (at_ L : List (Int × Int)) (M : List (Int × Value)) (R : Rows), j ≤ nt ∧ j ≤ 150 ∧ many ≤ j ∧ m = .int .u64 many ∧ i = .int .i64 j ∧ RWJ w1 wr w2.heap.size W3.heap.size (W3.heap.size + 1) p s g' es a' (words (ql es)) L M R ∧ WI s g' (ql es) at_ L many) (fun _ i _ => nt - (intOf i).toNat)
  case atStart => exact ⟨0, 0, _, _, _, _, _, _, _, _, _, Nat.zero_le _, Nat.zero_le _, Nat.le_refl _, rfl, rfl, hI.out, hW.out⟩
  case round =>
    clear hI H1 H8
    obtain ⟨j, many, p, s, g', es, a', at_, L, M, R, hj, hj150, hmj, rfl, rfl, hrwi, hwi⟩ := hrel
    have HI := hid hrwi; have HW := hid hwi
    clear hrwi hwi hW
    by_cases hjn : j < nt
    rotate_left
    ·skip
     obtain rfl : j = nt := by omega
     have hnn : ¬ ((j : Int) < (j : Int)) := by omega
     obtain ⟨y00, y01, y02, y03, y04, y05, y06, y07, yf0⟩ := HI.out.p5.cells8
     go_wp2_with fail
     clear y00 y01 y02 y03 y04 y05 y06 y07 yf0
     refine (rcheck_any s g' es a' _ HI.out.rr.rcr).mono ?_
     rintro e Wz ⟨rfl, hb⟩
     replace HI := hid (HI.out.step hb)
     clear hb
     rw [show rcheckC s g' es = 0 from if_pos (rcOk_iff.2 HW.out.good)]
     go_wp2
     go_ret
     exact ⟨rfl, below_then HB.out HI.out.be⟩
    have hji : (j : Int) < (nt : Int) := by omega
    have HTW := hid (show Sm 3 encO (0, 0, 0) wr 0 w.heap.size T nt L0 from HT1.out.below HI.out.be (by have := HWS.out; omega))
    obtain ⟨bT, oT, rfl, _, _, hc⟩ := HTW.out.row (by omega)
    obtain ⟨x, hx⟩ : ∃ x, x = L0[j]?.getD (0, 0, 0) := ⟨_, rfl⟩
    have f0 := hc j hjn 0 (by omega)
    have f1 := hc j hjn 1 (by omega)
    have f2 := hc j hjn 2 (by omega)
    rw [← hx] at f0 f1 f2
    obtain ⟨ok, oc, ow⟩ := x
    replace f0 : wr.cell? ⟨bT, oT + j * 3, none⟩ = some (.int .i64 ok) := f0
    replace f1 : wr.cell? ⟨bT, oT + j * 3 + 1, none⟩ = some (.int .i64 oc) := f1
    replace f2 : wr.cell? ⟨bT, oT + j * 3 + 2, none⟩ = some (.int .u64 ow) := f2
    clear hc HTW hx
    obtain ⟨z0, z1, z2, zf⟩ := (Blk.new wr 44 #[.int .i64 ok, .int .i64 oc, .int .u64 ow]).cells3
    go_upto_region 12 with fail
    clear f0 f1 f2
    by_cases hj2 : j = 150
    ·skip
     clear z0 z1 z2 zf
     subst hj2
     have bx := below_box wr (.cells #[.int .i64 ok, .int .i64 oc, .int .u64 ow] 44)
     replace HI := hid (HI.out.step bx)
     clear bx
     generalize wr.alloc (.cells #[.int .i64 ok, .int .i64 oc, .int .u64 ow] 44) = W6 at *
     obtain ⟨y00, y01, y02, y03, y04, y05, y06, y07, yf0⟩ := HI.out.p5.cells8
     go_wp2_with fail
     clear y00 y01 y02 y03 y04 y05 y06 y07 yf0
     refine (rcheck_any s g' es a' _ HI.out.rr.rcr).mono ?_
     rintro e Wz ⟨rfl, hb⟩
     replace HI := hid (HI.out.step hb)
     clear hb
     rw [show rcheckC s g' es = 0 from if_pos (rcOk_iff.2 HW.out.good)]
     go_wp2
     go_ret
     exact ⟨rfl, below_then HB.out HI.out.be⟩
    have d1 : ((j : Int) == 150) = false := by simp; omega
    have hj3 := hid (show j < 150 by omega)
    clear hj2
    go_upto_region 14 with fail
    clear z0 z1 z2 zf d1
    have HMJ := hid hmj
    clear hmj
    obtain ⟨z0, z1, z2, zf⟩ := (Blk.new wr 44 #[.int .i64 ok, .int .i64 oc, .int .u64 0]).cells3
    have hqa := hid (show W3.heap.size + 1 ≠ W3.heap.size by omega)
    by_cases k3 : ok = 3
    ·skip
     subst k3
     have hw2 : IntKind.u64.wrap ((many : Int) + 1) = (many : Int) + 1 := by have := HMJ.out; have := hj3.out; rw [IntKind.wrap_u64]; omega
     go_upto_region 16 with fail
     clear hw2
     clear z0 z1 z2 zf
     have bx := below_box wr (.cells #[.int .i64 3, .int .i64 oc, .int .u64 ((many : Int) + 1)] 44)
     replace HI := hid (HI.out.step bx)
     clear bx
     have PO := hid (Blk.new wr 44 #[.int .i64 3, .int .i64 oc, .int .u64 ((many : Int) + 1)])
     have HSZ := hid (show wr.heap.size < (wr.alloc (.cells #[.int .i64 3, .int .i64 oc, .int .u64 ((many : Int) + 1)] 44)).heap.size by simp)
     generalize wr.alloc (.cells #[.int .i64 3, .int .i64 oc, .int .u64 ((many : Int) + 1)] 44) = W6 at *
     obtain ⟨y00, y01, y02, y03, y04, y05, y06, y07, yf0⟩ := HI.out.p5.cells8
     obtain ⟨z0, z1, z2, zf⟩ := PO.out.cells3
     have hRC := (rcA_ok (L := [(3, oc, ((many : Int) + 1))]) HW.out.good).trans (opsA_one s g' (ql es) (3, oc, ((many : Int) + 1)))
     by_cases h0 : (opF s g' (ql es) (3, oc, ((many : Int) + 1))).1 = 0
     rotate_left
     ·skip
      rw [if_neg h0] at hRC
      obtain ⟨ec, hec⟩ : ∃ ec, ec = (opF s g' (ql es) (3, oc, ((many : Int) + 1))).1 := ⟨_, rfl⟩
      rw [← hec] at hRC h0
      have HRC := hid hRC; have d1 : (ec == 0) = false := by simpa using h0
      clear hRC hec h0
      go_wp2_with fail
      clear z0 z1 z2 zf y00 y01 y02 y03 y04 y05 y06 y07 yf0
      refine (rstepR (o := (3, oc, ((many : Int) + 1))) _ HI.out.rr.rcr HRC.out).mono ?_
      rintro e w7 ⟨a9, es9, rfl, hq9, hn9, hr9, hb⟩
      clear HRC hq9 hn9 hr9
      dsimp only
      replace HI := hid (HI.out.step hb)
      clear hb PO
      have bx := below_box w7 (.cells (rcells (0, [], []) zGr a9) 30)
      replace HI := hid (HI.out.step bx)
      clear bx
      go_upto_region 32 with fail
      clear d1
      generalize w7.alloc (.cells (rcells (0, [], []) zGr a9) 30) = W8 at *
      have hj4 := hj3.out
      have hw1 : IntKind.i64.wrap ((j : Int) + 1) = (j : Int) + 1 := by rw [IntKind.wrap_i64]; omega
      go_wp2_with fail
      go_roundw
      case rel => exact ⟨j + 1, many, _, _, _, _, _, _, _, _, _, by omega, by omega, by have := HMJ.out; omega, by go_num, by go_num, HI.out, HW.out⟩
      case measure => simp [intOf]; omega
     rw [if_pos h0] at hRC
     obtain ⟨hk15, cp, rfl, hcp⟩ := op_ok h0
     have HWS2 := hid (wi_step HW.out (cp := cp) (x := ((many : Int) + 1)) (fun _ => rfl) h0 hk15 hcp)
     clear h0
     obtain ⟨r, hr⟩ : ∃ r, r = opF s g' (ql es) (3, (cp : Int), ((many : Int) + 1)) := ⟨_, rfl⟩
     rw [← hr] at hRC HWS2
     clear hr
     obtain ⟨rc, s2, g2, q2, ran⟩ := r
     dsimp only at hRC HWS2
     have HRC := hid hRC
     clear hRC
     go_wp2_with fail
     clear z0 z1 z2 zf y00 y01 y02 y03 y04 y05 y06 y07 yf0
     refine (rstepR (o := (3, (cp : Int), ((many : Int) + 1))) _ HI.out.rr.rcr HRC.out).mono ?_
     rintro e w7 ⟨a9, es9, rfl, hq9, hn9, hr9, hb⟩
     clear HRC hn9
     dsimp only at hq9 hr9 ⊢
     have RQ := hid hq9; have RS := hid hr9; have HLT := hid HI.out
     have HLN := hid (show (words (ql es) cp).length ≤ 16 by show ((qAt (ql es) cp).1.map Prod.snd).length ≤ 16; rw [List.length_map]; exact (HW.out.good.2.2 _ (qAt_mem hcp)).1.2.1)
     clear hq9 hr9
     replace HI := hid (HI.out.step hb); replace PO := hid (PO.out.step hb)
     clear hb
     have bx := below_box w7 (.cells (rcells s2 g2 a9) 30)
     replace HI := hid (HI.out.step bx); replace PO := hid (PO.out.step bx); replace RS := hid (RS.out.step bx)
     clear bx
     have PN := hid (Blk.new w7 30 (rcells s2 g2 a9))
     go_upto_region 18 with fail
     generalize w7.alloc (.cells (rcells s2 g2 a9) 30) = W8 at *
     clear HSZ
     have P5 := hid HI.out.p5
     obtain ⟨y00, y01, y02, y03, y04, y05, y06, y07, yf0⟩ := PN.out.cells8
     obtain ⟨y10, y11, y12, y13, y14, y15, y16, y17, yf1⟩ := P5.out.cells8
     go_upto_region 19 with fail
     clear y00 y01 y02 y03 y04 y05 y06 y07 yf0 y10 y11 y12 y13 y14 y15 y16 y17 yf1
     have hbk0 : Blk (W8.setCell ⟨w2.heap.size, 0, none⟩ (.int .i64 s2.1)) (w2.heap.size) 30 #[.int .i64 s2.1, .slice a'.A a'.n a'.k, .slice a'.B a'.m a'.d, .int .i64 g'.dn, .int .i64 g'.ak, .bool g'.on, .slice a'.D g'.nd.length a'.kd, .slice a'.Q a'.nq a'.kq] := P5.out.setCell 0 (.int .i64 s2.1)
     have hbk1 : Blk ((W8.setCell ⟨w2.heap.size, 0, none⟩ (.int .i64 s2.1)).setCell ⟨w2.heap.size, 1, none⟩ (.slice a9.A a9.n a9.k)) (w2.heap.size) 30 #[.int .i64 s2.1, .slice a9.A a9.n a9.k, .slice a'.B a'.m a'.d, .int .i64 g'.dn, .int .i64 g'.ak, .bool g'.on, .slice a'.D g'.nd.length a'.kd, .slice a'.Q a'.nq a'.kq] := hbk0.setCell 1 (.slice a9.A a9.n a9.k)
     have hbk2 : Blk (((W8.setCell ⟨w2.heap.size, 0, none⟩ (.int .i64 s2.1)).setCell ⟨w2.heap.size, 1, none⟩ (.slice a9.A a9.n a9.k)).setCell ⟨w2.heap.size, 2, none⟩ (.slice a9.B a9.m a9.d)) (w2.heap.size) 30 #[.int .i64 s2.1, .slice a9.A a9.n a9.k, .slice a9.B a9.m a9.d, .int .i64 g'.dn, .int .i64 g'.ak, .bool g'.on, .slice a'.D g'.nd.length a'.kd, .slice a'.Q a'.nq a'.kq] := hbk1.setCell 2 (.slice a9.B a9.m a9.d)
     have hbk3 : Blk ((((W8.setCell ⟨w2.heap.size, 0, none⟩ (.int .i64 s2.1)).setCell ⟨w2.heap.size, 1, none⟩ (.slice a9.A a9.n a9.k)).setCell ⟨w2.heap.size, 2, none⟩ (.slice a9.B a9.m a9.d)).setCell ⟨w2.heap.size, 3, none⟩ (.int .i64 g2.dn)) (w2.heap.size) 30 #[.int .i64 s2.1, .slice a9.A a9.n a9.k, .slice a9.B a9.m a9.d, .int .i64 g2.dn, .int .i64 g'.ak, .bool g'.on, .slice a'.D g'.nd.length a'.kd, .slice a'.Q a'.nq a'.kq] := hbk2.setCell 3 (.int .i64 g2.dn)
     have hbk4 : Blk (((((W8.setCell ⟨w2.heap.size, 0, none⟩ (.int .i64 s2.1)).setCell ⟨w2.heap.size, 1, none⟩ (.slice a9.A a9.n a9.k)).setCell ⟨w2.heap.size, 2, none⟩ (.slice a9.B a9.m a9.d)).setCell ⟨w2.heap.size, 3, none⟩ (.int .i64 g2.dn)).setCell ⟨w2.heap.size, 4, none⟩ (.int .i64 g2.ak)) (w2.heap.size) 30 #[.int .i64 s2.1, .slice a9.A a9.n a9.k, .slice a9.B a9.m a9.d, .int .i64 g2.dn, .int .i64 g2.ak, .bool g'.on, .slice a'.D g'.nd.length a'.kd, .slice a'.Q a'.nq a'.kq] := hbk3.setCell 4 (.int .i64 g2.ak)
     have hbk5 : Blk ((((((W8.setCell ⟨w2.heap.size, 0, none⟩ (.int .i64 s2.1)).setCell ⟨w2.heap.size, 1, none⟩ (.slice a9.A a9.n a9.k)).setCell ⟨w2.heap.size, 2, none⟩ (.slice a9.B a9.m a9.d)).setCell ⟨w2.heap.size, 3, none⟩ (.int .i64 g2.dn)).setCell ⟨w2.heap.size, 4, none⟩ (.int .i64 g2.ak)).setCell ⟨w2.heap.size, 5, none⟩ (.bool g2.on)) (w2.heap.size) 30 #[.int .i64 s2.1, .slice a9.A a9.n a9.k, .slice a9.B a9.m a9.d, .int .i64 g2.dn, .int .i64 g2.ak, .bool g2.on, .slice a'.D g'.nd.length a'.kd, .slice a'.Q a'.nq a'.kq] := hbk4.setCell 5 (.bool g2.on)
     have hbk6 : Blk (((((((W8.setCell ⟨w2.heap.size, 0, none⟩ (.int .i64 s2.1)).setCell ⟨w2.heap.size, 1, none⟩ (.slice a9.A a9.n a9.k)).setCell ⟨w2.heap.size, 2, none⟩ (.slice a9.B a9.m a9.d)).setCell ⟨w2.heap.size, 3, none⟩ (.int .i64 g2.dn)).setCell ⟨w2.heap.size, 4, none⟩ (.int .i64 g2.ak)).setCell ⟨w2.heap.size, 5, none⟩ (.bool g2.on)).setCell ⟨w2.heap.size, 6, none⟩ (.slice a9.D g2.nd.length a9.kd)) (w2.heap.size) 30 #[.int .i64 s2.1, .slice a9.A a9.n a9.k, .slice a9.B a9.m a9.d, .int .i64 g2.dn, .int .i64 g2.ak, .bool g2.on, .slice a9.D g2.nd.length a9.kd, .slice a'.Q a'.nq a'.kq] := hbk5.setCell 6 (.slice a9.D g2.nd.length a9.kd)
     have hbk7 : Blk ((((((((W8.setCell ⟨w2.heap.size, 0, none⟩ (.int .i64 s2.1)).setCell ⟨w2.heap.size, 1, none⟩ (.slice a9.A a9.n a9.k)).setCell ⟨w2.heap.size, 2, none⟩ (.slice a9.B a9.m a9.d)).setCell ⟨w2.heap.size, 3, none⟩ (.int .i64 g2.dn)).setCell ⟨w2.heap.size, 4, none⟩ (.int .i64 g2.ak)).setCell ⟨w2.heap.size, 5, none⟩ (.bool g2.on)).setCell ⟨w2.heap.size, 6, none⟩ (.slice a9.D g2.nd.length a9.kd)).setCell ⟨w2.heap.size, 7, none⟩ (.slice a9.Q a9.nq a9.kq)) (w2.heap.size) 30 #[.int .i64 s2.1, .slice a9.A a9.n a9.k, .slice a9.B a9.m a9.d, .int .i64 g2.dn, .int .i64 g2.ak, .bool g2.on, .slice a9.D g2.nd.length a9.kd, .slice a9.Q a9.nq a9.kq] := hbk6.setCell 7 (.slice a9.Q a9.nq a9.kq)
     have hgr : W8.grownBy ((((((((W8.setCell ⟨w2.heap.size, 0, none⟩ (.int .i64 s2.1)).setCell ⟨w2.heap.size, 1, none⟩ (.slice a9.A a9.n a9.k)).setCell ⟨w2.heap.size, 2, none⟩ (.slice a9.B a9.m a9.d)).setCell ⟨w2.heap.size, 3, none⟩ (.int .i64 g2.dn)).setCell ⟨w2.heap.size, 4, none⟩ (.int .i64 g2.ak)).setCell ⟨w2.heap.size, 5, none⟩ (.bool g2.on)).setCell ⟨w2.heap.size, 6, none⟩ (.slice a9.D g2.nd.length a9.kd)).setCell ⟨w2.heap.size, 7, none⟩ (.slice a9.Q a9.nq a9.kq)) (some (w2.heap.size)) := (grown_set (grown_set (grown_set (grown_set (grown_set (grown_set (grown_set (grown_set (World.grownBy.refl W8 (some (w2.heap.size))) 0 (.int .i64 s2.1)) 1 (.slice a9.A a9.n a9.k)) 2 (.slice a9.B a9.m a9.d)) 3 (.int .i64 g2.dn)) 4 (.int .i64 g2.ak)) 5 (.bool g2.on)) 6 (.slice a9.D g2.nd.length a9.kd)) 7 (.slice a9.Q a9.nq a9.kq))
     replace P5 := hid hbk7
     clear hbk0 hbk1 hbk2 hbk3 hbk4 hbk5 hbk6 hbk7
     generalize (((((((W8.setCell ⟨w2.heap.size, 0, none⟩ (.int .i64 s2.1)).setCell ⟨w2.heap.size, 1, none⟩ (.slice a9.A a9.n a9.k)).setCell ⟨w2.heap.size, 2, none⟩ (.slice a9.B a9.m a9.d)).setCell ⟨w2.heap.size, 3, none⟩ (.int .i64 g2.dn)).setCell ⟨w2.heap.size, 4, none⟩ (.int .i64 g2.ak)).setCell ⟨w2.heap.size, 5, none⟩ (.bool g2.on)).setCell ⟨w2.heap.size, 6, none⟩ (.slice a9.D g2.nd.length a9.kd)).setCell ⟨w2.heap.size, 7, none⟩ (.slice a9.Q a9.nq a9.kq) = Wf at *
     replace PO := hid (PO.out.grown hgr (fun e => HI.out.p5.neT PO.out (by decide) (Option.some.inj e).symm))
     replace HI := hid (HI.out.turned RS.out HLT.out.p5.lt HLT.out.ma.lt HLT.out.qd.map.lt (fun c b hb => ((HLT.out.qd.row c).lt b hb).2.1) hgr P5.out)
     clear hgr P5 RS PN HLT HW
     obtain rfl := RQ.out
     rcases HWS2.out with ⟨h3, _⟩ | ⟨_, hs, hnew, at2, hwi, hww⟩ | ⟨h5, _⟩
     ·exact absurd rfl h3
     rotate_left
     ·exact absurd h5 (by decide)
     have HW := hid (show WI s2 g2 (ql es9) at2 (L ++ [((many : Int) + 1, s.1)]) (many + 1) from hwi); have HWW := hid (show ∀ j, words (ql es9) j = if j = cp then words (ql es) j ++ [(many : Int) + 1] else words (ql es) j from hww); have HNEW := hid hnew
     have HRN := hid (show (R cp).2.1 ≤ 1000000 by
       have h1 := (HI.out.qd.row cp).len
       have h2 := (HLN.out)
       omega)
     obtain rfl : s2 = s := hs
     clear HWS2 hwi hww hnew
     have hw2 : IntKind.u64.wrap ((many : Int) + 1) = (many : Int) + 1 := by have := HMJ.out; have := hj3.out; rw [IntKind.wrap_u64]; omega
     obtain ⟨Wm, hup, hma, hgm⟩ := HI.out.ma.update (P := Try.prog) Try.underlying50 Try.underlying38 ((many : Int) + 1) (.int .i64 s2.1)
     rw [putL_inW, putI_new HNEW.out] at hma
     have P5 := hid HI.out.p5
     obtain ⟨y00, y01, y02, y03, y04, y05, y06, y07, yf0⟩ := P5.out.cells8
     obtain ⟨y10, y11, y12, yf1⟩ := PO.out.cells3
     go_upto_region 23 with fail
     clear hup hw2 y10 y11 y12 yf1 y00 y01 y02 y03 y04 y05 y06 y07 yf0
     replace PO := hid (PO.out.grown hgm (fun e => HI.out.ma.nocell PO.out (Option.some.inj e)))
     replace HI := hid (HI.out.atPut hqa.out hgm hma)
     clear hgm hma P5 HNEW
     have HQ := hid (Below.refl Wm.heap.size Wm)
     obtain ⟨i0, hi0, hz00, hz01, hz02⟩ := info_parts info_u64
     have bx := (Below.refl Wm.heap.size Wm).drew
     replace HI := hid (HI.out.step bx); replace PO := hid (PO.out.step bx)
     clear bx
     have hszd := hid (show Wm.drew.heap.size = Wm.heap.size from rfl)
     refine wp_region_noPanic ?_
     refine wp_region_held_drew (S := (fun W' : World => W'.cell? ⟨wr.heap.size, 1, none⟩ = some (.int .i64 cp))) (by kernel_rfl) PO.out.cells3.2.1 (fun hS => ?_)
     generalize Wm.drew = Wd at *
     refine wpAnyH_take (i := 0) (v := ?_) (by simp only [List.getElem?_toArray, List.getElem?_cons_succ, List.getElem?_cons_zero]; rfl) (by kernel_rfl) (by kernel_rfl) (by kernel_rfl) (fun _ _ _ h => h) (Or.inl ⟨by rfl, ?_⟩) hS ?_
     rotate_left
     · intro w' hSw; (try dsimp only at hSw); go_split_ands; go_simp; (try with_reducible rfl)
     (try simp only [Act.put, List.setIfInBounds_toArray, List.set_cons_zero, List.set_cons_succ])
     refine wpAnyH_take (i := 1) (v := ?_) (by simp only [List.getElem?_toArray, List.getElem?_cons_succ, List.getElem?_cons_zero]; rfl) (by kernel_rfl) (by kernel_rfl) (by kernel_rfl) (fun _ _ _ h => h) (Or.inl ⟨by rfl, ?_⟩) hS ?_
     rotate_left
     · intro w' hSw; (try dsimp only at hSw); go_split_ands; go_simp; (try with_reducible rfl)
     (try simp only [Act.put, List.setIfInBounds_toArray, List.set_cons_zero, List.set_cons_succ])
     refine wpAnyH_take (i := 2) (v := ?_) (by simp only [List.getElem?_toArray, List.getElem?_cons_succ, List.getElem?_cons_zero]; rfl) (by kernel_rfl) (by kernel_rfl) (by kernel_rfl) (fun _ _ _ h => h) (Or.inl ⟨by rfl, ?_⟩) hS ?_
     rotate_left
     · intro w' hSw; (try dsimp only at hSw); go_split_ands; go_simp; (try with_reducible rfl)
     (try simp only [Act.put, List.setIfInBounds_toArray, List.set_cons_zero, List.set_cons_succ])
     refine wpAnyH_take (i := 3) (v := ?_) (by simp only [List.getElem?_toArray, List.getElem?_cons_succ, List.getElem?_cons_zero]; rfl) (by kernel_rfl) (by kernel_rfl) (by kernel_rfl) (fun _ _ _ h => h) (Or.inl ⟨by rfl, ?_⟩) hS ?_
     rotate_left
     · intro w' hSw; (try dsimp only at hSw); go_split_ands; go_simp; (try with_reducible rfl)
     (try simp only [Act.put, List.setIfInBounds_toArray, List.set_cons_zero, List.set_cons_succ])
     refine wpAnyH_take (i := 4) (v := ?_) (by simp only [List.getElem?_toArray, List.getElem?_cons_succ, List.getElem?_cons_zero]; rfl) (by kernel_rfl) (by kernel_rfl) (by kernel_rfl) (fun _ _ _ h => h) (Or.inl ⟨by rfl, ?_⟩) hS ?_
     rotate_left
     · intro w' hSw; (try dsimp only at hSw); go_split_ands; go_simp; (try with_reducible rfl)
     (try simp only [Act.put, List.setIfInBounds_toArray, List.set_cons_zero, List.set_cons_succ])
     refine wpAnyH_take (i := 5) (v := ?_) (by simp only [List.getElem?_toArray, List.getElem?_cons_succ, List.getElem?_cons_zero]; rfl) (by kernel_rfl) (by kernel_rfl) (by kernel_rfl) (fun _ _ _ h => h) (Or.inl ⟨by rfl, ?_⟩) hS ?_
     rotate_left
     · intro w' hSw; (try dsimp only at hSw); go_split_ands; go_simp; (try with_reducible rfl)
     (try simp only [Act.put, List.setIfInBounds_toArray, List.set_cons_zero, List.set_cons_succ])
     refine wpAnyH_take (i := 7) (v := ?_) (by simp only [List.getElem?_toArray, List.getElem?_cons_succ, List.getElem?_cons_zero]; rfl) (by kernel_rfl) (by kernel_rfl) (by kernel_rfl) (fun _ _ _ h => h) (Or.inl ⟨by rfl, ?_⟩) hS ?_
     rotate_left
     · intro w' hSw; (try dsimp only at hSw); go_split_ands; go_simp; (try with_reducible rfl)
     (try simp only [Act.put, List.setIfInBounds_toArray, List.set_cons_zero, List.set_cons_succ])
     refine wpAnyH_ready (rs := [6, 8]) (by kernel_rfl) (by simp) ?_
     refine AllReadyH.cons (by simp only [List.getElem?_toArray, List.getElem?_cons_succ, List.getElem?_cons_zero]; rfl) (fun K hK => ?_) ?_
     · skip
       have hlk := HI.out.qd.map.look1 (P := Try.prog) Try.underlying51 Try.underlying3 (cp : Int) (z := .slice none 0 0) (by kernel_rfl)
       rw [HI.out.qd.at_ cp] at hlk
       go_simp
       clear hlk
       refine hK.out _ _ PO.out.cells3.2.1 (fun hS' => ?_)
       clear hK K hS
       have hS := hS'
       clear hS'
       (try simp only [Act.put, List.setIfInBounds_toArray, List.set_cons_zero, List.set_cons_succ])
       refine wpAnyH_ready (rs := [8]) (by kernel_rfl) (by simp) ?_
       refine AllReadyH.cons (by simp only [List.getElem?_toArray, List.getElem?_cons_succ, List.getElem?_cons_zero]; rfl) (fun K hK => ?_) ?_
       · skip
         go_simp
         refine named_alloc ?_
         intro Wa8 hbk hb hsz
         have hsz1 := hid hsz
         replace HI := hid (HI.out.step hb); replace PO := hid (PO.out.step hb)
         have PB := hid hbk
         clear hb hbk hsz
         refine hK.out _ _ PO.out.cells3.2.1 (fun hS' => ?_)
         clear hK K hS
         have hS := hS'
         clear hS'
         (try simp only [Act.put, List.setIfInBounds_toArray, List.set_cons_zero, List.set_cons_succ])
         refine wpAnyH_ready (rs := [9]) (by kernel_rfl) (by simp) ?_
         refine AllReadyH.cons (by simp only [List.getElem?_toArray, List.getElem?_cons_succ, List.getElem?_cons_zero]; rfl) (fun K hK => ?_) ?_
         · skip
           refine step_wapp rfl _ _ 52 rfl (HI.out.qd.row cp) Try.underlying52 hi0 hz00 hz01 hz02 rfl rfl _ ((many : Int) + 1) rfl (PB.out.cells1.1) (by have := HRN.out; exact this) (by have := HI.out.be.size; exact this) ?_
           intro A9 c9 Wc9 hwn hg9 hA9
           obtain ⟨hm1, hput⟩ := HI.out.rowPut hqa.out hg9 hwn hA9
           have HM1 := hid hm1; have HPUT := hid hput
           replace PO := hid (PO.out.grown hg9 (fun e => by
             cases hR : (R cp).1 with
             | none => rw [hR] at e; cases e
             | some b =>
               rw [hR] at e
               obtain ⟨_, _, cs, hk⟩ := (HI.out.qd.row cp).lt b hR
               exact PO.out.neT hk (by decide) (Option.some.inj e)))
           clear hm1 hput hwn hg9 hA9 HI PB
           refine hK.out _ _ PO.out.cells3.2.1 (fun hS' => ?_)
           clear hK K hS
           have hS := hS'
           clear hS'
           (try simp only [Act.put, List.setIfInBounds_toArray, List.set_cons_zero, List.set_cons_succ])
           refine wpAnyH_ready (rs := [10]) (by kernel_rfl) (by simp) ?_
           refine AllReadyH.cons (by simp only [List.getElem?_toArray, List.getElem?_cons_succ, List.getElem?_cons_zero]; rfl) (fun K hK => ?_) ?_
           · skip
             obtain ⟨Wc10, hup, hmq, hg10⟩ := HM1.out.update (P := Try.prog) Try.underlying51 Try.underlying3 (cp : Int) (.slice A9 ((R cp).2.1 + 1) c9)
             go_simp
             have HI := hid (HPUT.out Wc10 hg10 hmq)
             replace PO := hid (PO.out.grown hg10 (fun e => HM1.out.nocell PO.out (Option.some.inj e)))
             clear hup hmq hg10 HM1 HPUT
             refine hK.out _ _ PO.out.cells3.2.1 (fun hS' => ?_)
             clear hK K hS
             have hS := hS'
             clear hS'
             (try simp only [Act.put, List.setIfInBounds_toArray, List.set_cons_zero, List.set_cons_succ])
             refine wpAnyH_done (by kernel_rfl) ?_ _
             refine NoPanic.normal ?_
             clear hS
             have hws : (fun d => if d = cp then words (ql es) cp ++ [(many : Int) + 1] else words (ql es) d) = words (ql es9) := by
               funext d
               rw [HWW.out d]
               split
               · rename_i e; rw [e]
               · rfl
             rw [hws] at HI
             clear hws
             have hln := HI.out.ma.len_ (P := Try.prog) Try.underlying50
             obtain ⟨y00, y01, y02, y03, y04, y05, y06, y07, yf0⟩ := HI.out.p5.cells8
             go_wp2_with fail
             clear hln y00 y01 y02 y03 y04 y05 y06 y07 yf0
             refine (rwaiting_any s2 g2 es9 a9 _ HI.out.rr.rcr).mono ?_
             rintro e Wl ⟨rfl, hb⟩
             replace HI := hid (HI.out.step hb)
             clear hb
             rw [if_pos (rcOk_iff.2 HW.out.good), HW.out.wn]
             have hln := HI.out.ma.len_ (P := Try.prog) Try.underlying50
             simp only [inV, List.length_map] at hln
             go_upto_region 32 with fail
             clear hln
             have hj4 := hj3.out
             have hw1 : IntKind.i64.wrap ((j : Int) + 1) = (j : Int) + 1 := by rw [IntKind.wrap_i64]; omega
             go_wp2_with fail
             go_roundw
             case rel => exact ⟨j + 1, many + 1, _, _, _, _, _, _, _, _, _, by omega, by omega, by have := HMJ.out; omega, by go_num, by go_num, HI.out, HW.out⟩
             case measure => simp [intOf]; omega
           exact AllReadyH.nil
         exact AllReadyH.nil
       exact AllReadyH.nil
     refine AllReadyH.cons (by simp only [List.getElem?_toArray, List.getElem?_cons_succ, List.getElem?_cons_zero]; rfl) (fun K hK => ?_) ?_
     · skip
       go_simp
       refine named_alloc ?_
       intro Wa8 hbk hb hsz
       have hsz0 := hid hsz
       replace HI := hid (HI.out.step hb); replace PO := hid (PO.out.step hb)
       have PB := hid hbk
       clear hb hbk hsz
       refine hK.out _ _ PO.out.cells3.2.1 (fun hS' => ?_)
       clear hK K hS
       have hS := hS'
       clear hS'
       (try simp only [Act.put, List.setIfInBounds_toArray, List.set_cons_zero, List.set_cons_succ])
       refine wpAnyH_ready (rs := [6]) (by kernel_rfl) (by simp) ?_
       refine AllReadyH.cons (by simp only [List.getElem?_toArray, List.getElem?_cons_succ, List.getElem?_cons_zero]; rfl) (fun K hK => ?_) ?_
       · skip
         have hlk := HI.out.qd.map.look1 (P := Try.prog) Try.underlying51 Try.underlying3 (cp : Int) (z := .slice none 0 0) (by kernel_rfl)
         rw [HI.out.qd.at_ cp] at hlk
         go_simp
         clear hlk
         refine hK.out _ _ PO.out.cells3.2.1 (fun hS' => ?_)
         clear hK K hS
         have hS := hS'
         clear hS'
         (try simp only [Act.put, List.setIfInBounds_toArray, List.set_cons_zero, List.set_cons_succ])
         refine wpAnyH_ready (rs := [9]) (by kernel_rfl) (by simp) ?_
         refine AllReadyH.cons (by simp only [List.getElem?_toArray, List.getElem?_cons_succ, List.getElem?_cons_zero]; rfl) (fun K hK => ?_) ?_
         · skip
           refine step_wapp rfl _ _ 52 rfl (HI.out.qd.row cp) Try.underlying52 hi0 hz00 hz01 hz02 rfl rfl _ ((many : Int) + 1) rfl (PB.out.cells1.1) (by have := HRN.out; exact this) (by have := HI.out.be.size; exact this) ?_
           intro A9 c9 Wc9 hwn hg9 hA9
           obtain ⟨hm1, hput⟩ := HI.out.rowPut hqa.out hg9 hwn hA9
           have HM1 := hid hm1; have HPUT := hid hput
           replace PO := hid (PO.out.grown hg9 (fun e => by
             cases hR : (R cp).1 with
             | none => rw [hR] at e; cases e
             | some b =>
               rw [hR] at e
               obtain ⟨_, _, cs, hk⟩ := (HI.out.qd.row cp).lt b hR
               exact PO.out.neT hk (by decide) (Option.some.inj e)))
           clear hm1 hput hwn hg9 hA9 HI PB
           refine hK.out _ _ PO.out.cells3.2.1 (fun hS' => ?_)
           clear hK K hS
           have hS := hS'
           clear hS'
           (try simp only [Act.put, List.setIfInBounds_toArray, List.set_cons_zero, List.set_cons_succ])
           refine wpAnyH_ready (rs := [10]) (by kernel_rfl) (by simp) ?_
           refine AllReadyH.cons (by simp only [List.getElem?_toArray, List.getElem?_cons_succ, List.getElem?_cons_zero]; rfl) (fun K hK => ?_) ?_
           · skip
             obtain ⟨Wc10, hup, hmq, hg10⟩ := HM1.out.update (P := Try.prog) Try.underlying51 Try.underlying3 (cp : Int) (.slice A9 ((R cp).2.1 + 1) c9)
             go_simp
             have HI := hid (HPUT.out Wc10 hg10 hmq)
             replace PO := hid (PO.out.grown hg10 (fun e => HM1.out.nocell PO.out (Option.some.inj e)))
             clear hup hmq hg10 HM1 HPUT
             refine hK.out _ _ PO.out.cells3.2.1 (fun hS' => ?_)
             clear hK K hS
             have hS := hS'
             clear hS'
             (try simp only [Act.put, List.setIfInBounds_toArray, List.set_cons_zero, List.set_cons_succ])
             refine wpAnyH_done (by kernel_rfl) ?_ _
             refine NoPanic.normal ?_
             clear hS
             have hws : (fun d => if d = cp then words (ql es) cp ++ [(many : Int) + 1] else words (ql es) d) = words (ql es9) := by
               funext d
               rw [HWW.out d]
               split
               · rename_i e; rw [e]
               · rfl
             rw [hws] at HI
             clear hws
             have hln := HI.out.ma.len_ (P := Try.prog) Try.underlying50
             obtain ⟨y00, y01, y02, y03, y04, y05, y06, y07, yf0⟩ := HI.out.p5.cells8
             go_wp2_with fail
             clear hln y00 y01 y02 y03 y04 y05 y06 y07 yf0
             refine (rwaiting_any s2 g2 es9 a9 _ HI.out.rr.rcr).mono ?_
             rintro e Wl ⟨rfl, hb⟩
             replace HI := hid (HI.out.step hb)
             clear hb
             rw [if_pos (rcOk_iff.2 HW.out.good), HW.out.wn]
             have hln := HI.out.ma.len_ (P := Try.prog) Try.underlying50
             simp only [inV, List.length_map] at hln
             go_upto_region 32 with fail
             clear hln
             have hj4 := hj3.out
             have hw1 : IntKind.i64.wrap ((j : Int) + 1) = (j : Int) + 1 := by rw [IntKind.wrap_i64]; omega
             go_wp2_with fail
             go_roundw
             case rel => exact ⟨j + 1, many + 1, _, _, _, _, _, _, _, _, _, by omega, by omega, by have := HMJ.out; omega, by go_num, by go_num, HI.out, HW.out⟩
             case measure => simp [intOf]; omega
           exact AllReadyH.nil
         exact AllReadyH.nil
       exact AllReadyH.nil
     exact AllReadyH.nil
    by_cases k5 : ok = 5
    ·skip
     subst k5
     clear k3
     go_upto_region 16 with fail
     clear z0 z1 z2 zf
     have bx := below_box wr (.cells #[.int .i64 5, .int .i64 oc, .int .u64 0] 44)
     replace HI := hid (HI.out.step bx)
     clear bx
     have PO := hid (Blk.new wr 44 #[.int .i64 5, .int .i64 oc, .int .u64 0])
     have HSZ := hid (show wr.heap.size < (wr.alloc (.cells #[.int .i64 5, .int .i64 oc, .int .u64 0] 44)).heap.size by simp)
     generalize wr.alloc (.cells #[.int .i64 5, .int .i64 oc, .int .u64 0] 44) = W6 at *
     obtain ⟨y00, y01, y02, y03, y04, y05, y06, y07, yf0⟩ := HI.out.p5.cells8
     obtain ⟨z0, z1, z2, zf⟩ := PO.out.cells3
     have hRC := (rcA_ok (L := [(5, oc, 0)]) HW.out.good).trans (opsA_one s g' (ql es) (5, oc, 0))
     by_cases h0 : (opF s g' (ql es) (5, oc, 0)).1 = 0
     rotate_left
     ·skip
      rw [if_neg h0] at hRC
      obtain ⟨ec, hec⟩ : ∃ ec, ec = (opF s g' (ql es) (5, oc, 0)).1 := ⟨_, rfl⟩
      rw [← hec] at hRC h0
      have HRC := hid hRC; have d1 : (ec == 0) = false := by simpa using h0
      clear hRC hec h0
      go_wp2_with fail
      clear z0 z1 z2 zf y00 y01 y02 y03 y04 y05 y06 y07 yf0
      refine (rstepR (o := (5, oc, 0)) _ HI.out.rr.rcr HRC.out).mono ?_
      rintro e w7 ⟨a9, es9, rfl, hq9, hn9, hr9, hb⟩
      clear HRC hq9 hn9 hr9
      dsimp only
      replace HI := hid (HI.out.step hb)
      clear hb PO
      have bx := below_box w7 (.cells (rcells (0, [], []) zGr a9) 30)
      replace HI := hid (HI.out.step bx)
      clear bx
      go_upto_region 32 with fail
      clear d1
      generalize w7.alloc (.cells (rcells (0, [], []) zGr a9) 30) = W8 at *
      have hj4 := hj3.out
      have hw1 : IntKind.i64.wrap ((j : Int) + 1) = (j : Int) + 1 := by rw [IntKind.wrap_i64]; omega
      go_wp2_with fail
      go_roundw
      case rel => exact ⟨j + 1, many, _, _, _, _, _, _, _, _, _, by omega, by omega, by have := HMJ.out; omega, by go_num, by go_num, HI.out, HW.out⟩
      case measure => simp [intOf]; omega
     rw [if_pos h0] at hRC
     obtain ⟨hk15, cp, rfl, hcp⟩ := op_ok h0
     have HWS2 := hid (wi_step HW.out (cp := cp) (x := 0) (fun h => absurd h (by decide)) h0 hk15 hcp)
     clear h0
     obtain ⟨r, hr⟩ : ∃ r, r = opF s g' (ql es) (5, (cp : Int), 0) := ⟨_, rfl⟩
     rw [← hr] at hRC HWS2
     clear hr
     obtain ⟨rc, s2, g2, q2, ran⟩ := r
     dsimp only at hRC HWS2
     have HRC := hid hRC
     clear hRC
     go_wp2_with fail
     clear z0 z1 z2 zf y00 y01 y02 y03 y04 y05 y06 y07 yf0
     refine (rstepR (o := (5, (cp : Int), 0)) _ HI.out.rr.rcr HRC.out).mono ?_
     rintro e w7 ⟨a9, es9, rfl, hq9, hn9, hr9, hb⟩
     clear HRC hn9
     dsimp only at hq9 hr9 ⊢
     have RQ := hid hq9; have RS := hid hr9; have HLT := hid HI.out
     have HLN := hid (show (words (ql es) cp).length ≤ 16 by show ((qAt (ql es) cp).1.map Prod.snd).length ≤ 16; rw [List.length_map]; exact (HW.out.good.2.2 _ (qAt_mem hcp)).1.2.1)
     clear hq9 hr9
     replace HI := hid (HI.out.step hb); replace PO := hid (PO.out.step hb)
     clear hb
     have bx := below_box w7 (.cells (rcells s2 g2 a9) 30)
     replace HI := hid (HI.out.step bx); replace PO := hid (PO.out.step bx); replace RS := hid (RS.out.step bx)
     clear bx
     have PN := hid (Blk.new w7 30 (rcells s2 g2 a9))
     go_upto_region 18 with fail
     generalize w7.alloc (.cells (rcells s2 g2 a9) 30) = W8 at *
     clear HSZ
     have P5 := hid HI.out.p5
     obtain ⟨y00, y01, y02, y03, y04, y05, y06, y07, yf0⟩ := PN.out.cells8
     obtain ⟨y10, y11, y12, y13, y14, y15, y16, y17, yf1⟩ := P5.out.cells8
     go_upto_region 19 with fail
     clear y00 y01 y02 y03 y04 y05 y06 y07 yf0 y10 y11 y12 y13 y14 y15 y16 y17 yf1
     have hbk0 : Blk (W8.setCell ⟨w2.heap.size, 0, none⟩ (.int .i64 s2.1)) (w2.heap.size) 30 #[.int .i64 s2.1, .slice a'.A a'.n a'.k, .slice a'.B a'.m a'.d, .int .i64 g'.dn, .int .i64 g'.ak, .bool g'.on, .slice a'.D g'.nd.length a'.kd, .slice a'.Q a'.nq a'.kq] := P5.out.setCell 0 (.int .i64 s2.1)
     have hbk1 : Blk ((W8.setCell ⟨w2.heap.size, 0, none⟩ (.int .i64 s2.1)).setCell ⟨w2.heap.size, 1, none⟩ (.slice a9.A a9.n a9.k)) (w2.heap.size) 30 #[.int .i64 s2.1, .slice a9.A a9.n a9.k, .slice a'.B a'.m a'.d, .int .i64 g'.dn, .int .i64 g'.ak, .bool g'.on, .slice a'.D g'.nd.length a'.kd, .slice a'.Q a'.nq a'.kq] := hbk0.setCell 1 (.slice a9.A a9.n a9.k)
     have hbk2 : Blk (((W8.setCell ⟨w2.heap.size, 0, none⟩ (.int .i64 s2.1)).setCell ⟨w2.heap.size, 1, none⟩ (.slice a9.A a9.n a9.k)).setCell ⟨w2.heap.size, 2, none⟩ (.slice a9.B a9.m a9.d)) (w2.heap.size) 30 #[.int .i64 s2.1, .slice a9.A a9.n a9.k, .slice a9.B a9.m a9.d, .int .i64 g'.dn, .int .i64 g'.ak, .bool g'.on, .slice a'.D g'.nd.length a'.kd, .slice a'.Q a'.nq a'.kq] := hbk1.setCell 2 (.slice a9.B a9.m a9.d)
     have hbk3 : Blk ((((W8.setCell ⟨w2.heap.size, 0, none⟩ (.int .i64 s2.1)).setCell ⟨w2.heap.size, 1, none⟩ (.slice a9.A a9.n a9.k)).setCell ⟨w2.heap.size, 2, none⟩ (.slice a9.B a9.m a9.d)).setCell ⟨w2.heap.size, 3, none⟩ (.int .i64 g2.dn)) (w2.heap.size) 30 #[.int .i64 s2.1, .slice a9.A a9.n a9.k, .slice a9.B a9.m a9.d, .int .i64 g2.dn, .int .i64 g'.ak, .bool g'.on, .slice a'.D g'.nd.length a'.kd, .slice a'.Q a'.nq a'.kq] := hbk2.setCell 3 (.int .i64 g2.dn)
     have hbk4 : Blk (((((W8.setCell ⟨w2.heap.size, 0, none⟩ (.int .i64 s2.1)).setCell ⟨w2.heap.size, 1, none⟩ (.slice a9.A a9.n a9.k)).setCell ⟨w2.heap.size, 2, none⟩ (.slice a9.B a9.m a9.d)).setCell ⟨w2.heap.size, 3, none⟩ (.int .i64 g2.dn)).setCell ⟨w2.heap.size, 4, none⟩ (.int .i64 g2.ak)) (w2.heap.size) 30 #[.int .i64 s2.1, .slice a9.A a9.n a9.k, .slice a9.B a9.m a9.d, .int .i64 g2.dn, .int .i64 g2.ak, .bool g'.on, .slice a'.D g'.nd.length a'.kd, .slice a'.Q a'.nq a'.kq] := hbk3.setCell 4 (.int .i64 g2.ak)
     have hbk5 : Blk ((((((W8.setCell ⟨w2.heap.size, 0, none⟩ (.int .i64 s2.1)).setCell ⟨w2.heap.size, 1, none⟩ (.slice a9.A a9.n a9.k)).setCell ⟨w2.heap.size, 2, none⟩ (.slice a9.B a9.m a9.d)).setCell ⟨w2.heap.size, 3, none⟩ (.int .i64 g2.dn)).setCell ⟨w2.heap.size, 4, none⟩ (.int .i64 g2.ak)).setCell ⟨w2.heap.size, 5, none⟩ (.bool g2.on)) (w2.heap.size) 30 #[.int .i64 s2.1, .slice a9.A a9.n a9.k, .slice a9.B a9.m a9.d, .int .i64 g2.dn, .int .i64 g2.ak, .bool g2.on, .slice a'.D g'.nd.length a'.kd, .slice a'.Q a'.nq a'.kq] := hbk4.setCell 5 (.bool g2.on)
     have hbk6 : Blk (((((((W8.setCell ⟨w2.heap.size, 0, none⟩ (.int .i64 s2.1)).setCell ⟨w2.heap.size, 1, none⟩ (.slice a9.A a9.n a9.k)).setCell ⟨w2.heap.size, 2, none⟩ (.slice a9.B a9.m a9.d)).setCell ⟨w2.heap.size, 3, none⟩ (.int .i64 g2.dn)).setCell ⟨w2.heap.size, 4, none⟩ (.int .i64 g2.ak)).setCell ⟨w2.heap.size, 5, none⟩ (.bool g2.on)).setCell ⟨w2.heap.size, 6, none⟩ (.slice a9.D g2.nd.length a9.kd)) (w2.heap.size) 30 #[.int .i64 s2.1, .slice a9.A a9.n a9.k, .slice a9.B a9.m a9.d, .int .i64 g2.dn, .int .i64 g2.ak, .bool g2.on, .slice a9.D g2.nd.length a9.kd, .slice a'.Q a'.nq a'.kq] := hbk5.setCell 6 (.slice a9.D g2.nd.length a9.kd)
     have hbk7 : Blk ((((((((W8.setCell ⟨w2.heap.size, 0, none⟩ (.int .i64 s2.1)).setCell ⟨w2.heap.size, 1, none⟩ (.slice a9.A a9.n a9.k)).setCell ⟨w2.heap.size, 2, none⟩ (.slice a9.B a9.m a9.d)).setCell ⟨w2.heap.size, 3, none⟩ (.int .i64 g2.dn)).setCell ⟨w2.heap.size, 4, none⟩ (.int .i64 g2.ak)).setCell ⟨w2.heap.size, 5, none⟩ (.bool g2.on)).setCell ⟨w2.heap.size, 6, none⟩ (.slice a9.D g2.nd.length a9.kd)).setCell ⟨w2.heap.size, 7, none⟩ (.slice a9.Q a9.nq a9.kq)) (w2.heap.size) 30 #[.int .i64 s2.1, .slice a9.A a9.n a9.k, .slice a9.B a9.m a9.d, .int .i64 g2.dn, .int .i64 g2.ak, .bool g2.on, .slice a9.D g2.nd.length a9.kd, .slice a9.Q a9.nq a9.kq] := hbk6.setCell 7 (.slice a9.Q a9.nq a9.kq)
     have hgr : W8.grownBy ((((((((W8.setCell ⟨w2.heap.size, 0, none⟩ (.int .i64 s2.1)).setCell ⟨w2.heap.size, 1, none⟩ (.slice a9.A a9.n a9.k)).setCell ⟨w2.heap.size, 2, none⟩ (.slice a9.B a9.m a9.d)).setCell ⟨w2.heap.size, 3, none⟩ (.int .i64 g2.dn)).setCell ⟨w2.heap.size, 4, none⟩ (.int .i64 g2.ak)).setCell ⟨w2.heap.size, 5, none⟩ (.bool g2.on)).setCell ⟨w2.heap.size, 6, none⟩ (.slice a9.D g2.nd.length a9.kd)).setCell ⟨w2.heap.size, 7, none⟩ (.slice a9.Q a9.nq a9.kq)) (some (w2.heap.size)) := (grown_set (grown_set (grown_set (grown_set (grown_set (grown_set (grown_set (grown_set (World.grownBy.refl W8 (some (w2.heap.size))) 0 (.int .i64 s2.1)) 1 (.slice a9.A a9.n a9.k)) 2 (.slice a9.B a9.m a9.d)) 3 (.int .i64 g2.dn)) 4 (.int .i64 g2.ak)) 5 (.bool g2.on)) 6 (.slice a9.D g2.nd.length a9.kd)) 7 (.slice a9.Q a9.nq a9.kq))
     replace P5 := hid hbk7
     clear hbk0 hbk1 hbk2 hbk3 hbk4 hbk5 hbk6 hbk7
     generalize (((((((W8.setCell ⟨w2.heap.size, 0, none⟩ (.int .i64 s2.1)).setCell ⟨w2.heap.size, 1, none⟩ (.slice a9.A a9.n a9.k)).setCell ⟨w2.heap.size, 2, none⟩ (.slice a9.B a9.m a9.d)).setCell ⟨w2.heap.size, 3, none⟩ (.int .i64 g2.dn)).setCell ⟨w2.heap.size, 4, none⟩ (.int .i64 g2.ak)).setCell ⟨w2.heap.size, 5, none⟩ (.bool g2.on)).setCell ⟨w2.heap.size, 6, none⟩ (.slice a9.D g2.nd.length a9.kd)).setCell ⟨w2.heap.size, 7, none⟩ (.slice a9.Q a9.nq a9.kq) = Wf at *
     replace PO := hid (PO.out.grown hgr (fun e => HI.out.p5.neT PO.out (by decide) (Option.some.inj e).symm))
     replace HI := hid (HI.out.turned RS.out HLT.out.p5.lt HLT.out.ma.lt HLT.out.qd.map.lt (fun c b hb => ((HLT.out.qd.row c).lt b hb).2.1) hgr P5.out)
     clear hgr P5 RS PN HLT HW
     obtain rfl := RQ.out
     rcases HWS2.out with ⟨_, h5, _⟩ | ⟨h3, _⟩ | ⟨_, x, st, xs, hx, hrn, hs, hgi, hps, at2, hwi, hww⟩
     ·exact absurd rfl h5
     ·exact absurd h3 (by decide)
     have HW := hid (show WI s2 g2 (ql es9) at2 (delI L x) many from hwi); have HWW := hid (show ∀ j, words (ql es9) j = if j = cp then xs else words (ql es) j from hww); have HX := hid hx; have HGI := hid hgi; have HPS := hid hps
     obtain rfl : s2 = s := hs
     obtain rfl : ran = [x] := hrn
     rw [show lastO [x] = x by simp [lastO]]
     clear HWS2 hwi hww hx hgi hps
     have hlk := HI.out.ma.look (P := Try.prog) Try.underlying50 Try.underlying38 x (z := .int .i64 0) (by kernel_rfl)
     rw [getL_inW, HGI.out] at hlk
     dsimp only [Option.map, Option.getD, Option.isSome] at hlk
     obtain ⟨y00, y01, y02, yf0⟩ := PO.out.cells3
     go_upto_region 26 with fail
     clear hlk y00 y01 y02 yf0
     have hwn := HI.out.qd.row cp
     rw [HX.out] at hwn
     obtain ⟨b0, o0, hA0, hc0, hpos⟩ := hwn.head
     have HWN := hid hwn
     have hlk := HI.out.qd.map.look1 (P := Try.prog) Try.underlying51 Try.underlying3 (cp : Int) (z := .slice none 0 0) (by kernel_rfl)
     rw [HI.out.qd.at_ cp, hA0] at hlk
     have hne : ¬ ((((R cp).2.1 : Nat) : Int) = 0) := by omega
     have hlt : (0 : Int) < (((R cp).2.1 : Nat) : Int) := by omega
     have P5 := hid HI.out.p5
     clear hwn hpos
     obtain ⟨y00, y01, y02, y03, y04, y05, y06, y07, yf0⟩ := P5.out.cells8
     obtain ⟨y10, y11, y12, yf1⟩ := PO.out.cells3
     go_wp2_with fail
     clear y10 y11 y12 yf1 hlk hc0 hne hlt P5 y00 y01 y02 y03 y04 y05 y06 y07 yf0
     refine (passed_any s2.1 a9.A a9.n a9.k a9.B a9.m a9.d s2.2.1 s2.2.2 st Wf HI.out.rr.rcr.rd).mono ?_
     rintro e Wp ⟨rfl, hb⟩
     replace HI := hid (HI.out.step hb); replace PO := hid (PO.out.step hb); replace HWN := hid (HWN.out.step hb)
     clear hb
     rw [decide_eq_true HPS.out]
     go_upto_region 28 with fail
     obtain ⟨i0, hi0, hz00, hz01, hz02⟩ := info_parts info_u64
     clear HPS RQ
     have bx := (Below.refl Wp.heap.size Wp).drew
     replace HI := hid (HI.out.step bx); replace PO := hid (PO.out.step bx); replace HWN := hid (HWN.out.step bx)
     clear bx
     have hszd := hid (show Wp.drew.heap.size = Wp.heap.size from rfl)
     refine wp_region_noPanic ?_
     refine wp_region_held_drew (S := (fun W' : World => W'.cell? ⟨wr.heap.size, 1, none⟩ = some (.int .i64 cp))) (by kernel_rfl) PO.out.cells3.2.1 (fun hS => ?_)
     generalize Wp.drew = Wd at *
     refine wpAnyH_take (i := 0) (v := ?_) (by simp only [List.getElem?_toArray, List.getElem?_cons_succ, List.getElem?_cons_zero]; rfl) (by kernel_rfl) (by kernel_rfl) (by kernel_rfl) (fun _ _ _ h => h) (Or.inl ⟨by rfl, ?_⟩) hS ?_
     rotate_left
     · intro w' hSw; (try dsimp only at hSw); go_split_ands; go_simp; (try with_reducible rfl)
     (try simp only [Act.put, List.setIfInBounds_toArray, List.set_cons_zero, List.set_cons_succ])
     refine wpAnyH_take (i := 1) (v := ?_) (by simp only [List.getElem?_toArray, List.getElem?_cons_succ, List.getElem?_cons_zero]; rfl) (by kernel_rfl) (by kernel_rfl) (by kernel_rfl) (fun _ _ _ h => h) (Or.inl ⟨by rfl, ?_⟩) hS ?_
     rotate_left
     · intro w' hSw; (try dsimp only at hSw); go_split_ands; go_simp; (try with_reducible rfl)
     (try simp only [Act.put, List.setIfInBounds_toArray, List.set_cons_zero, List.set_cons_succ])
     refine wpAnyH_take (i := 2) (v := ?_) (by simp only [List.getElem?_toArray, List.getElem?_cons_succ, List.getElem?_cons_zero]; rfl) (by kernel_rfl) (by kernel_rfl) (by kernel_rfl) (fun _ _ _ h => h) (Or.inl ⟨by rfl, ?_⟩) hS ?_
     rotate_left
     · intro w' hSw; (try dsimp only at hSw); go_split_ands; go_simp; (try with_reducible rfl)
     (try simp only [Act.put, List.setIfInBounds_toArray, List.set_cons_zero, List.set_cons_succ])
     refine wpAnyH_take (i := 3) (v := ?_) (by simp only [List.getElem?_toArray, List.getElem?_cons_succ, List.getElem?_cons_zero]; rfl) (by kernel_rfl) (by kernel_rfl) (by kernel_rfl) (fun _ _ _ h => h) (Or.inl ⟨by rfl, ?_⟩) hS ?_
     rotate_left
     · intro w' hSw; (try dsimp only at hSw); go_split_ands; go_simp; (try with_reducible rfl)
     (try simp only [Act.put, List.setIfInBounds_toArray, List.set_cons_zero, List.set_cons_succ])
     refine wpAnyH_take (i := 4) (v := ?_) (by simp only [List.getElem?_toArray, List.getElem?_cons_succ, List.getElem?_cons_zero]; rfl) (by kernel_rfl) (by kernel_rfl) (by kernel_rfl) (fun _ _ _ h => h) (Or.inl ⟨by rfl, ?_⟩) hS ?_
     rotate_left
     · intro w' hSw; (try dsimp only at hSw); go_split_ands; go_simp; (try with_reducible rfl)
     (try simp only [Act.put, List.setIfInBounds_toArray, List.set_cons_zero, List.set_cons_succ])
     refine wpAnyH_take (i := 5) (v := ?_) (by simp only [List.getElem?_toArray, List.getElem?_cons_succ, List.getElem?_cons_zero]; rfl) (by kernel_rfl) (by kernel_rfl) (by kernel_rfl) (fun _ _ _ h => h) (Or.inl ⟨by rfl, ?_⟩) hS ?_
     rotate_left
     · intro w' hSw; (try dsimp only at hSw); go_split_ands; go_simp; (try with_reducible rfl)
     (try simp only [Act.put, List.setIfInBounds_toArray, List.set_cons_zero, List.set_cons_succ])
     refine wpAnyH_ready (rs := [6]) (by kernel_rfl) (by simp) ?_
     refine AllReadyH.cons (by simp only [List.getElem?_toArray, List.getElem?_cons_succ, List.getElem?_cons_zero]; rfl) (fun K hK => ?_) ?_
     · skip
       have hlk := HI.out.qd.map.look1 (P := Try.prog) Try.underlying51 Try.underlying3 (cp : Int) (z := .slice none 0 0) (by kernel_rfl)
       rw [HI.out.qd.at_ cp] at hlk
       go_simp
       clear hlk
       refine hK.out _ _ PO.out.cells3.2.1 (fun hS' => ?_)
       clear hK K hS
       have hS := hS'
       clear hS'
       (try simp only [Act.put, List.setIfInBounds_toArray, List.set_cons_zero, List.set_cons_succ])
       refine wpAnyH_ready (rs := [7]) (by kernel_rfl) (by simp) ?_
       refine AllReadyH.cons (by simp only [List.getElem?_toArray, List.getElem?_cons_succ, List.getElem?_cons_zero]; rfl) (fun K hK => ?_) ?_
       · skip
         have hw := HWN.out
         rw [hA0] at hw
         obtain ⟨hwn, hA9, h1n⟩ := hw.rest
         go_simp
         clear hw h1n
         obtain ⟨A9, hA9e⟩ : ∃ A9 : Option Addr, A9 = if (R cp).2.2 = 1 then some ⟨b0, o0, none⟩ else some ⟨b0, o0 + 1, none⟩ := ⟨_, rfl⟩
         rw [← hA9e] at hwn hA9 ⊢
         clear hA9e
         obtain ⟨hm1, hput⟩ := HI.out.rowPut (c := cp) hqa.out (World.grownBy.refl _ _) hwn (fun a' ha => .inl ⟨_, hA0, hA9 a' ha⟩)
         have HM1 := hid hm1; have HPUT := hid hput
         clear hm1 hput hwn hA9 HWN
         refine hK.out _ _ PO.out.cells3.2.1 (fun hS' => ?_)
         clear hK K hS
         have hS := hS'
         clear hS'
         (try simp only [Act.put, List.setIfInBounds_toArray, List.set_cons_zero, List.set_cons_succ])
         refine wpAnyH_ready (rs := [8]) (by kernel_rfl) (by simp) ?_
         refine AllReadyH.cons (by simp only [List.getElem?_toArray, List.getElem?_cons_succ, List.getElem?_cons_zero]; rfl) (fun K hK => ?_) ?_
         · skip
           obtain ⟨Wc8, hup, hmq, hg10⟩ := HM1.out.update (P := Try.prog) Try.underlying51 Try.underlying3 (cp : Int) (.slice A9 ((R cp).2.1 - 1) ((R cp).2.2 - 1))
           go_simp
           replace HI := hid (HPUT.out Wc8 hg10 hmq)
           replace PO := hid (PO.out.grown hg10 (fun e => HM1.out.nocell PO.out (Option.some.inj e)))
           clear hup hmq hg10 HM1 HPUT
           refine hK.out _ _ PO.out.cells3.2.1 (fun hS' => ?_)
           clear hK K hS
           have hS := hS'
           clear hS'
           (try simp only [Act.put, List.setIfInBounds_toArray, List.set_cons_zero, List.set_cons_succ])
           refine wpAnyH_done (by kernel_rfl) ?_ _
           refine NoPanic.normal ?_
           clear hS
           skip
           have hws : (fun d => if d = cp then xs else words (ql es) d) = words (ql es9) := by
             funext d
             exact (HWW.out d).symm
           rw [hws] at HI
           clear hws
           obtain ⟨Wm, hdel, hma, hgm⟩ := HI.out.ma.delete (P := Try.prog) Try.underlying50 Try.underlying38 x
           rw [delL_inW] at hma
           go_upto_region 30 with fail
           clear hdel
           replace HI := hid (HI.out.atPut hqa.out hgm hma)
           clear hgm hma
           have hln := HI.out.ma.len_ (P := Try.prog) Try.underlying50
           obtain ⟨y00, y01, y02, y03, y04, y05, y06, y07, yf0⟩ := HI.out.p5.cells8
           go_wp2_with fail
           clear hln y00 y01 y02 y03 y04 y05 y06 y07 yf0
           refine (rwaiting_any s2 g2 es9 a9 _ HI.out.rr.rcr).mono ?_
           rintro e Wl ⟨rfl, hb⟩
           replace HI := hid (HI.out.step hb)
           clear hb
           rw [if_pos (rcOk_iff.2 HW.out.good), HW.out.wn]
           have hln := HI.out.ma.len_ (P := Try.prog) Try.underlying50
           simp only [inV, List.length_map] at hln
           go_upto_region 32 with fail
           clear hln
           have hj4 := hj3.out
           have hw1 : IntKind.i64.wrap ((j : Int) + 1) = (j : Int) + 1 := by rw [IntKind.wrap_i64]; omega
           go_wp2_with fail
           go_roundw
           case rel => exact ⟨j + 1, many, _, _, _, _, _, _, _, _, _, by omega, by omega, by have := HMJ.out; omega, by go_num, by go_num, HI.out, HW.out⟩
           case measure => simp [intOf]; omega
         exact AllReadyH.nil
       exact AllReadyH.nil
     exact AllReadyH.nil
    skip
    have dk3 : (ok == 3) = false := by simpa using k3
    have dk5 : (ok == 5) = false := by simpa using k5
    go_upto_region 16 with fail
    clear z0 z1 z2 zf
    have bx := below_box wr (.cells #[.int .i64 ok, .int .i64 oc, .int .u64 0] 44)
    replace HI := hid (HI.out.step bx)
    clear bx
    have PO := hid (Blk.new wr 44 #[.int .i64 ok, .int .i64 oc, .int .u64 0])
    have HSZ := hid (show wr.heap.size < (wr.alloc (.cells #[.int .i64 ok, .int .i64 oc, .int .u64 0] 44)).heap.size by simp)
    generalize wr.alloc (.cells #[.int .i64 ok, .int .i64 oc, .int .u64 0] 44) = W6 at *
    obtain ⟨y00, y01, y02, y03, y04, y05, y06, y07, yf0⟩ := HI.out.p5.cells8
    obtain ⟨z0, z1, z2, zf⟩ := PO.out.cells3
    have hRC := (rcA_ok (L := [(ok, oc, 0)]) HW.out.good).trans (opsA_one s g' (ql es) (ok, oc, 0))
    by_cases h0 : (opF s g' (ql es) (ok, oc, 0)).1 = 0
    rotate_left
    ·skip
     rw [if_neg h0] at hRC
     obtain ⟨ec, hec⟩ : ∃ ec, ec = (opF s g' (ql es) (ok, oc, 0)).1 := ⟨_, rfl⟩
     rw [← hec] at hRC h0
     have HRC := hid hRC; have d1 : (ec == 0) = false := by simpa using h0
     clear hRC hec h0
     go_wp2_with fail
     clear z0 z1 z2 zf y00 y01 y02 y03 y04 y05 y06 y07 yf0
     refine (rstepR (o := (ok, oc, 0)) _ HI.out.rr.rcr HRC.out).mono ?_
     rintro e w7 ⟨a9, es9, rfl, hq9, hn9, hr9, hb⟩
     clear HRC hq9 hn9 hr9
     dsimp only
     replace HI := hid (HI.out.step hb)
     clear hb PO
     have bx := below_box w7 (.cells (rcells (0, [], []) zGr a9) 30)
     replace HI := hid (HI.out.step bx)
     clear bx
     go_upto_region 32 with fail
     clear d1
     generalize w7.alloc (.cells (rcells (0, [], []) zGr a9) 30) = W8 at *
     have hj4 := hj3.out
     have hw1 : IntKind.i64.wrap ((j : Int) + 1) = (j : Int) + 1 := by rw [IntKind.wrap_i64]; omega
     go_wp2_with fail
     go_roundw
     case rel => exact ⟨j + 1, many, _, _, _, _, _, _, _, _, _, by omega, by omega, by have := HMJ.out; omega, by go_num, by go_num, HI.out, HW.out⟩
     case measure => simp [intOf]; omega
    rw [if_pos h0] at hRC
    obtain ⟨hk15, cp, rfl, hcp⟩ := op_ok h0
    have HWS2 := hid (wi_step HW.out (cp := cp) (x := 0) (fun h => absurd h k3) h0 hk15 hcp)
    clear h0
    obtain ⟨r, hr⟩ : ∃ r, r = opF s g' (ql es) (ok, (cp : Int), 0) := ⟨_, rfl⟩
    rw [← hr] at hRC HWS2
    clear hr
    obtain ⟨rc, s2, g2, q2, ran⟩ := r
    dsimp only at hRC HWS2
    have HRC := hid hRC
    clear hRC
    go_wp2_with fail
    clear z0 z1 z2 zf y00 y01 y02 y03 y04 y05 y06 y07 yf0
    refine (rstepR (o := (ok, (cp : Int), 0)) _ HI.out.rr.rcr HRC.out).mono ?_
    rintro e w7 ⟨a9, es9, rfl, hq9, hn9, hr9, hb⟩
    clear HRC hn9
    dsimp only at hq9 hr9 ⊢
    have RQ := hid hq9; have RS := hid hr9; have HLT := hid HI.out
    have HLN := hid (show (words (ql es) cp).length ≤ 16 by show ((qAt (ql es) cp).1.map Prod.snd).length ≤ 16; rw [List.length_map]; exact (HW.out.good.2.2 _ (qAt_mem hcp)).1.2.1)
    clear hq9 hr9
    replace HI := hid (HI.out.step hb); replace PO := hid (PO.out.step hb)
    clear hb
    have bx := below_box w7 (.cells (rcells s2 g2 a9) 30)
    replace HI := hid (HI.out.step bx); replace PO := hid (PO.out.step bx); replace RS := hid (RS.out.step bx)
    clear bx
    have PN := hid (Blk.new w7 30 (rcells s2 g2 a9))
    go_upto_region 18 with fail
    generalize w7.alloc (.cells (rcells s2 g2 a9) 30) = W8 at *
    clear HSZ
    have P5 := hid HI.out.p5
    obtain ⟨y00, y01, y02, y03, y04, y05, y06, y07, yf0⟩ := PN.out.cells8
    obtain ⟨y10, y11, y12, y13, y14, y15, y16, y17, yf1⟩ := P5.out.cells8
    go_upto_region 19 with fail
    clear y00 y01 y02 y03 y04 y05 y06 y07 yf0 y10 y11 y12 y13 y14 y15 y16 y17 yf1
    have hbk0 : Blk (W8.setCell ⟨w2.heap.size, 0, none⟩ (.int .i64 s2.1)) (w2.heap.size) 30 #[.int .i64 s2.1, .slice a'.A a'.n a'.k, .slice a'.B a'.m a'.d, .int .i64 g'.dn, .int .i64 g'.ak, .bool g'.on, .slice a'.D g'.nd.length a'.kd, .slice a'.Q a'.nq a'.kq] := P5.out.setCell 0 (.int .i64 s2.1)
    have hbk1 : Blk ((W8.setCell ⟨w2.heap.size, 0, none⟩ (.int .i64 s2.1)).setCell ⟨w2.heap.size, 1, none⟩ (.slice a9.A a9.n a9.k)) (w2.heap.size) 30 #[.int .i64 s2.1, .slice a9.A a9.n a9.k, .slice a'.B a'.m a'.d, .int .i64 g'.dn, .int .i64 g'.ak, .bool g'.on, .slice a'.D g'.nd.length a'.kd, .slice a'.Q a'.nq a'.kq] := hbk0.setCell 1 (.slice a9.A a9.n a9.k)
    have hbk2 : Blk (((W8.setCell ⟨w2.heap.size, 0, none⟩ (.int .i64 s2.1)).setCell ⟨w2.heap.size, 1, none⟩ (.slice a9.A a9.n a9.k)).setCell ⟨w2.heap.size, 2, none⟩ (.slice a9.B a9.m a9.d)) (w2.heap.size) 30 #[.int .i64 s2.1, .slice a9.A a9.n a9.k, .slice a9.B a9.m a9.d, .int .i64 g'.dn, .int .i64 g'.ak, .bool g'.on, .slice a'.D g'.nd.length a'.kd, .slice a'.Q a'.nq a'.kq] := hbk1.setCell 2 (.slice a9.B a9.m a9.d)
    have hbk3 : Blk ((((W8.setCell ⟨w2.heap.size, 0, none⟩ (.int .i64 s2.1)).setCell ⟨w2.heap.size, 1, none⟩ (.slice a9.A a9.n a9.k)).setCell ⟨w2.heap.size, 2, none⟩ (.slice a9.B a9.m a9.d)).setCell ⟨w2.heap.size, 3, none⟩ (.int .i64 g2.dn)) (w2.heap.size) 30 #[.int .i64 s2.1, .slice a9.A a9.n a9.k, .slice a9.B a9.m a9.d, .int .i64 g2.dn, .int .i64 g'.ak, .bool g'.on, .slice a'.D g'.nd.length a'.kd, .slice a'.Q a'.nq a'.kq] := hbk2.setCell 3 (.int .i64 g2.dn)
    have hbk4 : Blk (((((W8.setCell ⟨w2.heap.size, 0, none⟩ (.int .i64 s2.1)).setCell ⟨w2.heap.size, 1, none⟩ (.slice a9.A a9.n a9.k)).setCell ⟨w2.heap.size, 2, none⟩ (.slice a9.B a9.m a9.d)).setCell ⟨w2.heap.size, 3, none⟩ (.int .i64 g2.dn)).setCell ⟨w2.heap.size, 4, none⟩ (.int .i64 g2.ak)) (w2.heap.size) 30 #[.int .i64 s2.1, .slice a9.A a9.n a9.k, .slice a9.B a9.m a9.d, .int .i64 g2.dn, .int .i64 g2.ak, .bool g'.on, .slice a'.D g'.nd.length a'.kd, .slice a'.Q a'.nq a'.kq] := hbk3.setCell 4 (.int .i64 g2.ak)
    have hbk5 : Blk ((((((W8.setCell ⟨w2.heap.size, 0, none⟩ (.int .i64 s2.1)).setCell ⟨w2.heap.size, 1, none⟩ (.slice a9.A a9.n a9.k)).setCell ⟨w2.heap.size, 2, none⟩ (.slice a9.B a9.m a9.d)).setCell ⟨w2.heap.size, 3, none⟩ (.int .i64 g2.dn)).setCell ⟨w2.heap.size, 4, none⟩ (.int .i64 g2.ak)).setCell ⟨w2.heap.size, 5, none⟩ (.bool g2.on)) (w2.heap.size) 30 #[.int .i64 s2.1, .slice a9.A a9.n a9.k, .slice a9.B a9.m a9.d, .int .i64 g2.dn, .int .i64 g2.ak, .bool g2.on, .slice a'.D g'.nd.length a'.kd, .slice a'.Q a'.nq a'.kq] := hbk4.setCell 5 (.bool g2.on)
    have hbk6 : Blk (((((((W8.setCell ⟨w2.heap.size, 0, none⟩ (.int .i64 s2.1)).setCell ⟨w2.heap.size, 1, none⟩ (.slice a9.A a9.n a9.k)).setCell ⟨w2.heap.size, 2, none⟩ (.slice a9.B a9.m a9.d)).setCell ⟨w2.heap.size, 3, none⟩ (.int .i64 g2.dn)).setCell ⟨w2.heap.size, 4, none⟩ (.int .i64 g2.ak)).setCell ⟨w2.heap.size, 5, none⟩ (.bool g2.on)).setCell ⟨w2.heap.size, 6, none⟩ (.slice a9.D g2.nd.length a9.kd)) (w2.heap.size) 30 #[.int .i64 s2.1, .slice a9.A a9.n a9.k, .slice a9.B a9.m a9.d, .int .i64 g2.dn, .int .i64 g2.ak, .bool g2.on, .slice a9.D g2.nd.length a9.kd, .slice a'.Q a'.nq a'.kq] := hbk5.setCell 6 (.slice a9.D g2.nd.length a9.kd)
    have hbk7 : Blk ((((((((W8.setCell ⟨w2.heap.size, 0, none⟩ (.int .i64 s2.1)).setCell ⟨w2.heap.size, 1, none⟩ (.slice a9.A a9.n a9.k)).setCell ⟨w2.heap.size, 2, none⟩ (.slice a9.B a9.m a9.d)).setCell ⟨w2.heap.size, 3, none⟩ (.int .i64 g2.dn)).setCell ⟨w2.heap.size, 4, none⟩ (.int .i64 g2.ak)).setCell ⟨w2.heap.size, 5, none⟩ (.bool g2.on)).setCell ⟨w2.heap.size, 6, none⟩ (.slice a9.D g2.nd.length a9.kd)).setCell ⟨w2.heap.size, 7, none⟩ (.slice a9.Q a9.nq a9.kq)) (w2.heap.size) 30 #[.int .i64 s2.1, .slice a9.A a9.n a9.k, .slice a9.B a9.m a9.d, .int .i64 g2.dn, .int .i64 g2.ak, .bool g2.on, .slice a9.D g2.nd.length a9.kd, .slice a9.Q a9.nq a9.kq] := hbk6.setCell 7 (.slice a9.Q a9.nq a9.kq)
    have hgr : W8.grownBy ((((((((W8.setCell ⟨w2.heap.size, 0, none⟩ (.int .i64 s2.1)).setCell ⟨w2.heap.size, 1, none⟩ (.slice a9.A a9.n a9.k)).setCell ⟨w2.heap.size, 2, none⟩ (.slice a9.B a9.m a9.d)).setCell ⟨w2.heap.size, 3, none⟩ (.int .i64 g2.dn)).setCell ⟨w2.heap.size, 4, none⟩ (.int .i64 g2.ak)).setCell ⟨w2.heap.size, 5, none⟩ (.bool g2.on)).setCell ⟨w2.heap.size, 6, none⟩ (.slice a9.D g2.nd.length a9.kd)).setCell ⟨w2.heap.size, 7, none⟩ (.slice a9.Q a9.nq a9.kq)) (some (w2.heap.size)) := (grown_set (grown_set (grown_set (grown_set (grown_set (grown_set (grown_set (grown_set (World.grownBy.refl W8 (some (w2.heap.size))) 0 (.int .i64 s2.1)) 1 (.slice a9.A a9.n a9.k)) 2 (.slice a9.B a9.m a9.d)) 3 (.int .i64 g2.dn)) 4 (.int .i64 g2.ak)) 5 (.bool g2.on)) 6 (.slice a9.D g2.nd.length a9.kd)) 7 (.slice a9.Q a9.nq a9.kq))
    replace P5 := hid hbk7
    clear hbk0 hbk1 hbk2 hbk3 hbk4 hbk5 hbk6 hbk7
    generalize (((((((W8.setCell ⟨w2.heap.size, 0, none⟩ (.int .i64 s2.1)).setCell ⟨w2.heap.size, 1, none⟩ (.slice a9.A a9.n a9.k)).setCell ⟨w2.heap.size, 2, none⟩ (.slice a9.B a9.m a9.d)).setCell ⟨w2.heap.size, 3, none⟩ (.int .i64 g2.dn)).setCell ⟨w2.heap.size, 4, none⟩ (.int .i64 g2.ak)).setCell ⟨w2.heap.size, 5, none⟩ (.bool g2.on)).setCell ⟨w2.heap.size, 6, none⟩ (.slice a9.D g2.nd.length a9.kd)).setCell ⟨w2.heap.size, 7, none⟩ (.slice a9.Q a9.nq a9.kq) = Wf at *
    replace PO := hid (PO.out.grown hgr (fun e => HI.out.p5.neT PO.out (by decide) (Option.some.inj e).symm))
    replace HI := hid (HI.out.turned RS.out HLT.out.p5.lt HLT.out.ma.lt HLT.out.qd.map.lt (fun c b hb => ((HLT.out.qd.row c).lt b hb).2.1) hgr P5.out)
    clear hgr P5 RS PN HLT HW
    obtain rfl := RQ.out
    rcases HWS2.out with ⟨_, _, at2, hwi, hww⟩ | ⟨h3, _⟩ | ⟨h5, _⟩
    rotate_left
    ·exact absurd h3 k3
    ·exact absurd h5 k5
    have HW := hid (show WI s2 g2 (ql es9) at2 L many from hwi)
    rw [show words (ql es) = words (ql es9) from funext fun d => ((show ∀ j, words (ql es9) j = words (ql es) j from hww) d).symm] at HI
    clear HWS2 hwi hww
    obtain ⟨y00, y01, y02, yf0⟩ := PO.out.cells3
    go_upto_region 30 with fail
    clear y00 y01 y02 yf0 dk3 dk5
    have hln := HI.out.ma.len_ (P := Try.prog) Try.underlying50
    obtain ⟨y00, y01, y02, y03, y04, y05, y06, y07, yf0⟩ := HI.out.p5.cells8
    go_wp2_with fail
    clear hln y00 y01 y02 y03 y04 y05 y06 y07 yf0
    refine (rwaiting_any s2 g2 es9 a9 _ HI.out.rr.rcr).mono ?_
    rintro e Wl ⟨rfl, hb⟩
    replace HI := hid (HI.out.step hb)
    clear hb
    rw [if_pos (rcOk_iff.2 HW.out.good), HW.out.wn]
    have hln := HI.out.ma.len_ (P := Try.prog) Try.underlying50
    simp only [inV, List.length_map] at hln
    go_upto_region 32 with fail
    clear hln
    have hj4 := hj3.out
    have hw1 : IntKind.i64.wrap ((j : Int) + 1) = (j : Int) + 1 := by rw [IntKind.wrap_i64]; omega
    go_wp2_with fail
    go_roundw
    case rel => exact ⟨j + 1, many, _, _, _, _, _, _, _, _, _, by omega, by omega, by have := HMJ.out; omega, by go_num, by go_num, HI.out, HW.out⟩
    case measure => simp [intOf]; omega
end Go.Proofs.Ytfipdoofgbjbjaa
