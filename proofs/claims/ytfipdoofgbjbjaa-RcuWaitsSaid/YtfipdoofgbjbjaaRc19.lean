/- What afterglowlaw14.wakes runs, plainly, and as it is called. No condition but sizes. -/
import Derived.Test.YtfipdoofgbjbjaaRc18
namespace Go.Proofs.Ytfipdoofgbjbjaa
open Go.RowKit
def T1 : List (Int × Int × Int) := [(3, 0, 7), (4, 0, 0), (4, 0, 0), (4, 1, 0), (5, 0, 0)]
def T2 : List (Int × Int × Int) := [(1, 1, 0), (3, 0, 7), (4, 0, 0), (4, 0, 0), (4, 1, 0)]
def T3 : List (Int × Int × Int) := [(2, 1, 0), (4, 1, 0), (5, 0, 0)]
theorem opsA_is {X : Int × St × Gr × Qs × List Int} {ran : List Int} (h1 : X.1 = 0) (h2 : X.2.2.2.2 = ran) : X = (0, X.2.1, X.2.2.1, X.2.2.2.1, ran) := by rw [← h1, ← h2]
def wkX : Int × St × Gr × Qs × List Int := opsA (nSt 2) (nGr 2) (nQs 2) [] T2
theorem wk_facts : ∃ s1 g1 q1, opsA (nSt 2) (nGr 2) (nQs 2) [] T2 = (0, s1, g1, q1, []) ∧ quietB s1 = false ∧ wN q1 = 1 ∧ (opsA s1 g1 q1 [] [(5, 0, 0)]).1 = 4 ∧
    (∃ s g q, opsA s1 g1 q1 [] T3 = (0, s, g, q, [7])) ∧ ∃ s g q, opsA (nSt 2) (nGr 2) (nQs 2) [] T1 = (0, s, g, q, [7]) := by
  refine ⟨wkX.2.1, wkX.2.2.1, wkX.2.2.2.1, opsA_is (by decide +kernel) (by decide +kernel), by decide +kernel, by decide +kernel, by decide +kernel, ⟨_, _, _, opsA_is (by decide +kernel) (by decide +kernel)⟩, ⟨_, _, _, opsA_is (by decide +kernel) (by decide +kernel)⟩⟩
theorem good_opsA {L : List (Int × Int × Int)} : ∀ {s : St} {g : Gr} {qs : Qs} {ran : List Int}, RcGood s g qs → (opsA s g qs ran L).1 = 0 → RcGood (opsA s g qs ran L).2.1 (opsA s g qs ran L).2.2.1 (opsA s g qs ran L).2.2.2.1 := by
  induction L with
  | nil => exact fun h _ => h
  | cons o L ih =>
    intro s g qs ran h hc
    unfold opsA at hc ⊢
    split at hc
    · rename_i e; rw [if_pos e]; exact ih (good_opF h e) hc
    · rename_i e; exact absurd hc e
theorem nGood {n : Nat} (h1 : 1 ≤ n) (h8 : n ≤ 8) : RcGood (nSt n) (nGr n) (nQs n) := by
  refine ⟨⟨?_, nGr_ok h1 h8, by simp [nSt, nGr]⟩, by simp [nQs, nGr], fun q hq => ?_⟩
  · refine good_iff.2 ⟨⟨by simpa [nSt] using h1, by simpa [nSt] using h8, by simp [nSt], by show (0 : Int) ≤ 0; omega, by show (0 : Int) ≤ _; omega⟩, fun i hi => ?_⟩
    have e : ∀ i : Nat, (List.replicate n (0 : Int))[i]?.getD 0 = 0 := fun i => by rw [List.getElem?_replicate]; split <;> rfl
    unfold RowR nSt
    simp only [e]
    exact ⟨by omega, by omega, fun _ => trivial, fun h => by omega, fun _ _ h => absurd rfl h⟩
  · obtain rfl := (List.mem_replicate.1 hq).2
    exact ⟨⟨by decide, by decide, fun k hk => absurd hk (by simp), fun k hk => absurd hk (by simp)⟩, rfl, fun c hc => (by cases hc)⟩
theorem rcA_ok {s : St} {g : Gr} {es : List Qe} {L : List (Int × Int × Int)} (h : RcGood s g (ql es)) : rcA s g es L = opsA s g (ql es) [] L := if_pos (rcOk_iff.2 h)
theorem RcT.rcr {w : World} {lo : Nat} {s : St} {g : Gr} {es : List Qe} {a : Ra} (h : RcT w lo s g es a) (gl : g.nd.length ≤ 1000) (gi : g.dn ≤ 9223372036854775807 ∧ g.ak ≤ 9223372036854775807) (ql : a.nq ≤ 1000) (ho : ∀ x ∈ es, 0 ≤ x.o ∧ x.o ≤ 18446744073709551615) : RcR w s g es a :=
  ⟨h.ro.rds, (h.gd.sl (d := false)).mono (Nat.zero_le _) (Nat.le_refl _), gl, gi, (h.qs.sm (d := zQe)).mono (Nat.zero_le _) (Nat.le_refl _), ql, fun x hx => ⟨((h.qe x hx).1.sm (d := (0, 0))).mono (Nat.zero_le _) (Nat.le_refl _), (h.qe x hx).1.cap.1, (h.qe x hx).2, (ho x hx).1, (ho x hx).2⟩⟩
theorem CX.rcr {w : World} {l gc : Nat} {s : St} {g : Gr} {es : List Qe} {ran : List Int} {a : Ra} {R : Option Addr} {nr kr : Nat} (h : CX w l gc s g es ran a R nr kr) (hg : RcGood s g (ql es)) : RcR w s g es a := by
  have h1 := hg.1.2.1.small
  have h2 := hg.1.2.1.2.1
  have h3 := hg.1.2.1.2.2.2.2.2.1
  have h4 := hg.2.1
  rw [ql_len, h.qs.len] at h4
  exact ⟨h.ro.rds, (h.gd.sl (d := false)).mono (Nat.zero_le _) (Nat.le_refl _), by omega, by omega, (h.qs.sm (d := zQe)).mono (Nat.zero_le _) (Nat.le_refl _), by omega, fun x hx => ⟨((h.qe x hx).1.mono (Nat.zero_le _)).sm, (h.qe x hx).2.1, (h.qe x hx).2.2.1, (h.qe x hx).2.2.2.1.1, (h.qe x hx).2.2.2.1.2⟩⟩
/-- it can be read, whatever is done to those blocks -/
def RcP (p : Nat → Prop) (w : World) (s : St) (g : Gr) (es : List Qe) (a : Ra) : Prop := ∀ w', GrownP p w w' → RcR w' s g es a
theorem RcP.step {p : Nat → Prop} {w w' : World} {s : St} {g : Gr} {es : List Qe} {a : Ra} (h : RcP p w s g es a) (hb : Below w.heap.size w w') : RcP p w' s g es a := fun w2 k => h w2 ((GrownP.ofBelow hb).trans k)
theorem RcP.rcr {p : Nat → Prop} {w : World} {s : St} {g : Gr} {es : List Qe} {a : Ra} (h : RcP p w s g es a) : RcR w s g es a := h w (.refl _ _)
theorem RcP.turn {p : Nat → Prop} {w w' : World} {s : St} {g : Gr} {es : List Qe} {a : Ra} {q : Nat} (h : RcP p w s g es a) (hg : w.grownBy w' (some q)) (hq : p q) : RcP p w' s g es a := fun w2 k => h w2 ((GrownP.ofGrown hg hq).trans k)
/-- new blocks are not its own -/
theorem RcR.above {w : World} {s : St} {g : Gr} {es : List Qe} {a : Ra} (h : RcR w s g es a) : RcP (fun i => w.heap.size ≤ i) w s g es a := fun w' k =>
  h.step ⟨k.os, k.tape, k.output, k.size, fun i hi => k.block i hi (by omega)⟩
theorem om_keptP {α : Type} {sz : Nat} {enc : α → Nat → Value} {w w' : World} {lo n c : Nat} {e : TypeId} {A : Option Addr} {xs : List α} {p : Nat → Prop} (h : Om sz enc w lo e A n c xs) (k : GrownP p w w') (hp : ∀ a, A = some a → ¬ p a.block) : Om sz enc w' lo e A n c xs := by
  refine ⟨h.len, h.own.1, ?_⟩
  rcases h.own.2 with hh | ⟨g, cap, cur, hv, hb1, hg, r⟩
  · exact .inl hh
  · refine .inr ⟨g, cap, cur, hv, hb1, (k.block g (Array.getElem?_eq_some_iff.1 hg).1 ?_).trans hg, r⟩
    simp only [Value.slice.injEq] at hv
    exact hp ⟨g, 0, none⟩ hv.1
theorem CX.lowP {w w' : World} {l gc : Nat} {s : St} {g : Gr} {es : List Qe} {ran : List Int} {a : Ra} {R : Option Addr} {nr kr : Nat} {p : Nat → Prop} (h : CX w l gc s g es ran a R nr kr) (k : GrownP p w w') (hp : ∀ i, p i → i < l) : CX w' l gc s g es ran a R nr kr :=
  ⟨h.ro.keptP k (fun a ha hq => by
      have := hp _ hq
      rcases ha with ha | ha
      · have := (h.ro.oa.blk a ha).1; omega
      · have := (h.ro.ob.blk a ha).1; omega),
   h.gd.keptP k (fun a ha hq => by have := hp _ hq; have := (h.gd.blk a ha).1; omega), om_keptP h.qs k (fun a ha hq => by have := hp _ hq; have := (h.qs.blk a ha).1; omega),
   h.rn.keptP k (fun a ha hq => by have := hp _ hq; have := (h.rn.blk a ha).1; omega), fun x hx => by
    obtain ⟨k1, k2⟩ := h.qe x hx
    exact ⟨k1.keptP k (fun hn b hb e => by
      obtain ⟨b', off, e2, h2, _⟩ := k1.sm.row hn
      rw [hb] at e2; cases e2; dsimp only at e; have := hp _ e; omega), k2⟩, h.lg⟩
theorem Blk.smO {w : World} {g n : Nat} {e : TypeId} {cs : Array Value} {xs : List (Int × Int × Int)} (h : Blk w g e cs) (hn : xs.length = n) (hc : ∀ k, k < n → ∀ j, j < 3 → cs[k * 3 + j]? = some (encO (xs[k]?.getD (0, 0, 0)) j)) : Sm 3 encO (0, 0, 0) w 0 w.heap.size (some ⟨g, 0, none⟩) n xs := by
  refine ⟨hn, fun _ => ⟨g, 0, rfl, Nat.zero_le _, h.lt, fun k hk j hj => ?_⟩⟩
  rw [Nat.zero_add, h.cell, hc k hk j hj]
/-- Run, where all goes well, with what it comes to known -/
def WkR (s1 : St) (g1 : Gr) (q1 : Qs) (ran : List Int) (w : World) (x : Ending) (w' : World) : Prop :=
  ∃ a es R kr, x = .returned (.tuple #[rcv s1 g1 a, .slice R ran.length kr, .int .i64 0]) ∧ ql es = q1 ∧ RcP (fun i => i < w.heap.size) w' s1 g1 es a ∧ Ow u64v w' w.heap.size 38 R ran.length kr ran ∧ Below w.heap.size w w'
theorem wk_run {s : St} {g : Gr} {es : List Qe} {a : Ra} {L : List (Int × Int × Int)} {s1 : St} {g1 : Gr} {q1 : Qs} {ran : List Int} (T : Option Addr) (nt kt : Nat) (w : World) (hR : RcR w s g es a) (hk : RcGood s g (ql es)) (hT : Sm 3 encO (0, 0, 0) w 0 w.heap.size T nt L) (hnt : nt ≤ 1000000)
    (hr : opsA s g (ql es) [] L = (0, s1, g1, q1, ran)) : Calls Try.prog 13 #[rcv s g a, .slice T nt kt] w (WkR s1 g1 q1 ran w) := by
  refine (rrunall_any s g es a T nt kt L w hR hT hnt).mono ?_
  rw [rcA_ok hk, hr]
  have hg := good_opsA (L := L) (ran := []) hk (by rw [hr])
  rw [hr] at hg
  rintro x w' ⟨a', R, nr, kr, rfl, ⟨es', gc, h1, h2⟩, hb⟩
  dsimp only at h1 h2 hg
  obtain rfl : ran.length = nr := h2.rn.len
  exact ⟨a', es', R, kr, rfl, h1, fun w2 k => (h2.lowP k (fun i hi => hi)).rcr (by rw [h1]; exact hg), h2.rn, hb⟩
/-- Step, where it is refused -/
theorem wk_no {s : St} {g : Gr} {es : List Qe} {a : Ra} {o : Int × Int × Int} {c : Int} (w : World) (hR : RcR w s g es a) (hk : RcGood s g (ql es)) (hr : (opsA s g (ql es) [] [o]).1 = c) (hc : c ≠ 0) :
    Calls Try.prog 9 #[rcv s g a, .agg (ocs o)] w fun x w' => (∃ a', x = .returned (.tuple #[rcv (0, [], []) zGr a', .int .u64 0, .int .i64 c])) ∧ Below w.heap.size w w' := by
  refine (rstep_any s g es a o w hR).mono ?_
  rw [rcA_ok hk]
  have hz := opsA_nz (L := [o]) (s := s) (g := g) (qs := ql es) (ran := []) (by rw [hr]; exact hc)
  rintro x w' ⟨a', R, nr, kr, rfl, _, hb⟩
  rw [hr, hz]
  exact ⟨⟨a', rfl⟩, hb⟩
end Go.Proofs.Ytfipdoofgbjbjaa
