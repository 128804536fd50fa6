/- package rcu: Step and own, as the laws use them: what is handed back outlives stores to the laws' own boxes; a callback queued, plainly. No condition but sizes, and that numbers are of their kinds. -/
import Derived.Test.YtfipdoofgbjbjaaRc19
import Derived.Test.YtfipdoofgbjbjaaRcS
namespace Go.Proofs.Ytfipdoofgbjbjaa
open Go.RowKit
theorem RcP.mono {p q : Nat → Prop} {w : World} {s : St} {g : Gr} {es : List Qe} {a : Ra} (h : RcP p w s g es a) (hq : ∀ i, q i → p i) : RcP q w s g es a := fun w' k => h w' (k.mono hq)
/-- new blocks besides -/
theorem RcP.fresh {p : Nat → Prop} {w : World} {s : St} {g : Gr} {es : List Qe} {a : Ra} (h : RcP p w s g es a) : RcP (fun i => p i ∨ w.heap.size ≤ i) w s g es a := fun w' k =>
  h w' ⟨k.os, k.tape, k.output, k.size, fun i hi hp => k.block i hi (fun hq => by rcases hq with hq | hq; exact hp hq; omega)⟩
theorem CX.rcr0 {w : World} {l gc : Nat} {s : St} {g : Gr} {es : List Qe} {ran : List Int} {a : Ra} {R : Option Addr} {nr kr : Nat} (h : CX w l gc s g es ran a R nr kr) (gl : g.nd.length ≤ 1000) (gi : g.dn ≤ 9223372036854775807 ∧ g.ak ≤ 9223372036854775807) (ql : a.nq ≤ 1000) : RcR w s g es a :=
  ⟨h.ro.rds, (h.gd.sl (d := false)).mono (Nat.zero_le _) (Nat.le_refl _), gl, gi, (h.qs.sm (d := zQe)).mono (Nat.zero_le _) (Nat.le_refl _), ql, fun x hx => ⟨((h.qe x hx).1.mono (Nat.zero_le _)).sm, (h.qe x hx).2.1, (h.qe x hx).2.2.1, (h.qe x hx).2.2.2.1.1, (h.qe x hx).2.2.2.1.2⟩⟩
/-- what a Run comes to may be, or is nothing -/
theorem rcA_small {s : St} {g : Gr} {es : List Qe} {L : List (Int × Int × Int)} {es' : List Qe} (hq : ql es' = (rcA s g es L).2.2.2.1) : (rcA s g es L).2.2.1.nd.length ≤ 1000 ∧ ((rcA s g es L).2.2.1.dn ≤ 9223372036854775807 ∧ (rcA s g es L).2.2.1.ak ≤ 9223372036854775807) ∧ es'.length ≤ 1000 := by
  by_cases h0 : (rcA s g es L).1 = 0
  · have hok : RcOk s g es := by
      by_cases hok : RcOk s g es
      · exact hok
      · unfold rcA at h0; rw [if_neg hok] at h0; exact absurd h0 (by decide)
    have e : rcA s g es L = opsA s g (ql es) [] L := if_pos hok
    rw [e] at h0 hq ⊢
    have hg := good_opsA (L := L) (ran := []) (rcOk_iff.1 hok) h0
    have h1 := hg.1.2.1.small
    have h2 := hg.1.2.1.2.1
    have h3 := hg.1.2.1.2.2.2.2.2.1
    have h4 := hg.2.1
    rw [← hq, ql_len] at h4
    exact ⟨by omega, by omega, by omega⟩
  · have hz := rcA_nz h0
    rw [hz] at hq ⊢
    have : es' = [] := List.map_eq_nil_iff.1 hq
    rw [this]
    exact ⟨by decide, by decide, by decide⟩
/-- what Step hands back -/
def StP (r : Int × St × Gr × Qs × List Int) (w : World) (x : Ending) (w' : World) : Prop :=
  ∃ a es, x = .returned (.tuple #[rcv r.2.1 r.2.2.1 a, .int .u64 (lastO r.2.2.2.2), .int .i64 r.1]) ∧ ql es = r.2.2.2.1 ∧ a.nq = es.length ∧ RcP (fun i => i < w.heap.size) w' r.2.1 r.2.2.1 es a ∧ Below w.heap.size w w'
theorem rstepP_any (s : St) (g : Gr) (es : List Qe) (a : Ra) (o : Int × Int × Int) (w : World) (h : RcR w s g es a) :
    Calls Try.prog 9 #[rcv s g a, .agg (ocs o)] w (StP (rcA s g es [o]) w) := by
  refine (rstep_any s g es a o w h).mono ?_
  rintro x w' ⟨a', R, nr, kr, rfl, ⟨es', gc, h1, h2⟩, hb⟩
  obtain ⟨k1, k2, k3⟩ := rcA_small h1
  have hl : a'.nq = es'.length := h2.qs.len.symm
  exact ⟨a', es', rfl, h1, hl, fun w2 k => (h2.lowP k (fun i hi => hi)).rcr0 k1 k2 (by omega), hb⟩
theorem rstepR {s : St} {g : Gr} {es : List Qe} {a : Ra} {o : Int × Int × Int} {r : Int × St × Gr × Qs × List Int} (w : World) (h : RcR w s g es a) (hr : rcA s g es [o] = r) :
    Calls Try.prog 9 #[rcv s g a, .agg (ocs o)] w (StP r w) := by
  rw [← hr]; exact rstepP_any s g es a o w h
/-- what own hands back -/
def LoP (s : St) (g : Gr) (es : List Qe) (w : World) (e : Ending) (w' : World) : Prop :=
  ∃ a' es', e = .returned (rcv (cutS s) (cutG g) a') ∧ ql es' = cutQ es ∧ a'.nq = es'.length ∧ RcP (fun i => i < w.heap.size) w' (cutS s) (cutG g) es' a' ∧ RcT w' w.heap.size (cutS s) (cutG g) es' a' ∧ Below w.heap.size w w'
theorem RcT.lowP {w w' : World} {l : Nat} {s : St} {g : Gr} {es : List Qe} {a : Ra} {p : Nat → Prop} (h : RcT w l s g es a) (k : GrownP p w w') (hp : ∀ i, p i → i < l) : RcT w' l s g es a :=
  ⟨h.ro.keptP k (fun a ha hq => by
      have := hp _ hq
      rcases ha with ha | ha
      · have := (h.ro.oa.blk a ha).1; omega
      · have := (h.ro.ob.blk a ha).1; omega),
   h.gd.keptP k (fun a ha hq => by have := hp _ hq; have := (h.gd.blk a ha).1; omega), om_keptP h.qs k (fun a ha hq => by have := hp _ hq; have := (h.qs.blk a ha).1; omega), fun x hx => by
    obtain ⟨k1, k2⟩ := h.qe x hx
    exact ⟨om_keptP k1 k (fun a ha hq => by have := hp _ hq; have := (k1.blk a ha).1; omega), k2⟩⟩
end Go.Proofs.Ytfipdoofgbjbjaa
