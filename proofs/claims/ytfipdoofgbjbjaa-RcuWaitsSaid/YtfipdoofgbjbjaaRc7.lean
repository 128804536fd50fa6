/- package rcu: run. No condition but sizes. -/
import Derived.Test.YtfipdoofgbjbjaaRc6
namespace Go.Proofs.Ytfipdoofgbjbjaa
open Go.RowKit
attribute [local go_sem] Oper.semAt_some
theorem GrownP.step {q : Nat → Prop} {w a b : World} (h : GrownP q w a) (k : Below a.heap.size a b) : GrownP q w b := h.thenB k h.size
/-- what a cpu holds, but for its box -/
structure CX (w : World) (l gc : Nat) (s : St) (g : Gr) (es : List Qe) (ran : List Int) (a : Ra) (R : Option Addr) (nr kr : Nat) : Prop where
  ro : Rown w l a.A a.n a.k a.B a.m a.d s.2.1 s.2.2
  gd : Ow blv w l 4 a.D g.nd.length a.kd g.nd
  qs : Om 2 encQ w l 40 a.Q a.nq a.kq es
  rn : Ow u64v w l 38 R nr kr ran
  qe : ∀ x ∈ es, QeO w l (CS gc a.Q R) x
  lg : l ≤ gc
section
variable {w w' : World} {l gc : Nat} {s : St} {g : Gr} {es : List Qe} {is what : Int} {ran : List Int} {a : Ra} {R : Option Addr} {nr kr : Nat}
theorem CA.cx (h : CA w l gc s g es is what ran a R nr kr) : CX w l gc s g es ran a R nr kr := ⟨h.ro, h.gd, h.qs, h.rn, h.qe, h.lg⟩
theorem CX.ca (h : CX w l gc s g es ran a R nr kr) (hb : Blk w gc 79 (ccells s g a is what R nr kr)) : CA w l gc s g es is what ran a R nr kr := ⟨hb, h.ro, h.gd, h.qs, h.rn, h.qe, h.lg⟩
theorem CX.step (h : CX w l gc s g es ran a R nr kr) (hb : Below w.heap.size w w') : CX w' l gc s g es ran a R nr kr :=
  ⟨h.ro.step hb, h.gd.step hb, h.qs.step hb, h.rn.step hb, fun x hx => (h.qe x hx).step hb, h.lg⟩
theorem CX.lts (h : CX w l gc s g es ran a R nr kr) : (∀ b, a.Q = some b → b.block < w.heap.size) ∧ ∀ x ∈ es, 0 < x.n → ∀ b, x.A = some b → b.block < w.heap.size := by
  refine ⟨fun b hb => ?_, fun x hx hn b hb => ?_⟩
  · obtain ⟨_, cs, q⟩ := h.qs.blk b hb; exact q.lt
  · obtain ⟨b', off, e, _, h2, _⟩ := (h.qe x hx).1.sm.row hn
    rw [hb] at e; cases e; exact h2
/-- a box that is new to it is turned -/
theorem CX.turn (h : CX w l gc s g es ran a R nr kr) {q : Nat} {t : TypeId} {cs : Array Value} (hb : Blk w q t cs) (h2 : t ≠ 3) (h3 : t ≠ 4) (h4 : t ≠ 38)
    (hq : ∀ b, a.Q = some b → b.block ≠ q) (hf : ∀ x ∈ es, 0 < x.n → ∀ b, x.A = some b → b.block ≠ q) (hg : w.grownBy w' (some q)) : CX w' l gc s g es ran a R nr kr :=
  ⟨h.ro.keptR hb h2 hg, h.gd.keptR hb h3 hg, h.qs.keptG hg (fun b hb e => hq b hb (Option.some.inj e)), h.rn.keptR hb h4 hg, fun x hx => by
    obtain ⟨k1, k2⟩ := h.qe x hx
    exact ⟨k1.keptP (GrownP.ofGrown (p := fun i => i = q) hg rfl) (fun hn b hb e => hf x hx hn b hb e), k2⟩, h.lg⟩
/-- its box is turned -/
theorem CX.boxed (h : CX w l gc s g es ran a R nr kr) {cs : Array Value} (hb : Blk w gc 79 cs) (hg : w.grownBy w' (some gc)) : CX w' l gc s g es ran a R nr kr :=
  ⟨h.ro.keptR hb (by decide) hg, h.gd.keptR hb (by decide) hg, h.qs.keptR hb (by decide) hg, h.rn.keptR hb (by decide) hg, fun x hx => by
    obtain ⟨k1, k2, k3, k4, k5⟩ := h.qe x hx
    exact ⟨k1.keptP (GrownP.ofGrown (p := fun i => i = gc) hg rfl) (fun hn b hb e => k5 hn b hb (.inl e)), k2, k3, k4, k5⟩, h.lg⟩
/-- a queue is stored -/
theorem CX.put (h : CX w l gc s g es ran a R nr kr) {gQ k : Nat} (hQ : a.Q = some ⟨gQ, 0, none⟩) (hk : k < a.nq) (x : Qe) (hx : QeO w l (CS gc a.Q R) x) :
    CX ((w.setCell ⟨gQ, k * 2, none⟩ (encQ x 0)).setCell ⟨gQ, k * 2 + 1, none⟩ (encQ x 1)) l gc s g (es.set k x) ran a R nr kr := by
  have hg : w.grownBy ((w.setCell ⟨gQ, k * 2, none⟩ (encQ x 0)).setCell ⟨gQ, k * 2 + 1, none⟩ (encQ x 1)) (some gQ) := grown_set (grown_set (World.grownBy.refl _ _) _ _) _ _
  obtain ⟨_, cs, hbq⟩ := h.qs.blk _ hQ
  have hst : ∀ y, QeO w l (CS gc a.Q R) y → QeO ((w.setCell ⟨gQ, k * 2, none⟩ (encQ x 0)).setCell ⟨gQ, k * 2 + 1, none⟩ (encQ x 1)) l (CS gc a.Q R) y := fun y ⟨k1, k2, k3, k4, k5⟩ =>
    ⟨k1.keptP (GrownP.ofGrown (p := fun i => i = gQ) hg rfl) (fun hn b hb e => k5 hn b hb (.inr (.inl ⟨_, hQ, e⟩))), k2, k3, k4, k5⟩
  refine ⟨h.ro.keptR hbq (by decide) hg, h.gd.keptR hbq (by decide) hg, ?_, h.rn.keptR hbq (by decide) hg, fun y hy => ?_, h.lg⟩
  · have := h.qs
    rw [hQ] at this ⊢
    exact this.stored2 k x hk
  · rcases List.mem_or_eq_of_mem_set hy with hy | rfl
    · exact hst y (h.qe y hy)
    · exact hst _ hx
theorem CX.q_at (h : CX w l gc s g es ran a R nr kr) {k : Nat} (hk : k < a.nq) : ∃ gQ, a.Q = some ⟨gQ, 0, none⟩ ∧ w.cell? ⟨gQ, k * 2, none⟩ = some (.slice (es[k]?.getD zQe).A (es[k]?.getD zQe).n (es[k]?.getD zQe).c) ∧ w.cell? ⟨gQ, k * 2 + 1, none⟩ = some (.int .u64 (es[k]?.getD zQe).o) ∧ (∀ i, w.frozen? ⟨gQ, i, none⟩ = false) ∧ es[k]?.getD zQe ∈ es := by
  obtain ⟨gQ, h1, h2, h3, h4, h5⟩ := h.qs.at_ zQe hk
  refine ⟨gQ, h1, h4 0 (by omega), h4 1 (by omega), h5, ?_⟩
  have hl : k < es.length := by rw [h.qs.len]; exact hk
  rw [List.getElem?_eq_getElem hl]
  exact List.getElem_mem _
/-- a word is appended to what was run -/
theorem CX.app (h : CX w l gc s g es ran a R nr kr) {R' : Option Addr} {m k' : Nat} {ran' : List Int} (ho : Ow u64v w' l 38 R' m k' ran') (hg : w.grownBy w' (Value.slice R nr kr).ownBlock)
    (hat : (Value.slice R' m k').ownBlock = (Value.slice R nr kr).ownBlock ∨ (Value.slice R' m k').ownBlock = some w.heap.size) : CX w' l gc s g es ran' a R' m k' := by
  have hlt := h.lts
  refine ⟨⟨h.ro.oa.keptO h.rn (by decide) hg, h.ro.ob.keptO h.rn (by decide) hg, h.ro.apart, h.ro.hn, h.ro.hm⟩, h.gd.keptO h.rn (by decide) hg, h.qs.keptO h.rn (by decide) hg, ho, fun x hx => ?_, h.lg⟩
  obtain ⟨k1, k2, k3, k4, k5⟩ := h.qe x hx
  have hgp : GrownP (fun i => some i = (Value.slice R nr kr).ownBlock) w w' := ⟨hg.os, hg.tape, hg.output, hg.size, fun i hi hn => hg.block i hi hn⟩
  refine ⟨k1.keptP hgp (fun hn b hb e => ?_), k2, k3, k4, fun hn b hb e => ?_⟩
  · obtain ⟨r, hr, hrb⟩ := own_addr e.symm
    exact k5 hn b hb (.inr (.inr ⟨r, hr, hrb.symm⟩))
  · rcases e with e | e | ⟨r, hr, e⟩
    · exact k5 hn b hb (.inl e)
    · exact k5 hn b hb (.inr (.inl e))
    · have e1 : (Value.slice R' m k').ownBlock = some r.block := by rw [hr]; rfl
      rcases hat with h1 | h1
      · rw [e1] at h1
        obtain ⟨r2, hr2, hrb⟩ := own_addr h1.symm
        exact k5 hn b hb (.inr (.inr ⟨r2, hr2, e.trans hrb.symm⟩))
      · rw [e1] at h1
        have h2 := Option.some.inj h1
        have := hlt.2 x hx hn b hb
        omega
end
theorem QeO.fresh {w : World} {l lo : Nat} {x : Qe} {gc : Nat} {Q R : Option Addr} (h : Qown w lo x.A x.n x.l) (hl : l ≤ lo) (h1 : x.n ≤ x.c) (h2 : x.n ≤ 1000) (h3 : 0 ≤ x.o ∧ x.o ≤ 18446744073709551615) (hg : gc < lo) (hQ : ∀ b, Q = some b → b.block < lo) (hR : ∀ b, R = some b → b.block < lo) : QeO w l (CS gc Q R) x := by
  refine ⟨h.mono hl, h1, h2, h3, fun hn b hb e => ?_⟩
  obtain ⟨b', off, e1, h4, _, _⟩ := h.sm.row hn
  rw [hb] at e1; cases e1
  rcases e with e | ⟨q, hq, e⟩ | ⟨q, hq, e⟩
  · have : b' = gc := e
    omega
  · have := hQ q hq
    have : b' = q.block := e
    omega
  · have := hR q hq
    have : b' = q.block := e
    omega
theorem QeO.app {w w' : World} {l lo gc nr kr m k' : Nat} {Q R R' : Option Addr} {x : Qe} {ran : List Int} (hx : QeO w l (CS gc Q R) x) (hrn : Ow u64v w lo 38 R nr kr ran) (hg : w.grownBy w' (Value.slice R nr kr).ownBlock)
    (hat : (Value.slice R' m k').ownBlock = (Value.slice R nr kr).ownBlock ∨ (Value.slice R' m k').ownBlock = some w.heap.size) : QeO w' l (CS gc Q R') x := by
  obtain ⟨k1, k2, k3, k4, k5⟩ := hx
  have hgp : GrownP (fun i => some i = (Value.slice R nr kr).ownBlock) w w' := ⟨hg.os, hg.tape, hg.output, hg.size, fun i hi hn => hg.block i hi hn⟩
  refine ⟨k1.keptP hgp (fun hn b hb e => ?_), k2, k3, k4, fun hn b hb e => ?_⟩
  · obtain ⟨r, hr, hrb⟩ := own_addr e.symm
    exact k5 hn b hb (.inr (.inr ⟨r, hr, hrb.symm⟩))
  · rcases e with e | e | ⟨r, hr, e⟩
    · exact k5 hn b hb (.inl e)
    · exact k5 hn b hb (.inr (.inl e))
    · have e1 : (Value.slice R' m k').ownBlock = some r.block := by rw [hr]; rfl
      rcases hat with h1 | h1
      · rw [e1] at h1
        obtain ⟨r2, hr2, hrb⟩ := own_addr h1.symm
        exact k5 hn b hb (.inr (.inr ⟨r2, hr2, e.trans hrb.symm⟩))
      · rw [e1] at h1
        have h2 := Option.some.inj h1
        obtain ⟨b', off, e2, _, h4, _⟩ := k1.sm.row hn
        rw [hb] at e2; cases e2
        have : b' = r.block := e
        omega
theorem QeO.set {w w' : World} {l gc q : Nat} {Q R : Option Addr} {x : Qe} (hx : QeO w l (CS gc Q R) x) (hg : w.grownBy w' (some q)) (hq : CS gc Q R q) : QeO w' l (CS gc Q R) x := by
  obtain ⟨k1, k2, k3, k4, k5⟩ := hx
  exact ⟨k1.keptP (GrownP.ofGrown (p := fun i => i = q) hg rfl) (fun hn b hb e => k5 hn b hb (by rw [e]; exact hq)), k2, k3, k4, k5⟩
section
variable {w w' : World} {l gc : Nat} {s : St} {g : Gr} {es : List Qe} {ran : List Int} {a : Ra} {R : Option Addr} {nr kr gQ k xn xc : Nat} {xA : Option Addr} {xo : Int} {xl : List Cb}
theorem CX.q0 (h : CX w l gc s g es ran a R nr kr) (hQ : a.Q = some ⟨gQ, 0, none⟩) (hk : k < a.nq) (hx : es[k]?.getD zQe = ⟨xl, xo, xA, xn, xc⟩) : w.cell? ⟨gQ, k * 2, none⟩ = some (.slice xA xn xc) := by
  obtain ⟨g2, h1, h2, _⟩ := h.q_at hk
  rw [hQ] at h1; cases h1
  rw [hx] at h2; exact h2
theorem CX.q1 (h : CX w l gc s g es ran a R nr kr) (hQ : a.Q = some ⟨gQ, 0, none⟩) (hk : k < a.nq) (hx : es[k]?.getD zQe = ⟨xl, xo, xA, xn, xc⟩) : w.cell? ⟨gQ, k * 2 + 1, none⟩ = some (.int .u64 xo) := by
  obtain ⟨g2, h1, _, h2, _⟩ := h.q_at hk
  rw [hQ] at h1; cases h1
  rw [hx] at h2; exact h2
theorem CX.qsm (h : CX w l gc s g es ran a R nr kr) (hx : ⟨xl, xo, xA, xn, xc⟩ ∈ es) : Sm 2 encC (0, 0) w 0 w.heap.size xA xn xl := ((h.qe _ hx).1.mono (Nat.zero_le _)).sm
end
set_option maxRecDepth 100000 in
set_option maxHeartbeats 8000000 in
theorem rrun_yes (l gc : Nat) (s : St) (g : Gr) (es : List Qe) (cp : Nat) (what : Int) (ran : List Int) (a : Ra) (R : Option Addr) (nr kr : Nat) (w : World) (h : CA w l gc s g es cp what ran a R nr kr) (hk : cp < a.nq) (hnq : a.nq ≤ 1000) (x : Qe) (hx : es[cp]?.getD zQe = x) (o' : Int) (l' : List Cb) (v : Int) (ht : takeF x.o x.l = (o', l', v, 0)) (hon : 0 ≤ o' ∧ o' ≤ 18446744073709551615) (hln : l'.length ≤ 1000) (hnr : nr ≤ 1000000) :
    Calls Try.prog 41 #[ptr gc] w fun x' w' => x' = .returned (.tuple #[]) ∧ (∃ R' kr' A n c, CA w' l gc s g (es.set cp ⟨l', o', A, n, c⟩) cp what (ran ++ [v]) a R' (nr + 1) kr') ∧ GrownP (CS gc a.Q R) w w' := by
  have HLN := hid hln; have HON := hid hon; have HNR := hid hnr
  clear hln hon hnr
  obtain ⟨A, n, k, B, m, d, D, kd, Q, nq, kq⟩ := a
  obtain ⟨now, ns, os⟩ := s
  have hk : cp < nq := hk
  have hnq : nq ≤ 1000 := hnq
  have HB := hid (Below.refl w.heap.size w); have HX := hid h.cx; have PC := hid h.box
  obtain ⟨gQ, hQ, _, _, _, hmem⟩ := h.q_at hk
  have hQ : Q = some ⟨gQ, 0, none⟩ := hQ
  rw [hx] at hmem
  have HM := hid hmem; have HXX := hid hx; have HK := hid hk; have HLT := hid h.cx.lts; have HT := hid ht; have HQE := hid (h.qe x hmem); have hlw := hid (show gc < w.heap.size from h.box.lt)
  have HRL := hid (show ∀ b, R = some b → b.block < w.heap.size from fun b hb => by obtain ⟨_, cs, q⟩ := h.rn.blk b hb; exact q.lt)
  have hki : (cp : Int) < (nq : Int) := by omega
  clear h hk hx hmem ht
  subst hQ
  obtain ⟨xl, xo, xA, xn, xc⟩ := x
  dsimp only at HT HQE HM HXX
  have hgQ := hid (show gQ < w.heap.size from HLT.out.1 _ rfl)
  have hcq := hid (show gc ≠ gQ from fun e => HX.out.qs.ne_blk PC.out (by decide) _ rfl e.symm)
  obtain ⟨i0, hi0, hz00, hz01, hz02⟩ := info_parts info_u64
  go_enter Try.func41, Try.ntmps41
  go_upto_region 0 with fail
  have bx := (Below.refl w.heap.size w).drew
  replace HX := hid (HX.out.step bx); replace PC := hid (PC.out.step bx); replace HB := hid (below_then HB.out bx)
  clear bx
  have hszd := hid (show w.drew.heap.size = w.heap.size from rfl)
  refine wp_region_noPanic ?_
  refine wp_region_held_drew (S := (fun W' : World => W'.cell? ⟨gc, 7, none⟩ = some (.slice (some ⟨gQ, 0, none⟩) nq kq) ∧ W'.cell? ⟨gc, 8, none⟩ = some (.int .i64 cp) ∧ W'.cell? ⟨gQ, cp * 2, none⟩ = some (.slice xA xn xc) ∧ W'.cell? ⟨gQ, cp * 2 + 1, none⟩ = some (.int .u64 xo))) (by kernel_rfl) ⟨PC.out.cells11.2.2.2.2.2.2.2.1, PC.out.cells11.2.2.2.2.2.2.2.2.1, (HX.out.q0 rfl HK.out HXX.out), (HX.out.q1 rfl HK.out HXX.out)⟩ (fun hS => ?_)
  generalize w.drew = Wd at *
  refine wpAnyH_take (i := 0) (v := ?_) (by simp only [List.getElem?_toArray, List.getElem?_cons_succ, List.getElem?_cons_zero]; rfl) (by kernel_rfl) (by kernel_rfl) (by kernel_rfl) (fun _ _ _ h => h) (Or.inl ⟨by rfl, ?_⟩) hS ?_
  rotate_left
  · intro w' hSw; (try dsimp only at hSw); go_split_ands; go_simp; (try with_reducible rfl)
  (try simp only [Act.put, List.setIfInBounds_toArray, List.set_cons_zero, List.set_cons_succ])
  refine wpAnyH_take (i := 1) (v := ?_) (by simp only [List.getElem?_toArray, List.getElem?_cons_succ, List.getElem?_cons_zero]; rfl) (by kernel_rfl) (by kernel_rfl) (by kernel_rfl) (fun _ _ _ h => h) (Or.inl ⟨by rfl, ?_⟩) hS ?_
  rotate_left
  · intro w' hSw; (try dsimp only at hSw); go_split_ands; go_simp; (try with_reducible rfl)
  (try simp only [Act.put, List.setIfInBounds_toArray, List.set_cons_zero, List.set_cons_succ])
  refine wpAnyH_take (i := 2) (v := ?_) (by simp only [List.getElem?_toArray, List.getElem?_cons_succ, List.getElem?_cons_zero]; rfl) (by kernel_rfl) (by kernel_rfl) (by kernel_rfl) (fun _ _ _ h => h) (Or.inl ⟨by rfl, ?_⟩) hS ?_
  rotate_left
  · intro w' hSw; (try dsimp only at hSw); go_split_ands; go_simp; (try with_reducible rfl)
  (try simp only [Act.put, List.setIfInBounds_toArray, List.set_cons_zero, List.set_cons_succ])
  refine wpAnyH_take (i := 3) (v := ?_) (by simp only [List.getElem?_toArray, List.getElem?_cons_succ, List.getElem?_cons_zero]; rfl) (by kernel_rfl) (by kernel_rfl) (by kernel_rfl) (fun _ _ _ h => h) (Or.inl ⟨by rfl, ?_⟩) hS ?_
  rotate_left
  · intro w' hSw; (try dsimp only at hSw); go_split_ands; go_simp; (try with_reducible rfl)
  (try simp only [Act.put, List.setIfInBounds_toArray, List.set_cons_zero, List.set_cons_succ])
  refine wpAnyH_take (i := 4) (v := ?_) (by simp only [List.getElem?_toArray, List.getElem?_cons_succ, List.getElem?_cons_zero]; rfl) (by kernel_rfl) (by kernel_rfl) (by kernel_rfl) (fun _ _ _ h => h) (Or.inl ⟨by rfl, ?_⟩) hS ?_
  rotate_left
  · intro w' hSw; (try dsimp only at hSw); go_split_ands; go_simp; (try with_reducible rfl)
  (try simp only [Act.put, List.setIfInBounds_toArray, List.set_cons_zero, List.set_cons_succ])
  refine wpAnyH_take (i := 5) (v := ?_) (by simp only [List.getElem?_toArray, List.getElem?_cons_succ, List.getElem?_cons_zero]; rfl) (by kernel_rfl) (by kernel_rfl) (by kernel_rfl) (fun _ _ _ h => h) (Or.inl ⟨by rfl, ?_⟩) hS ?_
  rotate_left
  · intro w' hSw; (try dsimp only at hSw); go_split_ands; go_simp; (try with_reducible rfl)
  (try simp only [Act.put, List.setIfInBounds_toArray, List.set_cons_zero, List.set_cons_succ])
  refine wpAnyH_take (i := 6) (v := ?_) (by simp only [List.getElem?_toArray, List.getElem?_cons_succ, List.getElem?_cons_zero]; rfl) (by kernel_rfl) (by kernel_rfl) (by kernel_rfl) (fun _ _ _ h => h) (Or.inl ⟨by rfl, ?_⟩) hS ?_
  rotate_left
  · intro w' hSw; (try dsimp only at hSw); go_split_ands; go_simp; (try with_reducible rfl)
  (try simp only [Act.put, List.setIfInBounds_toArray, List.set_cons_zero, List.set_cons_succ])
  refine wpAnyH_take (i := 7) (v := ?_) (by simp only [List.getElem?_toArray, List.getElem?_cons_succ, List.getElem?_cons_zero]; rfl) (by kernel_rfl) (by kernel_rfl) (by kernel_rfl) (fun _ _ _ h => h) (Or.inl ⟨by rfl, ?_⟩) hS ?_
  rotate_left
  · intro w' hSw; (try dsimp only at hSw); go_split_ands; go_simp; (try with_reducible rfl)
  (try simp only [Act.put, List.setIfInBounds_toArray, List.set_cons_zero, List.set_cons_succ])
  refine wpAnyH_take (i := 8) (v := ?_) (by simp only [List.getElem?_toArray, List.getElem?_cons_succ, List.getElem?_cons_zero]; rfl) (by kernel_rfl) (by kernel_rfl) (by kernel_rfl) (fun _ _ _ h => h) (Or.inl ⟨by rfl, ?_⟩) hS ?_
  rotate_left
  · intro w' hSw; (try dsimp only at hSw); go_split_ands; go_simp; (try with_reducible rfl)
  (try simp only [Act.put, List.setIfInBounds_toArray, List.set_cons_zero, List.set_cons_succ])
  refine wpAnyH_take (i := 9) (v := ?_) (by simp only [List.getElem?_toArray, List.getElem?_cons_succ, List.getElem?_cons_zero]; rfl) (by kernel_rfl) (by kernel_rfl) (by kernel_rfl) (fun _ _ _ h => h) (Or.inl ⟨by rfl, ?_⟩) hS ?_
  rotate_left
  · intro w' hSw; (try dsimp only at hSw); go_split_ands; go_simp; (try with_reducible rfl)
  (try simp only [Act.put, List.setIfInBounds_toArray, List.set_cons_zero, List.set_cons_succ])
  refine wpAnyH_take (i := 10) (v := ?_) (by simp only [List.getElem?_toArray, List.getElem?_cons_succ, List.getElem?_cons_zero]; rfl) (by kernel_rfl) (by kernel_rfl) (by kernel_rfl) (fun _ _ _ h => h) (Or.inl ⟨by rfl, ?_⟩) hS ?_
  rotate_left
  · intro w' hSw; (try dsimp only at hSw); go_split_ands; go_simp; (try with_reducible rfl)
  (try simp only [Act.put, List.setIfInBounds_toArray, List.set_cons_zero, List.set_cons_succ])
  refine wpAnyH_ready (rs := [11, 16]) (by kernel_rfl) (by simp) ?_
  refine AllReadyH.cons (by simp only [List.getElem?_toArray, List.getElem?_cons_succ, List.getElem?_cons_zero]; rfl) (fun K hK => ?_) ?_
  · skip
    go_simp
    refine ((show Calls Try.prog 65 #[qv xA xn xc xo] _ (TkPost _ (o', l', v, 0)) from HT.out ▸ qtake_any xA xn xc xo xl _ (HX.out.qsm HM.out) (by have := HQE.out.2.2.1; dsimp only at this; omega) HQE.out.2.2.2.1.1)).mono ?_
    rintro e w11 ⟨A11, n11, c11, rfl, hqo, hb, hnc⟩
    have hsz0 := hid (show Wd.heap.size ≤ w11.heap.size from hb.size)
    replace HX := hid (HX.out.step hb); replace PC := hid (PC.out.step hb); replace HB := hid (below_then HB.out hb)
    clear hb
    have QT := hid hqo; have HNC := hid hnc; have HLO := hid (show w.heap.size ≤ Wd.heap.size by have := hszd.out; omega)
    clear hqo hnc
    have HQN := hid (show QeO w11 l (CS gc (some ⟨gQ, 0, none⟩) R) ⟨l', o', A11, n11, c11⟩ from QeO.fresh QT.out (by have := HX.out.lg; have := hlw.out; have := HLO.out; omega) HNC.out (by have h7 := QT.out.sm.len; have := HLN.out; dsimp only at h7 ⊢; omega) HON.out (by have := hlw.out; have := HLO.out; omega) (fun b hb => by cases hb; have := hgQ.out; have := HLO.out; dsimp only; omega) (fun b hb => by have := HRL.out b hb; have := HLO.out; omega))
    clear QT HNC
    go_wp2_with fail
    refine hK.out _ _ ⟨PC.out.cells11.2.2.2.2.2.2.2.1, PC.out.cells11.2.2.2.2.2.2.2.2.1, (HX.out.q0 rfl HK.out HXX.out), (HX.out.q1 rfl HK.out HXX.out)⟩ (fun hS' => ?_)
    clear hK K hS
    have hS := hS'
    clear hS'
    (try simp only [Act.put, List.setIfInBounds_toArray, List.set_cons_zero, List.set_cons_succ])
    refine wpAnyH_take (i := 12) (v := ?_) (by simp only [List.getElem?_toArray, List.getElem?_cons_succ, List.getElem?_cons_zero]; rfl) (by kernel_rfl) (by kernel_rfl) (by kernel_rfl) (fun _ _ _ h => h) (Or.inl ⟨by rfl, ?_⟩) hS ?_
    rotate_left
    · intro w' hSw; (try dsimp only at hSw); go_split_ands; go_simp; (try with_reducible rfl)
    (try simp only [Act.put, List.setIfInBounds_toArray, List.set_cons_zero, List.set_cons_succ])
    refine wpAnyH_take (i := 13) (v := ?_) (by simp only [List.getElem?_toArray, List.getElem?_cons_succ, List.getElem?_cons_zero]; rfl) (by kernel_rfl) (by kernel_rfl) (by kernel_rfl) (fun _ _ _ h => h) (Or.inl ⟨by rfl, ?_⟩) hS ?_
    rotate_left
    · intro w' hSw; (try dsimp only at hSw); go_split_ands; go_simp; (try with_reducible rfl)
    (try simp only [Act.put, List.setIfInBounds_toArray, List.set_cons_zero, List.set_cons_succ])
    refine wpAnyH_take (i := 14) (v := ?_) (by simp only [List.getElem?_toArray, List.getElem?_cons_succ, List.getElem?_cons_zero]; rfl) (by kernel_rfl) (by kernel_rfl) (by kernel_rfl) (fun _ _ _ h => h) (Or.inl ⟨by rfl, ?_⟩) hS ?_
    rotate_left
    · intro w' hSw; (try dsimp only at hSw); go_split_ands; go_simp; (try with_reducible rfl)
    (try simp only [Act.put, List.setIfInBounds_toArray, List.set_cons_zero, List.set_cons_succ])
    refine wpAnyH_take (i := 15) (v := ?_) (by simp only [List.getElem?_toArray, List.getElem?_cons_succ, List.getElem?_cons_zero]; rfl) (by kernel_rfl) (by kernel_rfl) (by kernel_rfl) (fun _ _ _ h => h) (Or.inl ⟨by rfl, ?_⟩) hS ?_
    rotate_left
    · intro w' hSw; (try dsimp only at hSw); go_split_ands; go_simp; (try with_reducible rfl)
    (try simp only [Act.put, List.setIfInBounds_toArray, List.set_cons_zero, List.set_cons_succ])
    refine wpAnyH_ready (rs := [16]) (by kernel_rfl) (by simp) ?_
    refine AllReadyH.cons (by simp only [List.getElem?_toArray, List.getElem?_cons_succ, List.getElem?_cons_zero]; rfl) (fun K hK => ?_) ?_
    · skip
      go_simp
      refine named_alloc ?_
      intro Wa16 hbk hb hsz
      have hsz1 := hid hsz
      obtain ⟨gz, hgz⟩ : ∃ z, z = w11.heap.size := ⟨_, rfl⟩
      have HGZ := hid (show gz < Wa16.heap.size by omega)
      have HGW := hid (show w.heap.size ≤ gz by have := hszd.out; have := hsz0.out; have := hsz1.out; omega)
      rw [← hgz] at hbk ⊢
      have NE := hid (show 0 < n11 → ∀ b, A11 = some b → b.block ≠ gz from fun hn b hb2 e => by obtain ⟨b', off, e1, _, h4, _⟩ := HQN.out.1.sm.row hn; rw [hb2] at e1; cases e1; dsimp only at e; omega)
      clear hgz
      replace HX := hid (HX.out.step hb); replace PC := hid (PC.out.step hb); replace HQN := hid (HQN.out.step hb); replace HB := hid (below_then HB.out hb)
      have PZ := hid hbk
      clear hb hbk hsz
      refine hK.out _ _ ⟨PC.out.cells11.2.2.2.2.2.2.2.1, PC.out.cells11.2.2.2.2.2.2.2.2.1, (HX.out.q0 rfl HK.out HXX.out), (HX.out.q1 rfl HK.out HXX.out)⟩ (fun hS' => ?_)
      clear hK K hS
      have hS := hS'
      clear hS'
      (try simp only [Act.put, List.setIfInBounds_toArray, List.set_cons_zero, List.set_cons_succ])
      refine wpAnyH_ready (rs := [17]) (by kernel_rfl) (by simp) ?_
      refine AllReadyH.cons (by simp only [List.getElem?_toArray, List.getElem?_cons_succ, List.getElem?_cons_zero]; rfl) (fun K hK => ?_) ?_
      · skip
        obtain ⟨y00, y01, yf0⟩ := PZ.out.cells2
        go_simp
        clear y00 y01 yf0
        refine named_store2 PZ.out ?_
        intro Ws17 hbk hgr hsz
        have hsz2 := hid hsz
        clear hsz
        have HB0 := hid (HB.out.grown hgr HB.out.size (fun r e => by cases e; exact HGW.out))
        replace HX := hid (HX.out.turn PZ.out (by decide) (by decide) (by decide) (fun b hb => by have := HLT.out.1 b hb; have := HGW.out; omega) (fun y hy hn b hb => by have := HLT.out.2 y hy hn b hb; have := HGW.out; omega) hgr)
        replace PC := hid (PC.out.grown hgr (by have := hlw.out; have := HGW.out; simp; omega))
        replace HQN := hid (show QeO Ws17 l (CS gc (some ⟨gQ, 0, none⟩) R) _ from ⟨HQN.out.1.keptP (GrownP.ofGrown (p := fun i => i = gz) hgr rfl) (fun hn b hb e => NE.out hn b hb e), HQN.out.2⟩)
        replace HB := HB0
        clear HB0 NE
        replace PZ := hid hbk
        clear hbk hgr
        refine hK.out _ _ ⟨PC.out.cells11.2.2.2.2.2.2.2.1, PC.out.cells11.2.2.2.2.2.2.2.2.1, (HX.out.q0 rfl HK.out HXX.out), (HX.out.q1 rfl HK.out HXX.out)⟩ (fun hS' => ?_)
        clear hK K hS
        have hS := hS'
        clear hS'
        (try simp only [Act.put, List.setIfInBounds_toArray, List.set_cons_zero, List.set_cons_succ])
        refine wpAnyH_take (i := 18) (v := ?_) (by simp only [List.getElem?_toArray, List.getElem?_cons_succ, List.getElem?_cons_zero]; rfl) (by kernel_rfl) (by kernel_rfl) (by kernel_rfl) (fun _ _ _ h => h) (Or.inl ⟨by rfl, ?_⟩) hS ?_
        rotate_left
        · intro w' hSw; (try dsimp only at hSw); go_split_ands; go_simp; (try with_reducible rfl)
        (try simp only [Act.put, List.setIfInBounds_toArray, List.set_cons_zero, List.set_cons_succ])
        refine wpAnyH_take (i := 19) (v := ?_) (by simp only [List.getElem?_toArray, List.getElem?_cons_succ, List.getElem?_cons_zero]; rfl) (by kernel_rfl) (by kernel_rfl) (by kernel_rfl) (fun _ _ _ h => h) (Or.inl ⟨by rfl, ?_⟩) hS ?_
        rotate_left
        · intro w' hSw; (try dsimp only at hSw); go_split_ands; go_simp; (try with_reducible rfl)
        (try simp only [Act.put, List.setIfInBounds_toArray, List.set_cons_zero, List.set_cons_succ])
        refine wpAnyH_done (by kernel_rfl) ?_ _
        refine NoPanic.normal ?_
        clear hS
        obtain ⟨y00, y01, yf0⟩ := PZ.out.cells2
        go_wp2_with fail
        clear y00 y01 yf0
        refine (rneed_yes 0 _).mono ?_
        rintro e v1 ⟨rfl, rfl⟩
        go_upto_region 2 with fail
        have HG := hid (GrownP.ofBelow (p := CS gc (some ⟨gQ, 0, none⟩) R) HB.out)
        clear HB hszd hsz0 hsz1
        have bx := (Below.refl v1.heap.size v1).drew
        replace HX := hid (HX.out.step bx); replace PC := hid (PC.out.step bx); replace PZ := hid (PZ.out.step bx); replace HQN := hid (HQN.out.step bx); replace HG := hid (HG.out.step bx)
        clear bx
        have hszd := hid (show v1.drew.heap.size = v1.heap.size from rfl)
        refine wp_region_noPanic ?_
        refine wp_region_held_tail 20 (fun W' : World => W'.cell? ⟨gc, 7, none⟩ = some (.slice (some ⟨gQ, 0, none⟩) nq kq) ∧ W'.cell? ⟨gc, 8, none⟩ = some (.int .i64 cp) ∧ W'.cell? ⟨gc, 10, none⟩ = some (.slice R nr kr) ∧ W'.cell? ⟨gz, 0, none⟩ = some (.slice A11 n11 c11) ∧ W'.cell? ⟨gz, 1, none⟩ = some (.int .u64 o')) #[false, false, false, false, false, false, false, false, false, false, false, false, false, false, false, false, false, false, false, false, false, false, false] (by kernel_rfl) ⟨PC.out.cells11.2.2.2.2.2.2.2.1, PC.out.cells11.2.2.2.2.2.2.2.2.1, PC.out.cells11.2.2.2.2.2.2.2.2.2.2.1, PZ.out.cells2.1, PZ.out.cells2.2.1⟩ (by kernel_rfl) (by kernel_rfl) (fun hS => ?_)
        generalize v1.drew = Wd at *
        refine wpAnyT_take (i := 0) (v := ?_) (by kernel_rfl) (by simp only [List.getElem?_toArray, List.getElem?_cons_succ, List.getElem?_cons_zero]; rfl) (by kernel_rfl) (fun _ _ _ h => h) (Or.inl ⟨by rfl, ?_⟩) hS ?_
        rotate_left
        · intro w' hSw; (try dsimp only at hSw); go_split_ands; go_simp; (try with_reducible rfl)
        (try simp only [Act.put, List.setIfInBounds_toArray, List.set_cons_zero, List.set_cons_succ])
        refine wpAnyT_take (i := 1) (v := ?_) (by kernel_rfl) (by simp only [List.getElem?_toArray, List.getElem?_cons_succ, List.getElem?_cons_zero]; rfl) (by kernel_rfl) (fun _ _ _ h => h) (Or.inl ⟨by rfl, ?_⟩) hS ?_
        rotate_left
        · intro w' hSw; (try dsimp only at hSw); go_split_ands; go_simp; (try with_reducible rfl)
        (try simp only [Act.put, List.setIfInBounds_toArray, List.set_cons_zero, List.set_cons_succ])
        refine wpAnyT_take (i := 2) (v := ?_) (by kernel_rfl) (by simp only [List.getElem?_toArray, List.getElem?_cons_succ, List.getElem?_cons_zero]; rfl) (by kernel_rfl) (fun _ _ _ h => h) (Or.inl ⟨by rfl, ?_⟩) hS ?_
        rotate_left
        · intro w' hSw; (try dsimp only at hSw); go_split_ands; go_simp; (try with_reducible rfl)
        (try simp only [Act.put, List.setIfInBounds_toArray, List.set_cons_zero, List.set_cons_succ])
        refine wpAnyT_take (i := 3) (v := ?_) (by kernel_rfl) (by simp only [List.getElem?_toArray, List.getElem?_cons_succ, List.getElem?_cons_zero]; rfl) (by kernel_rfl) (fun _ _ _ h => h) (Or.inl ⟨by rfl, ?_⟩) hS ?_
        rotate_left
        · intro w' hSw; (try dsimp only at hSw); go_split_ands; go_simp; (try with_reducible rfl)
        (try simp only [Act.put, List.setIfInBounds_toArray, List.set_cons_zero, List.set_cons_succ])
        refine wpAnyT_take (i := 4) (v := ?_) (by kernel_rfl) (by simp only [List.getElem?_toArray, List.getElem?_cons_succ, List.getElem?_cons_zero]; rfl) (by kernel_rfl) (fun _ _ _ h => h) (Or.inl ⟨by rfl, ?_⟩) hS ?_
        rotate_left
        · intro w' hSw; (try dsimp only at hSw); go_split_ands; go_simp; (try with_reducible rfl)
        (try simp only [Act.put, List.setIfInBounds_toArray, List.set_cons_zero, List.set_cons_succ])
        refine wpAnyT_take (i := 5) (v := ?_) (by kernel_rfl) (by simp only [List.getElem?_toArray, List.getElem?_cons_succ, List.getElem?_cons_zero]; rfl) (by kernel_rfl) (fun _ _ _ h => h) (Or.inl ⟨by rfl, ?_⟩) hS ?_
        rotate_left
        · intro w' hSw; (try dsimp only at hSw); go_split_ands; go_simp; (try with_reducible rfl)
        (try simp only [Act.put, List.setIfInBounds_toArray, List.set_cons_zero, List.set_cons_succ])
        refine wpAnyT_take (i := 6) (v := ?_) (by kernel_rfl) (by simp only [List.getElem?_toArray, List.getElem?_cons_succ, List.getElem?_cons_zero]; rfl) (by kernel_rfl) (fun _ _ _ h => h) (Or.inl ⟨by rfl, ?_⟩) hS ?_
        rotate_left
        · intro w' hSw; (try dsimp only at hSw); go_split_ands; go_simp; (try with_reducible rfl)
        (try simp only [Act.put, List.setIfInBounds_toArray, List.set_cons_zero, List.set_cons_succ])
        refine wpAnyT_take (i := 7) (v := ?_) (by kernel_rfl) (by simp only [List.getElem?_toArray, List.getElem?_cons_succ, List.getElem?_cons_zero]; rfl) (by kernel_rfl) (fun _ _ _ h => h) (Or.inl ⟨by rfl, ?_⟩) hS ?_
        rotate_left
        · intro w' hSw; (try dsimp only at hSw); go_split_ands; go_simp; (try with_reducible rfl)
        (try simp only [Act.put, List.setIfInBounds_toArray, List.set_cons_zero, List.set_cons_succ])
        refine wpAnyT_take (i := 8) (v := ?_) (by kernel_rfl) (by simp only [List.getElem?_toArray, List.getElem?_cons_succ, List.getElem?_cons_zero]; rfl) (by kernel_rfl) (fun _ _ _ h => h) (Or.inl ⟨by rfl, ?_⟩) hS ?_
        rotate_left
        · intro w' hSw; (try dsimp only at hSw); go_split_ands; go_simp; (try with_reducible rfl)
        (try simp only [Act.put, List.setIfInBounds_toArray, List.set_cons_zero, List.set_cons_succ])
        refine wpAnyT_take (i := 9) (v := ?_) (by kernel_rfl) (by simp only [List.getElem?_toArray, List.getElem?_cons_succ, List.getElem?_cons_zero]; rfl) (by kernel_rfl) (fun _ _ _ h => h) (Or.inl ⟨by rfl, ?_⟩) hS ?_
        rotate_left
        · intro w' hSw; (try dsimp only at hSw); go_split_ands; go_simp; (try with_reducible rfl)
        (try simp only [Act.put, List.setIfInBounds_toArray, List.set_cons_zero, List.set_cons_succ])
        refine wpAnyT_take (i := 10) (v := ?_) (by kernel_rfl) (by simp only [List.getElem?_toArray, List.getElem?_cons_succ, List.getElem?_cons_zero]; rfl) (by kernel_rfl) (fun _ _ _ h => h) (Or.inl ⟨by rfl, ?_⟩) hS ?_
        rotate_left
        · intro w' hSw; (try dsimp only at hSw); go_split_ands; go_simp; (try with_reducible rfl)
        (try simp only [Act.put, List.setIfInBounds_toArray, List.set_cons_zero, List.set_cons_succ])
        refine wpAnyT_take (i := 11) (v := ?_) (by kernel_rfl) (by simp only [List.getElem?_toArray, List.getElem?_cons_succ, List.getElem?_cons_zero]; rfl) (by kernel_rfl) (fun _ _ _ h => h) (Or.inl ⟨by rfl, ?_⟩) hS ?_
        rotate_left
        · intro w' hSw; (try dsimp only at hSw); go_split_ands; go_simp; (try with_reducible rfl)
        (try simp only [Act.put, List.setIfInBounds_toArray, List.set_cons_zero, List.set_cons_succ])
        refine wpAnyT_take (i := 12) (v := ?_) (by kernel_rfl) (by simp only [List.getElem?_toArray, List.getElem?_cons_succ, List.getElem?_cons_zero]; rfl) (by kernel_rfl) (fun _ _ _ h => h) (Or.inl ⟨by rfl, ?_⟩) hS ?_
        rotate_left
        · intro w' hSw; (try dsimp only at hSw); go_split_ands; go_simp; (try with_reducible rfl)
        (try simp only [Act.put, List.setIfInBounds_toArray, List.set_cons_zero, List.set_cons_succ])
        refine wpAnyT_take (i := 13) (v := ?_) (by kernel_rfl) (by simp only [List.getElem?_toArray, List.getElem?_cons_succ, List.getElem?_cons_zero]; rfl) (by kernel_rfl) (fun _ _ _ h => h) (Or.inl ⟨by rfl, ?_⟩) hS ?_
        rotate_left
        · intro w' hSw; (try dsimp only at hSw); go_split_ands; go_simp; (try with_reducible rfl)
        (try simp only [Act.put, List.setIfInBounds_toArray, List.set_cons_zero, List.set_cons_succ])
        refine wpAnyT_take (i := 14) (v := ?_) (by kernel_rfl) (by simp only [List.getElem?_toArray, List.getElem?_cons_succ, List.getElem?_cons_zero]; rfl) (by kernel_rfl) (fun _ _ _ h => h) (Or.inl ⟨by rfl, ?_⟩) hS ?_
        rotate_left
        · intro w' hSw; (try dsimp only at hSw); go_split_ands; go_simp; (try with_reducible rfl)
        (try simp only [Act.put, List.setIfInBounds_toArray, List.set_cons_zero, List.set_cons_succ])
        refine wpAnyT_take (i := 15) (v := ?_) (by kernel_rfl) (by simp only [List.getElem?_toArray, List.getElem?_cons_succ, List.getElem?_cons_zero]; rfl) (by kernel_rfl) (fun _ _ _ h => h) (Or.inl ⟨by rfl, ?_⟩) hS ?_
        rotate_left
        · intro w' hSw; (try dsimp only at hSw); go_split_ands; go_simp; (try with_reducible rfl)
        (try simp only [Act.put, List.setIfInBounds_toArray, List.set_cons_zero, List.set_cons_succ])
        refine wpAnyT_ready [16] (by kernel_rfl) (by simp) ?_
        refine AllReadyT.cons (by simp only [List.getElem?_toArray, List.getElem?_cons_succ, List.getElem?_cons_zero]; rfl) rfl (fun K hK => ?_) ?_
        · skip
          go_simp
          refine named_alloc ?_
          intro Wa16 hbk hb hsz
          have hsz0 := hid hsz
          obtain ⟨gv, hgv⟩ : ∃ z, z = Wd.heap.size := ⟨_, rfl⟩
          rw [← hgv] at hbk ⊢
          clear hgv
          replace HX := hid (HX.out.step hb); replace PC := hid (PC.out.step hb); replace PZ := hid (PZ.out.step hb); replace HQN := hid (HQN.out.step hb); replace HG := hid (HG.out.step hb)
          have PV := hid hbk
          clear hb hbk hsz
          have hS' : (fun W' : World => W'.cell? ⟨gc, 7, none⟩ = some (.slice (some ⟨gQ, 0, none⟩) nq kq) ∧ W'.cell? ⟨gc, 8, none⟩ = some (.int .i64 cp) ∧ W'.cell? ⟨gc, 10, none⟩ = some (.slice R nr kr) ∧ W'.cell? ⟨gz, 0, none⟩ = some (.slice A11 n11 c11) ∧ W'.cell? ⟨gz, 1, none⟩ = some (.int .u64 o')) _ := ⟨PC.out.cells11.2.2.2.2.2.2.2.1, PC.out.cells11.2.2.2.2.2.2.2.2.1, PC.out.cells11.2.2.2.2.2.2.2.2.2.2.1, PZ.out.cells2.1, PZ.out.cells2.2.1⟩
          refine hK.out _ _ hS' ?_
          clear hK K hS
          have hS := hS'
          clear hS'
          (try simp only [Act.put, List.setIfInBounds_toArray, List.set_cons_zero, List.set_cons_succ])
          refine wpAnyT_ready [17] (by kernel_rfl) (by simp) ?_
          refine AllReadyT.cons (by simp only [List.getElem?_toArray, List.getElem?_cons_succ, List.getElem?_cons_zero]; rfl) rfl (fun K hK => ?_) ?_
          · skip
            refine step_app u64v 0 _ rfl _ _ 52 rfl l 38 i0 _ 8 Try.underlying52 hi0 hz00 hz01 hz02 rfl R nr kr ran rfl HX.out.rn 0 _ (some ⟨gv, 0, none⟩) 1 1 [v] rfl ((PV.out.ow (enc := u64v) (xs := [v]) (lo := 0) rfl rfl (Nat.zero_le _) (by simp [maxLen])).sl (d := 0)) (fun _ => rfl) (by have := HNR.out; simp only [maxLen]; omega) (by have := HNR.out; omega) (by have := HX.out.lg; have := PC.out.lt; omega) ?_
            intro A17 c17 Wc17 hown hgr hat
            replace HQN := hid (HQN.out.app HX.out.rn hgr hat)
            replace PC := hid (PC.out.keptO HX.out.rn (by decide) hgr)
            replace PZ := hid (PZ.out.keptO HX.out.rn (by decide) hgr)
            replace HG := hid (HG.out.thenG hgr (fun r e => by obtain ⟨b, hb, hbb⟩ := own_addr e; exact .inr (.inr (.inr ⟨b, hb, hbb.symm⟩))))
            replace HX := hid (HX.out.app hown hgr hat)
            clear hown hgr hat PV
            have hS' : (fun W' : World => W'.cell? ⟨gc, 7, none⟩ = some (.slice (some ⟨gQ, 0, none⟩) nq kq) ∧ W'.cell? ⟨gc, 8, none⟩ = some (.int .i64 cp) ∧ W'.cell? ⟨gc, 10, none⟩ = some (.slice R nr kr) ∧ W'.cell? ⟨gz, 0, none⟩ = some (.slice A11 n11 c11) ∧ W'.cell? ⟨gz, 1, none⟩ = some (.int .u64 o')) _ := ⟨PC.out.cells11.2.2.2.2.2.2.2.1, PC.out.cells11.2.2.2.2.2.2.2.2.1, PC.out.cells11.2.2.2.2.2.2.2.2.2.2.1, PZ.out.cells2.1, PZ.out.cells2.2.1⟩
            refine hK.out _ _ hS' ?_
            clear hK K hS
            have hS := hS'
            clear hS'
            (try simp only [Act.put, List.setIfInBounds_toArray, List.set_cons_zero, List.set_cons_succ])
            refine wpAnyT_take (i := 18) (v := ?_) (by kernel_rfl) (by simp only [List.getElem?_toArray, List.getElem?_cons_succ, List.getElem?_cons_zero]; rfl) (by kernel_rfl) (fun _ _ _ h => h) (Or.inl ⟨by rfl, ?_⟩) hS ?_
            rotate_left
            · intro w' hSw; (try dsimp only at hSw); go_split_ands; go_simp; (try with_reducible rfl)
            (try simp only [Act.put, List.setIfInBounds_toArray, List.set_cons_zero, List.set_cons_succ])
            refine wpAnyT_ready [19] (by kernel_rfl) (by simp) ?_
            refine AllReadyT.cons (by simp only [List.getElem?_toArray, List.getElem?_cons_succ, List.getElem?_cons_zero]; rfl) rfl (fun K hK => ?_) ?_
            · skip
              obtain ⟨g2, hg2, q0, q1, qf, _⟩ := HX.out.q_at HK.out
              cases hg2
              go_simp
              clear q0 q1 qf
              have hgr := grown_set (grown_set (World.grownBy.refl Wc17 (some gQ)) (cp * 2) (.slice A11 n11 c11)) (cp * 2 + 1) (.int .u64 o')
              replace HX := hid (show CX ((Wc17.setCell ⟨gQ, cp * 2, none⟩ (.slice A11 n11 c11)).setCell ⟨gQ, cp * 2 + 1, none⟩ (.int .u64 o')) _ _ _ _ _ _ _ _ _ _ from HX.out.put rfl HK.out ⟨l', o', A11, n11, c11⟩ HQN.out)
              replace PC := hid (PC.out.grown hgr (by have := hcq.out; simpa using this))
              replace PZ := hid (PZ.out.grown hgr (by have := hgQ.out; have := HGW.out; simp; omega))
              replace HG := hid (HG.out.thenG hgr (fun r e => by cases e; exact .inr (.inr (.inl ⟨_, rfl, rfl⟩))))
              clear hgr HQN
              generalize (Wc17.setCell ⟨gQ, cp * 2, none⟩ (.slice A11 n11 c11)).setCell ⟨gQ, cp * 2 + 1, none⟩ (.int .u64 o') = Wc19 at *
              have hS' : (fun W' : World => W'.cell? ⟨gc, 7, none⟩ = some (.slice (some ⟨gQ, 0, none⟩) nq kq) ∧ W'.cell? ⟨gc, 8, none⟩ = some (.int .i64 cp) ∧ W'.cell? ⟨gc, 10, none⟩ = some (.slice R nr kr) ∧ W'.cell? ⟨gz, 0, none⟩ = some (.slice A11 n11 c11) ∧ W'.cell? ⟨gz, 1, none⟩ = some (.int .u64 o')) _ := ⟨PC.out.cells11.2.2.2.2.2.2.2.1, PC.out.cells11.2.2.2.2.2.2.2.2.1, PC.out.cells11.2.2.2.2.2.2.2.2.2.2.1, PZ.out.cells2.1, PZ.out.cells2.2.1⟩
              refine hK.out _ _ hS' ?_
              clear hK K hS
              have hS := hS'
              clear hS'
              (try simp only [Act.put, List.setIfInBounds_toArray, List.set_cons_zero, List.set_cons_succ])
              refine wpAnyT_done (by kernel_rfl) ?_
              simp only [List.drop_succ_cons, List.drop_zero]
              clear hS
              obtain ⟨y0, y1, y2, y3, y4, y5, y6, y7, y8, y9, y10, yf⟩ := PC.out.cells11
              go_wp2_with fail
              refine NoPanic.normal ?_
              clear y0 y1 y2 y3 y4 y5 y6 y7 y8 y9 y10 yf
              (try go_end0)
              have hgr := grown_set (World.grownBy.refl Wc19 (some gc)) 10 (.slice A17 (nr + 1) c17)
              refine ⟨rfl, ⟨A17, c17, A11, n11, c11, (HX.out.boxed PC.out hgr).ca (PC.out.setCell 10 _)⟩, HG.out.thenG hgr (fun r e => by cases e; exact .inr (.inl rfl))⟩
            exact AllReadyT.nil
          exact AllReadyT.nil
        exact AllReadyT.nil
      exact AllReadyH.nil
    exact AllReadyH.nil
  refine AllReadyH.cons (by simp only [List.getElem?_toArray, List.getElem?_cons_succ, List.getElem?_cons_zero]; rfl) (fun K hK => ?_) ?_
  · skip
    go_simp
    refine named_alloc ?_
    intro Wa16 hbk hb hsz
    have hsz0 := hid hsz
    obtain ⟨gz, hgz⟩ : ∃ z, z = Wd.heap.size := ⟨_, rfl⟩
    have HGZ := hid (show gz < Wa16.heap.size by omega)
    have HGW := hid (show w.heap.size ≤ gz by have := hszd.out; have := hsz0.out; omega)
    rw [← hgz] at hbk ⊢
    clear hgz
    replace HX := hid (HX.out.step hb); replace PC := hid (PC.out.step hb); replace HB := hid (below_then HB.out hb)
    have PZ := hid hbk
    clear hb hbk hsz
    refine hK.out _ _ ⟨PC.out.cells11.2.2.2.2.2.2.2.1, PC.out.cells11.2.2.2.2.2.2.2.2.1, (HX.out.q0 rfl HK.out HXX.out), (HX.out.q1 rfl HK.out HXX.out)⟩ (fun hS' => ?_)
    clear hK K hS
    have hS := hS'
    clear hS'
    (try simp only [Act.put, List.setIfInBounds_toArray, List.set_cons_zero, List.set_cons_succ])
    refine wpAnyH_ready (rs := [11]) (by kernel_rfl) (by simp) ?_
    refine AllReadyH.cons (by simp only [List.getElem?_toArray, List.getElem?_cons_succ, List.getElem?_cons_zero]; rfl) (fun K hK => ?_) ?_
    · skip
      go_simp
      refine ((show Calls Try.prog 65 #[qv xA xn xc xo] _ (TkPost _ (o', l', v, 0)) from HT.out ▸ qtake_any xA xn xc xo xl _ (HX.out.qsm HM.out) (by have := HQE.out.2.2.1; dsimp only at this; omega) HQE.out.2.2.2.1.1)).mono ?_
      rintro e w11 ⟨A11, n11, c11, rfl, hqo, hb, hnc⟩
      have hsz1 := hid (show Wa16.heap.size ≤ w11.heap.size from hb.size)
      replace HX := hid (HX.out.step hb); replace PC := hid (PC.out.step hb); replace PZ := hid (PZ.out.step hb); replace HB := hid (below_then HB.out hb)
      clear hb
      have QT := hid hqo; have HNC := hid hnc; have HLO := hid (show w.heap.size ≤ Wa16.heap.size by have := hszd.out; have := hsz0.out; omega)
      clear hqo hnc
      have NE := hid (show 0 < n11 → ∀ b, A11 = some b → b.block ≠ gz from fun hn b hb2 e => by obtain ⟨b', off, e1, h4, _, _⟩ := QT.out.sm.row hn; rw [hb2] at e1; cases e1; have := HGZ.out; dsimp only at e; omega)
      have HQN := hid (show QeO w11 l (CS gc (some ⟨gQ, 0, none⟩) R) ⟨l', o', A11, n11, c11⟩ from QeO.fresh QT.out (by have := HX.out.lg; have := hlw.out; have := HLO.out; omega) HNC.out (by have h7 := QT.out.sm.len; have := HLN.out; dsimp only at h7 ⊢; omega) HON.out (by have := hlw.out; have := HLO.out; omega) (fun b hb => by cases hb; have := hgQ.out; have := HLO.out; dsimp only; omega) (fun b hb => by have := HRL.out b hb; have := HLO.out; omega))
      clear QT HNC
      go_wp2_with fail
      refine hK.out _ _ ⟨PC.out.cells11.2.2.2.2.2.2.2.1, PC.out.cells11.2.2.2.2.2.2.2.2.1, (HX.out.q0 rfl HK.out HXX.out), (HX.out.q1 rfl HK.out HXX.out)⟩ (fun hS' => ?_)
      clear hK K hS
      have hS := hS'
      clear hS'
      (try simp only [Act.put, List.setIfInBounds_toArray, List.set_cons_zero, List.set_cons_succ])
      refine wpAnyH_take (i := 12) (v := ?_) (by simp only [List.getElem?_toArray, List.getElem?_cons_succ, List.getElem?_cons_zero]; rfl) (by kernel_rfl) (by kernel_rfl) (by kernel_rfl) (fun _ _ _ h => h) (Or.inl ⟨by rfl, ?_⟩) hS ?_
      rotate_left
      · intro w' hSw; (try dsimp only at hSw); go_split_ands; go_simp; (try with_reducible rfl)
      (try simp only [Act.put, List.setIfInBounds_toArray, List.set_cons_zero, List.set_cons_succ])
      refine wpAnyH_take (i := 13) (v := ?_) (by simp only [List.getElem?_toArray, List.getElem?_cons_succ, List.getElem?_cons_zero]; rfl) (by kernel_rfl) (by kernel_rfl) (by kernel_rfl) (fun _ _ _ h => h) (Or.inl ⟨by rfl, ?_⟩) hS ?_
      rotate_left
      · intro w' hSw; (try dsimp only at hSw); go_split_ands; go_simp; (try with_reducible rfl)
      (try simp only [Act.put, List.setIfInBounds_toArray, List.set_cons_zero, List.set_cons_succ])
      refine wpAnyH_take (i := 14) (v := ?_) (by simp only [List.getElem?_toArray, List.getElem?_cons_succ, List.getElem?_cons_zero]; rfl) (by kernel_rfl) (by kernel_rfl) (by kernel_rfl) (fun _ _ _ h => h) (Or.inl ⟨by rfl, ?_⟩) hS ?_
      rotate_left
      · intro w' hSw; (try dsimp only at hSw); go_split_ands; go_simp; (try with_reducible rfl)
      (try simp only [Act.put, List.setIfInBounds_toArray, List.set_cons_zero, List.set_cons_succ])
      refine wpAnyH_take (i := 15) (v := ?_) (by simp only [List.getElem?_toArray, List.getElem?_cons_succ, List.getElem?_cons_zero]; rfl) (by kernel_rfl) (by kernel_rfl) (by kernel_rfl) (fun _ _ _ h => h) (Or.inl ⟨by rfl, ?_⟩) hS ?_
      rotate_left
      · intro w' hSw; (try dsimp only at hSw); go_split_ands; go_simp; (try with_reducible rfl)
      (try simp only [Act.put, List.setIfInBounds_toArray, List.set_cons_zero, List.set_cons_succ])
      refine wpAnyH_ready (rs := [17]) (by kernel_rfl) (by simp) ?_
      refine AllReadyH.cons (by simp only [List.getElem?_toArray, List.getElem?_cons_succ, List.getElem?_cons_zero]; rfl) (fun K hK => ?_) ?_
      · skip
        obtain ⟨y00, y01, yf0⟩ := PZ.out.cells2
        go_simp
        clear y00 y01 yf0
        refine named_store2 PZ.out ?_
        intro Ws17 hbk hgr hsz
        have hsz2 := hid hsz
        clear hsz
        have HB0 := hid (HB.out.grown hgr HB.out.size (fun r e => by cases e; exact HGW.out))
        replace HX := hid (HX.out.turn PZ.out (by decide) (by decide) (by decide) (fun b hb => by have := HLT.out.1 b hb; have := HGW.out; omega) (fun y hy hn b hb => by have := HLT.out.2 y hy hn b hb; have := HGW.out; omega) hgr)
        replace PC := hid (PC.out.grown hgr (by have := hlw.out; have := HGW.out; simp; omega))
        replace HQN := hid (show QeO Ws17 l (CS gc (some ⟨gQ, 0, none⟩) R) _ from ⟨HQN.out.1.keptP (GrownP.ofGrown (p := fun i => i = gz) hgr rfl) (fun hn b hb e => NE.out hn b hb e), HQN.out.2⟩)
        replace HB := HB0
        clear HB0 NE
        replace PZ := hid hbk
        clear hbk hgr
        refine hK.out _ _ ⟨PC.out.cells11.2.2.2.2.2.2.2.1, PC.out.cells11.2.2.2.2.2.2.2.2.1, (HX.out.q0 rfl HK.out HXX.out), (HX.out.q1 rfl HK.out HXX.out)⟩ (fun hS' => ?_)
        clear hK K hS
        have hS := hS'
        clear hS'
        (try simp only [Act.put, List.setIfInBounds_toArray, List.set_cons_zero, List.set_cons_succ])
        refine wpAnyH_take (i := 18) (v := ?_) (by simp only [List.getElem?_toArray, List.getElem?_cons_succ, List.getElem?_cons_zero]; rfl) (by kernel_rfl) (by kernel_rfl) (by kernel_rfl) (fun _ _ _ h => h) (Or.inl ⟨by rfl, ?_⟩) hS ?_
        rotate_left
        · intro w' hSw; (try dsimp only at hSw); go_split_ands; go_simp; (try with_reducible rfl)
        (try simp only [Act.put, List.setIfInBounds_toArray, List.set_cons_zero, List.set_cons_succ])
        refine wpAnyH_take (i := 19) (v := ?_) (by simp only [List.getElem?_toArray, List.getElem?_cons_succ, List.getElem?_cons_zero]; rfl) (by kernel_rfl) (by kernel_rfl) (by kernel_rfl) (fun _ _ _ h => h) (Or.inl ⟨by rfl, ?_⟩) hS ?_
        rotate_left
        · intro w' hSw; (try dsimp only at hSw); go_split_ands; go_simp; (try with_reducible rfl)
        (try simp only [Act.put, List.setIfInBounds_toArray, List.set_cons_zero, List.set_cons_succ])
        refine wpAnyH_done (by kernel_rfl) ?_ _
        refine NoPanic.normal ?_
        clear hS
        obtain ⟨y00, y01, yf0⟩ := PZ.out.cells2
        go_wp2_with fail
        clear y00 y01 yf0
        refine (rneed_yes 0 _).mono ?_
        rintro e v1 ⟨rfl, rfl⟩
        go_upto_region 2 with fail
        have HG := hid (GrownP.ofBelow (p := CS gc (some ⟨gQ, 0, none⟩) R) HB.out)
        clear HB hszd hsz0 hsz1
        have bx := (Below.refl v1.heap.size v1).drew
        replace HX := hid (HX.out.step bx); replace PC := hid (PC.out.step bx); replace PZ := hid (PZ.out.step bx); replace HQN := hid (HQN.out.step bx); replace HG := hid (HG.out.step bx)
        clear bx
        have hszd := hid (show v1.drew.heap.size = v1.heap.size from rfl)
        refine wp_region_noPanic ?_
        refine wp_region_held_tail 20 (fun W' : World => W'.cell? ⟨gc, 7, none⟩ = some (.slice (some ⟨gQ, 0, none⟩) nq kq) ∧ W'.cell? ⟨gc, 8, none⟩ = some (.int .i64 cp) ∧ W'.cell? ⟨gc, 10, none⟩ = some (.slice R nr kr) ∧ W'.cell? ⟨gz, 0, none⟩ = some (.slice A11 n11 c11) ∧ W'.cell? ⟨gz, 1, none⟩ = some (.int .u64 o')) #[false, false, false, false, false, false, false, false, false, false, false, false, false, false, false, false, false, false, false, false, false, false, false] (by kernel_rfl) ⟨PC.out.cells11.2.2.2.2.2.2.2.1, PC.out.cells11.2.2.2.2.2.2.2.2.1, PC.out.cells11.2.2.2.2.2.2.2.2.2.2.1, PZ.out.cells2.1, PZ.out.cells2.2.1⟩ (by kernel_rfl) (by kernel_rfl) (fun hS => ?_)
        generalize v1.drew = Wd at *
        refine wpAnyT_take (i := 0) (v := ?_) (by kernel_rfl) (by simp only [List.getElem?_toArray, List.getElem?_cons_succ, List.getElem?_cons_zero]; rfl) (by kernel_rfl) (fun _ _ _ h => h) (Or.inl ⟨by rfl, ?_⟩) hS ?_
        rotate_left
        · intro w' hSw; (try dsimp only at hSw); go_split_ands; go_simp; (try with_reducible rfl)
        (try simp only [Act.put, List.setIfInBounds_toArray, List.set_cons_zero, List.set_cons_succ])
        refine wpAnyT_take (i := 1) (v := ?_) (by kernel_rfl) (by simp only [List.getElem?_toArray, List.getElem?_cons_succ, List.getElem?_cons_zero]; rfl) (by kernel_rfl) (fun _ _ _ h => h) (Or.inl ⟨by rfl, ?_⟩) hS ?_
        rotate_left
        · intro w' hSw; (try dsimp only at hSw); go_split_ands; go_simp; (try with_reducible rfl)
        (try simp only [Act.put, List.setIfInBounds_toArray, List.set_cons_zero, List.set_cons_succ])
        refine wpAnyT_take (i := 2) (v := ?_) (by kernel_rfl) (by simp only [List.getElem?_toArray, List.getElem?_cons_succ, List.getElem?_cons_zero]; rfl) (by kernel_rfl) (fun _ _ _ h => h) (Or.inl ⟨by rfl, ?_⟩) hS ?_
        rotate_left
        · intro w' hSw; (try dsimp only at hSw); go_split_ands; go_simp; (try with_reducible rfl)
        (try simp only [Act.put, List.setIfInBounds_toArray, List.set_cons_zero, List.set_cons_succ])
        refine wpAnyT_take (i := 3) (v := ?_) (by kernel_rfl) (by simp only [List.getElem?_toArray, List.getElem?_cons_succ, List.getElem?_cons_zero]; rfl) (by kernel_rfl) (fun _ _ _ h => h) (Or.inl ⟨by rfl, ?_⟩) hS ?_
        rotate_left
        · intro w' hSw; (try dsimp only at hSw); go_split_ands; go_simp; (try with_reducible rfl)
        (try simp only [Act.put, List.setIfInBounds_toArray, List.set_cons_zero, List.set_cons_succ])
        refine wpAnyT_take (i := 4) (v := ?_) (by kernel_rfl) (by simp only [List.getElem?_toArray, List.getElem?_cons_succ, List.getElem?_cons_zero]; rfl) (by kernel_rfl) (fun _ _ _ h => h) (Or.inl ⟨by rfl, ?_⟩) hS ?_
        rotate_left
        · intro w' hSw; (try dsimp only at hSw); go_split_ands; go_simp; (try with_reducible rfl)
        (try simp only [Act.put, List.setIfInBounds_toArray, List.set_cons_zero, List.set_cons_succ])
        refine wpAnyT_take (i := 5) (v := ?_) (by kernel_rfl) (by simp only [List.getElem?_toArray, List.getElem?_cons_succ, List.getElem?_cons_zero]; rfl) (by kernel_rfl) (fun _ _ _ h => h) (Or.inl ⟨by rfl, ?_⟩) hS ?_
        rotate_left
        · intro w' hSw; (try dsimp only at hSw); go_split_ands; go_simp; (try with_reducible rfl)
        (try simp only [Act.put, List.setIfInBounds_toArray, List.set_cons_zero, List.set_cons_succ])
        refine wpAnyT_take (i := 6) (v := ?_) (by kernel_rfl) (by simp only [List.getElem?_toArray, List.getElem?_cons_succ, List.getElem?_cons_zero]; rfl) (by kernel_rfl) (fun _ _ _ h => h) (Or.inl ⟨by rfl, ?_⟩) hS ?_
        rotate_left
        · intro w' hSw; (try dsimp only at hSw); go_split_ands; go_simp; (try with_reducible rfl)
        (try simp only [Act.put, List.setIfInBounds_toArray, List.set_cons_zero, List.set_cons_succ])
        refine wpAnyT_take (i := 7) (v := ?_) (by kernel_rfl) (by simp only [List.getElem?_toArray, List.getElem?_cons_succ, List.getElem?_cons_zero]; rfl) (by kernel_rfl) (fun _ _ _ h => h) (Or.inl ⟨by rfl, ?_⟩) hS ?_
        rotate_left
        · intro w' hSw; (try dsimp only at hSw); go_split_ands; go_simp; (try with_reducible rfl)
        (try simp only [Act.put, List.setIfInBounds_toArray, List.set_cons_zero, List.set_cons_succ])
        refine wpAnyT_take (i := 8) (v := ?_) (by kernel_rfl) (by simp only [List.getElem?_toArray, List.getElem?_cons_succ, List.getElem?_cons_zero]; rfl) (by kernel_rfl) (fun _ _ _ h => h) (Or.inl ⟨by rfl, ?_⟩) hS ?_
        rotate_left
        · intro w' hSw; (try dsimp only at hSw); go_split_ands; go_simp; (try with_reducible rfl)
        (try simp only [Act.put, List.setIfInBounds_toArray, List.set_cons_zero, List.set_cons_succ])
        refine wpAnyT_take (i := 9) (v := ?_) (by kernel_rfl) (by simp only [List.getElem?_toArray, List.getElem?_cons_succ, List.getElem?_cons_zero]; rfl) (by kernel_rfl) (fun _ _ _ h => h) (Or.inl ⟨by rfl, ?_⟩) hS ?_
        rotate_left
        · intro w' hSw; (try dsimp only at hSw); go_split_ands; go_simp; (try with_reducible rfl)
        (try simp only [Act.put, List.setIfInBounds_toArray, List.set_cons_zero, List.set_cons_succ])
        refine wpAnyT_take (i := 10) (v := ?_) (by kernel_rfl) (by simp only [List.getElem?_toArray, List.getElem?_cons_succ, List.getElem?_cons_zero]; rfl) (by kernel_rfl) (fun _ _ _ h => h) (Or.inl ⟨by rfl, ?_⟩) hS ?_
        rotate_left
        · intro w' hSw; (try dsimp only at hSw); go_split_ands; go_simp; (try with_reducible rfl)
        (try simp only [Act.put, List.setIfInBounds_toArray, List.set_cons_zero, List.set_cons_succ])
        refine wpAnyT_take (i := 11) (v := ?_) (by kernel_rfl) (by simp only [List.getElem?_toArray, List.getElem?_cons_succ, List.getElem?_cons_zero]; rfl) (by kernel_rfl) (fun _ _ _ h => h) (Or.inl ⟨by rfl, ?_⟩) hS ?_
        rotate_left
        · intro w' hSw; (try dsimp only at hSw); go_split_ands; go_simp; (try with_reducible rfl)
        (try simp only [Act.put, List.setIfInBounds_toArray, List.set_cons_zero, List.set_cons_succ])
        refine wpAnyT_take (i := 12) (v := ?_) (by kernel_rfl) (by simp only [List.getElem?_toArray, List.getElem?_cons_succ, List.getElem?_cons_zero]; rfl) (by kernel_rfl) (fun _ _ _ h => h) (Or.inl ⟨by rfl, ?_⟩) hS ?_
        rotate_left
        · intro w' hSw; (try dsimp only at hSw); go_split_ands; go_simp; (try with_reducible rfl)
        (try simp only [Act.put, List.setIfInBounds_toArray, List.set_cons_zero, List.set_cons_succ])
        refine wpAnyT_take (i := 13) (v := ?_) (by kernel_rfl) (by simp only [List.getElem?_toArray, List.getElem?_cons_succ, List.getElem?_cons_zero]; rfl) (by kernel_rfl) (fun _ _ _ h => h) (Or.inl ⟨by rfl, ?_⟩) hS ?_
        rotate_left
        · intro w' hSw; (try dsimp only at hSw); go_split_ands; go_simp; (try with_reducible rfl)
        (try simp only [Act.put, List.setIfInBounds_toArray, List.set_cons_zero, List.set_cons_succ])
        refine wpAnyT_take (i := 14) (v := ?_) (by kernel_rfl) (by simp only [List.getElem?_toArray, List.getElem?_cons_succ, List.getElem?_cons_zero]; rfl) (by kernel_rfl) (fun _ _ _ h => h) (Or.inl ⟨by rfl, ?_⟩) hS ?_
        rotate_left
        · intro w' hSw; (try dsimp only at hSw); go_split_ands; go_simp; (try with_reducible rfl)
        (try simp only [Act.put, List.setIfInBounds_toArray, List.set_cons_zero, List.set_cons_succ])
        refine wpAnyT_take (i := 15) (v := ?_) (by kernel_rfl) (by simp only [List.getElem?_toArray, List.getElem?_cons_succ, List.getElem?_cons_zero]; rfl) (by kernel_rfl) (fun _ _ _ h => h) (Or.inl ⟨by rfl, ?_⟩) hS ?_
        rotate_left
        · intro w' hSw; (try dsimp only at hSw); go_split_ands; go_simp; (try with_reducible rfl)
        (try simp only [Act.put, List.setIfInBounds_toArray, List.set_cons_zero, List.set_cons_succ])
        refine wpAnyT_ready [16] (by kernel_rfl) (by simp) ?_
        refine AllReadyT.cons (by simp only [List.getElem?_toArray, List.getElem?_cons_succ, List.getElem?_cons_zero]; rfl) rfl (fun K hK => ?_) ?_
        · skip
          go_simp
          refine named_alloc ?_
          intro Wa16 hbk hb hsz
          have hsz0 := hid hsz
          obtain ⟨gv, hgv⟩ : ∃ z, z = Wd.heap.size := ⟨_, rfl⟩
          rw [← hgv] at hbk ⊢
          clear hgv
          replace HX := hid (HX.out.step hb); replace PC := hid (PC.out.step hb); replace PZ := hid (PZ.out.step hb); replace HQN := hid (HQN.out.step hb); replace HG := hid (HG.out.step hb)
          have PV := hid hbk
          clear hb hbk hsz
          have hS' : (fun W' : World => W'.cell? ⟨gc, 7, none⟩ = some (.slice (some ⟨gQ, 0, none⟩) nq kq) ∧ W'.cell? ⟨gc, 8, none⟩ = some (.int .i64 cp) ∧ W'.cell? ⟨gc, 10, none⟩ = some (.slice R nr kr) ∧ W'.cell? ⟨gz, 0, none⟩ = some (.slice A11 n11 c11) ∧ W'.cell? ⟨gz, 1, none⟩ = some (.int .u64 o')) _ := ⟨PC.out.cells11.2.2.2.2.2.2.2.1, PC.out.cells11.2.2.2.2.2.2.2.2.1, PC.out.cells11.2.2.2.2.2.2.2.2.2.2.1, PZ.out.cells2.1, PZ.out.cells2.2.1⟩
          refine hK.out _ _ hS' ?_
          clear hK K hS
          have hS := hS'
          clear hS'
          (try simp only [Act.put, List.setIfInBounds_toArray, List.set_cons_zero, List.set_cons_succ])
          refine wpAnyT_ready [17] (by kernel_rfl) (by simp) ?_
          refine AllReadyT.cons (by simp only [List.getElem?_toArray, List.getElem?_cons_succ, List.getElem?_cons_zero]; rfl) rfl (fun K hK => ?_) ?_
          · skip
            refine step_app u64v 0 _ rfl _ _ 52 rfl l 38 i0 _ 8 Try.underlying52 hi0 hz00 hz01 hz02 rfl R nr kr ran rfl HX.out.rn 0 _ (some ⟨gv, 0, none⟩) 1 1 [v] rfl ((PV.out.ow (enc := u64v) (xs := [v]) (lo := 0) rfl rfl (Nat.zero_le _) (by simp [maxLen])).sl (d := 0)) (fun _ => rfl) (by have := HNR.out; simp only [maxLen]; omega) (by have := HNR.out; omega) (by have := HX.out.lg; have := PC.out.lt; omega) ?_
            intro A17 c17 Wc17 hown hgr hat
            replace HQN := hid (HQN.out.app HX.out.rn hgr hat)
            replace PC := hid (PC.out.keptO HX.out.rn (by decide) hgr)
            replace PZ := hid (PZ.out.keptO HX.out.rn (by decide) hgr)
            replace HG := hid (HG.out.thenG hgr (fun r e => by obtain ⟨b, hb, hbb⟩ := own_addr e; exact .inr (.inr (.inr ⟨b, hb, hbb.symm⟩))))
            replace HX := hid (HX.out.app hown hgr hat)
            clear hown hgr hat PV
            have hS' : (fun W' : World => W'.cell? ⟨gc, 7, none⟩ = some (.slice (some ⟨gQ, 0, none⟩) nq kq) ∧ W'.cell? ⟨gc, 8, none⟩ = some (.int .i64 cp) ∧ W'.cell? ⟨gc, 10, none⟩ = some (.slice R nr kr) ∧ W'.cell? ⟨gz, 0, none⟩ = some (.slice A11 n11 c11) ∧ W'.cell? ⟨gz, 1, none⟩ = some (.int .u64 o')) _ := ⟨PC.out.cells11.2.2.2.2.2.2.2.1, PC.out.cells11.2.2.2.2.2.2.2.2.1, PC.out.cells11.2.2.2.2.2.2.2.2.2.2.1, PZ.out.cells2.1, PZ.out.cells2.2.1⟩
            refine hK.out _ _ hS' ?_
            clear hK K hS
            have hS := hS'
            clear hS'
            (try simp only [Act.put, List.setIfInBounds_toArray, List.set_cons_zero, List.set_cons_succ])
            refine wpAnyT_take (i := 18) (v := ?_) (by kernel_rfl) (by simp only [List.getElem?_toArray, List.getElem?_cons_succ, List.getElem?_cons_zero]; rfl) (by kernel_rfl) (fun _ _ _ h => h) (Or.inl ⟨by rfl, ?_⟩) hS ?_
            rotate_left
            · intro w' hSw; (try dsimp only at hSw); go_split_ands; go_simp; (try with_reducible rfl)
            (try simp only [Act.put, List.setIfInBounds_toArray, List.set_cons_zero, List.set_cons_succ])
            refine wpAnyT_ready [19] (by kernel_rfl) (by simp) ?_
            refine AllReadyT.cons (by simp only [List.getElem?_toArray, List.getElem?_cons_succ, List.getElem?_cons_zero]; rfl) rfl (fun K hK => ?_) ?_
            · skip
              obtain ⟨g2, hg2, q0, q1, qf, _⟩ := HX.out.q_at HK.out
              cases hg2
              go_simp
              clear q0 q1 qf
              have hgr := grown_set (grown_set (World.grownBy.refl Wc17 (some gQ)) (cp * 2) (.slice A11 n11 c11)) (cp * 2 + 1) (.int .u64 o')
              replace HX := hid (show CX ((Wc17.setCell ⟨gQ, cp * 2, none⟩ (.slice A11 n11 c11)).setCell ⟨gQ, cp * 2 + 1, none⟩ (.int .u64 o')) _ _ _ _ _ _ _ _ _ _ from HX.out.put rfl HK.out ⟨l', o', A11, n11, c11⟩ HQN.out)
              replace PC := hid (PC.out.grown hgr (by have := hcq.out; simpa using this))
              replace PZ := hid (PZ.out.grown hgr (by have := hgQ.out; have := HGW.out; simp; omega))
              replace HG := hid (HG.out.thenG hgr (fun r e => by cases e; exact .inr (.inr (.inl ⟨_, rfl, rfl⟩))))
              clear hgr HQN
              generalize (Wc17.setCell ⟨gQ, cp * 2, none⟩ (.slice A11 n11 c11)).setCell ⟨gQ, cp * 2 + 1, none⟩ (.int .u64 o') = Wc19 at *
              have hS' : (fun W' : World => W'.cell? ⟨gc, 7, none⟩ = some (.slice (some ⟨gQ, 0, none⟩) nq kq) ∧ W'.cell? ⟨gc, 8, none⟩ = some (.int .i64 cp) ∧ W'.cell? ⟨gc, 10, none⟩ = some (.slice R nr kr) ∧ W'.cell? ⟨gz, 0, none⟩ = some (.slice A11 n11 c11) ∧ W'.cell? ⟨gz, 1, none⟩ = some (.int .u64 o')) _ := ⟨PC.out.cells11.2.2.2.2.2.2.2.1, PC.out.cells11.2.2.2.2.2.2.2.2.1, PC.out.cells11.2.2.2.2.2.2.2.2.2.2.1, PZ.out.cells2.1, PZ.out.cells2.2.1⟩
              refine hK.out _ _ hS' ?_
              clear hK K hS
              have hS := hS'
              clear hS'
              (try simp only [Act.put, List.setIfInBounds_toArray, List.set_cons_zero, List.set_cons_succ])
              refine wpAnyT_done (by kernel_rfl) ?_
              simp only [List.drop_succ_cons, List.drop_zero]
              clear hS
              obtain ⟨y0, y1, y2, y3, y4, y5, y6, y7, y8, y9, y10, yf⟩ := PC.out.cells11
              go_wp2_with fail
              refine NoPanic.normal ?_
              clear y0 y1 y2 y3 y4 y5 y6 y7 y8 y9 y10 yf
              (try go_end0)
              have hgr := grown_set (World.grownBy.refl Wc19 (some gc)) 10 (.slice A17 (nr + 1) c17)
              refine ⟨rfl, ⟨A17, c17, A11, n11, c11, (HX.out.boxed PC.out hgr).ca (PC.out.setCell 10 _)⟩, HG.out.thenG hgr (fun r e => by cases e; exact .inr (.inl rfl))⟩
            exact AllReadyT.nil
          exact AllReadyT.nil
        exact AllReadyT.nil
      exact AllReadyH.nil
    exact AllReadyH.nil
  exact AllReadyH.nil
set_option maxRecDepth 100000 in
set_option maxHeartbeats 8000000 in
theorem rrun_no (l gc : Nat) (s : St) (g : Gr) (es : List Qe) (cp : Nat) (what : Int) (ran : List Int) (a : Ra) (R : Option Addr) (nr kr : Nat) (w : World) (h : CA w l gc s g es cp what ran a R nr kr) (hk : cp < a.nq) (hnq : a.nq ≤ 1000) (x : Qe) (hx : es[cp]?.getD zQe = x) (cd : Int) (ht : takeF x.o x.l = (0, [], 0, cd)) (hcd : cd ≠ 0) :
    Calls Try.prog 41 #[ptr gc] w fun x' w' => x' = leaves cd ∧ Below w.heap.size w w' := by
  have HLN := hid (show ([] : List Cb).length ≤ 1000 by simp); have HON := hid (show (0 : Int) ≤ 0 ∧ (0 : Int) ≤ 18446744073709551615 by omega)
  have HCD := hid hcd
  clear hcd
  obtain ⟨A, n, k, B, m, d, D, kd, Q, nq, kq⟩ := a
  obtain ⟨now, ns, os⟩ := s
  have hk : cp < nq := hk
  have hnq : nq ≤ 1000 := hnq
  have HB := hid (Below.refl w.heap.size w); have HX := hid h.cx; have PC := hid h.box
  obtain ⟨gQ, hQ, _, _, _, hmem⟩ := h.q_at hk
  have hQ : Q = some ⟨gQ, 0, none⟩ := hQ
  rw [hx] at hmem
  have HM := hid hmem; have HXX := hid hx; have HK := hid hk; have HLT := hid h.cx.lts; have HT := hid ht; have HQE := hid (h.qe x hmem); have hlw := hid (show gc < w.heap.size from h.box.lt)
  have HRL := hid (show ∀ b, R = some b → b.block < w.heap.size from fun b hb => by obtain ⟨_, cs, q⟩ := h.rn.blk b hb; exact q.lt)
  have hki : (cp : Int) < (nq : Int) := by omega
  clear h hk hx hmem ht
  subst hQ
  obtain ⟨xl, xo, xA, xn, xc⟩ := x
  dsimp only at HT HQE HM HXX
  have hgQ := hid (show gQ < w.heap.size from HLT.out.1 _ rfl)
  have hcq := hid (show gc ≠ gQ from fun e => HX.out.qs.ne_blk PC.out (by decide) _ rfl e.symm)
  go_enter Try.func41, Try.ntmps41
  go_upto_region 0 with fail
  have bx := (Below.refl w.heap.size w).drew
  replace HX := hid (HX.out.step bx); replace PC := hid (PC.out.step bx); replace HB := hid (below_then HB.out bx)
  clear bx
  have hszd := hid (show w.drew.heap.size = w.heap.size from rfl)
  refine wp_region_noPanic ?_
  refine wp_region_held_drew (S := (fun W' : World => W'.cell? ⟨gc, 7, none⟩ = some (.slice (some ⟨gQ, 0, none⟩) nq kq) ∧ W'.cell? ⟨gc, 8, none⟩ = some (.int .i64 cp) ∧ W'.cell? ⟨gQ, cp * 2, none⟩ = some (.slice xA xn xc) ∧ W'.cell? ⟨gQ, cp * 2 + 1, none⟩ = some (.int .u64 xo))) (by kernel_rfl) ⟨PC.out.cells11.2.2.2.2.2.2.2.1, PC.out.cells11.2.2.2.2.2.2.2.2.1, (HX.out.q0 rfl HK.out HXX.out), (HX.out.q1 rfl HK.out HXX.out)⟩ (fun hS => ?_)
  generalize w.drew = Wd at *
  refine wpAnyH_take (i := 0) (v := ?_) (by simp only [List.getElem?_toArray, List.getElem?_cons_succ, List.getElem?_cons_zero]; rfl) (by kernel_rfl) (by kernel_rfl) (by kernel_rfl) (fun _ _ _ h => h) (Or.inl ⟨by rfl, ?_⟩) hS ?_
  rotate_left
  · intro w' hSw; (try dsimp only at hSw); go_split_ands; go_simp; (try with_reducible rfl)
  (try simp only [Act.put, List.setIfInBounds_toArray, List.set_cons_zero, List.set_cons_succ])
  refine wpAnyH_take (i := 1) (v := ?_) (by simp only [List.getElem?_toArray, List.getElem?_cons_succ, List.getElem?_cons_zero]; rfl) (by kernel_rfl) (by kernel_rfl) (by kernel_rfl) (fun _ _ _ h => h) (Or.inl ⟨by rfl, ?_⟩) hS ?_
  rotate_left
  · intro w' hSw; (try dsimp only at hSw); go_split_ands; go_simp; (try with_reducible rfl)
  (try simp only [Act.put, List.setIfInBounds_toArray, List.set_cons_zero, List.set_cons_succ])
  refine wpAnyH_take (i := 2) (v := ?_) (by simp only [List.getElem?_toArray, List.getElem?_cons_succ, List.getElem?_cons_zero]; rfl) (by kernel_rfl) (by kernel_rfl) (by kernel_rfl) (fun _ _ _ h => h) (Or.inl ⟨by rfl, ?_⟩) hS ?_
  rotate_left
  · intro w' hSw; (try dsimp only at hSw); go_split_ands; go_simp; (try with_reducible rfl)
  (try simp only [Act.put, List.setIfInBounds_toArray, List.set_cons_zero, List.set_cons_succ])
  refine wpAnyH_take (i := 3) (v := ?_) (by simp only [List.getElem?_toArray, List.getElem?_cons_succ, List.getElem?_cons_zero]; rfl) (by kernel_rfl) (by kernel_rfl) (by kernel_rfl) (fun _ _ _ h => h) (Or.inl ⟨by rfl, ?_⟩) hS ?_
  rotate_left
  · intro w' hSw; (try dsimp only at hSw); go_split_ands; go_simp; (try with_reducible rfl)
  (try simp only [Act.put, List.setIfInBounds_toArray, List.set_cons_zero, List.set_cons_succ])
  refine wpAnyH_take (i := 4) (v := ?_) (by simp only [List.getElem?_toArray, List.getElem?_cons_succ, List.getElem?_cons_zero]; rfl) (by kernel_rfl) (by kernel_rfl) (by kernel_rfl) (fun _ _ _ h => h) (Or.inl ⟨by rfl, ?_⟩) hS ?_
  rotate_left
  · intro w' hSw; (try dsimp only at hSw); go_split_ands; go_simp; (try with_reducible rfl)
  (try simp only [Act.put, List.setIfInBounds_toArray, List.set_cons_zero, List.set_cons_succ])
  refine wpAnyH_take (i := 5) (v := ?_) (by simp only [List.getElem?_toArray, List.getElem?_cons_succ, List.getElem?_cons_zero]; rfl) (by kernel_rfl) (by kernel_rfl) (by kernel_rfl) (fun _ _ _ h => h) (Or.inl ⟨by rfl, ?_⟩) hS ?_
  rotate_left
  · intro w' hSw; (try dsimp only at hSw); go_split_ands; go_simp; (try with_reducible rfl)
  (try simp only [Act.put, List.setIfInBounds_toArray, List.set_cons_zero, List.set_cons_succ])
  refine wpAnyH_take (i := 6) (v := ?_) (by simp only [List.getElem?_toArray, List.getElem?_cons_succ, List.getElem?_cons_zero]; rfl) (by kernel_rfl) (by kernel_rfl) (by kernel_rfl) (fun _ _ _ h => h) (Or.inl ⟨by rfl, ?_⟩) hS ?_
  rotate_left
  · intro w' hSw; (try dsimp only at hSw); go_split_ands; go_simp; (try with_reducible rfl)
  (try simp only [Act.put, List.setIfInBounds_toArray, List.set_cons_zero, List.set_cons_succ])
  refine wpAnyH_take (i := 7) (v := ?_) (by simp only [List.getElem?_toArray, List.getElem?_cons_succ, List.getElem?_cons_zero]; rfl) (by kernel_rfl) (by kernel_rfl) (by kernel_rfl) (fun _ _ _ h => h) (Or.inl ⟨by rfl, ?_⟩) hS ?_
  rotate_left
  · intro w' hSw; (try dsimp only at hSw); go_split_ands; go_simp; (try with_reducible rfl)
  (try simp only [Act.put, List.setIfInBounds_toArray, List.set_cons_zero, List.set_cons_succ])
  refine wpAnyH_take (i := 8) (v := ?_) (by simp only [List.getElem?_toArray, List.getElem?_cons_succ, List.getElem?_cons_zero]; rfl) (by kernel_rfl) (by kernel_rfl) (by kernel_rfl) (fun _ _ _ h => h) (Or.inl ⟨by rfl, ?_⟩) hS ?_
  rotate_left
  · intro w' hSw; (try dsimp only at hSw); go_split_ands; go_simp; (try with_reducible rfl)
  (try simp only [Act.put, List.setIfInBounds_toArray, List.set_cons_zero, List.set_cons_succ])
  refine wpAnyH_take (i := 9) (v := ?_) (by simp only [List.getElem?_toArray, List.getElem?_cons_succ, List.getElem?_cons_zero]; rfl) (by kernel_rfl) (by kernel_rfl) (by kernel_rfl) (fun _ _ _ h => h) (Or.inl ⟨by rfl, ?_⟩) hS ?_
  rotate_left
  · intro w' hSw; (try dsimp only at hSw); go_split_ands; go_simp; (try with_reducible rfl)
  (try simp only [Act.put, List.setIfInBounds_toArray, List.set_cons_zero, List.set_cons_succ])
  refine wpAnyH_take (i := 10) (v := ?_) (by simp only [List.getElem?_toArray, List.getElem?_cons_succ, List.getElem?_cons_zero]; rfl) (by kernel_rfl) (by kernel_rfl) (by kernel_rfl) (fun _ _ _ h => h) (Or.inl ⟨by rfl, ?_⟩) hS ?_
  rotate_left
  · intro w' hSw; (try dsimp only at hSw); go_split_ands; go_simp; (try with_reducible rfl)
  (try simp only [Act.put, List.setIfInBounds_toArray, List.set_cons_zero, List.set_cons_succ])
  refine wpAnyH_ready (rs := [11, 16]) (by kernel_rfl) (by simp) ?_
  refine AllReadyH.cons (by simp only [List.getElem?_toArray, List.getElem?_cons_succ, List.getElem?_cons_zero]; rfl) (fun K hK => ?_) ?_
  · skip
    go_simp
    refine ((show Calls Try.prog 65 #[qv xA xn xc xo] _ (TkPost _ (0, [], 0, cd)) from HT.out ▸ qtake_any xA xn xc xo xl _ (HX.out.qsm HM.out) (by have := HQE.out.2.2.1; dsimp only at this; omega) HQE.out.2.2.2.1.1)).mono ?_
    rintro e w11 ⟨A11, n11, c11, rfl, hqo, hb, hnc⟩
    have hsz0 := hid (show Wd.heap.size ≤ w11.heap.size from hb.size)
    replace HX := hid (HX.out.step hb); replace PC := hid (PC.out.step hb); replace HB := hid (below_then HB.out hb)
    clear hb
    have QT := hid hqo; have HNC := hid hnc; have HLO := hid (show w.heap.size ≤ Wd.heap.size by have := hszd.out; omega)
    clear hqo hnc
    have HQN := hid (show QeO w11 l (CS gc (some ⟨gQ, 0, none⟩) R) ⟨[], 0, A11, n11, c11⟩ from QeO.fresh QT.out (by have := HX.out.lg; have := hlw.out; have := HLO.out; omega) HNC.out (by have h7 := QT.out.sm.len; have := HLN.out; dsimp only at h7 ⊢; omega) HON.out (by have := hlw.out; have := HLO.out; omega) (fun b hb => by cases hb; have := hgQ.out; have := HLO.out; dsimp only; omega) (fun b hb => by have := HRL.out b hb; have := HLO.out; omega))
    clear QT HNC
    go_wp2_with fail
    refine hK.out _ _ ⟨PC.out.cells11.2.2.2.2.2.2.2.1, PC.out.cells11.2.2.2.2.2.2.2.2.1, (HX.out.q0 rfl HK.out HXX.out), (HX.out.q1 rfl HK.out HXX.out)⟩ (fun hS' => ?_)
    clear hK K hS
    have hS := hS'
    clear hS'
    (try simp only [Act.put, List.setIfInBounds_toArray, List.set_cons_zero, List.set_cons_succ])
    refine wpAnyH_take (i := 12) (v := ?_) (by simp only [List.getElem?_toArray, List.getElem?_cons_succ, List.getElem?_cons_zero]; rfl) (by kernel_rfl) (by kernel_rfl) (by kernel_rfl) (fun _ _ _ h => h) (Or.inl ⟨by rfl, ?_⟩) hS ?_
    rotate_left
    · intro w' hSw; (try dsimp only at hSw); go_split_ands; go_simp; (try with_reducible rfl)
    (try simp only [Act.put, List.setIfInBounds_toArray, List.set_cons_zero, List.set_cons_succ])
    refine wpAnyH_take (i := 13) (v := ?_) (by simp only [List.getElem?_toArray, List.getElem?_cons_succ, List.getElem?_cons_zero]; rfl) (by kernel_rfl) (by kernel_rfl) (by kernel_rfl) (fun _ _ _ h => h) (Or.inl ⟨by rfl, ?_⟩) hS ?_
    rotate_left
    · intro w' hSw; (try dsimp only at hSw); go_split_ands; go_simp; (try with_reducible rfl)
    (try simp only [Act.put, List.setIfInBounds_toArray, List.set_cons_zero, List.set_cons_succ])
    refine wpAnyH_take (i := 14) (v := ?_) (by simp only [List.getElem?_toArray, List.getElem?_cons_succ, List.getElem?_cons_zero]; rfl) (by kernel_rfl) (by kernel_rfl) (by kernel_rfl) (fun _ _ _ h => h) (Or.inl ⟨by rfl, ?_⟩) hS ?_
    rotate_left
    · intro w' hSw; (try dsimp only at hSw); go_split_ands; go_simp; (try with_reducible rfl)
    (try simp only [Act.put, List.setIfInBounds_toArray, List.set_cons_zero, List.set_cons_succ])
    refine wpAnyH_take (i := 15) (v := ?_) (by simp only [List.getElem?_toArray, List.getElem?_cons_succ, List.getElem?_cons_zero]; rfl) (by kernel_rfl) (by kernel_rfl) (by kernel_rfl) (fun _ _ _ h => h) (Or.inl ⟨by rfl, ?_⟩) hS ?_
    rotate_left
    · intro w' hSw; (try dsimp only at hSw); go_split_ands; go_simp; (try with_reducible rfl)
    (try simp only [Act.put, List.setIfInBounds_toArray, List.set_cons_zero, List.set_cons_succ])
    refine wpAnyH_ready (rs := [16]) (by kernel_rfl) (by simp) ?_
    refine AllReadyH.cons (by simp only [List.getElem?_toArray, List.getElem?_cons_succ, List.getElem?_cons_zero]; rfl) (fun K hK => ?_) ?_
    · skip
      go_simp
      refine named_alloc ?_
      intro Wa16 hbk hb hsz
      have hsz1 := hid hsz
      obtain ⟨gz, hgz⟩ : ∃ z, z = w11.heap.size := ⟨_, rfl⟩
      have HGZ := hid (show gz < Wa16.heap.size by omega)
      have HGW := hid (show w.heap.size ≤ gz by have := hszd.out; have := hsz0.out; have := hsz1.out; omega)
      rw [← hgz] at hbk ⊢
      have NE := hid (show 0 < n11 → ∀ b, A11 = some b → b.block ≠ gz from fun hn b hb2 e => by obtain ⟨b', off, e1, _, h4, _⟩ := HQN.out.1.sm.row hn; rw [hb2] at e1; cases e1; dsimp only at e; omega)
      clear hgz
      replace HX := hid (HX.out.step hb); replace PC := hid (PC.out.step hb); replace HQN := hid (HQN.out.step hb); replace HB := hid (below_then HB.out hb)
      have PZ := hid hbk
      clear hb hbk hsz
      refine hK.out _ _ ⟨PC.out.cells11.2.2.2.2.2.2.2.1, PC.out.cells11.2.2.2.2.2.2.2.2.1, (HX.out.q0 rfl HK.out HXX.out), (HX.out.q1 rfl HK.out HXX.out)⟩ (fun hS' => ?_)
      clear hK K hS
      have hS := hS'
      clear hS'
      (try simp only [Act.put, List.setIfInBounds_toArray, List.set_cons_zero, List.set_cons_succ])
      refine wpAnyH_ready (rs := [17]) (by kernel_rfl) (by simp) ?_
      refine AllReadyH.cons (by simp only [List.getElem?_toArray, List.getElem?_cons_succ, List.getElem?_cons_zero]; rfl) (fun K hK => ?_) ?_
      · skip
        obtain ⟨y00, y01, yf0⟩ := PZ.out.cells2
        go_simp
        clear y00 y01 yf0
        refine named_store2 PZ.out ?_
        intro Ws17 hbk hgr hsz
        have hsz2 := hid hsz
        clear hsz
        have HB0 := hid (HB.out.grown hgr HB.out.size (fun r e => by cases e; exact HGW.out))
        replace HX := hid (HX.out.turn PZ.out (by decide) (by decide) (by decide) (fun b hb => by have := HLT.out.1 b hb; have := HGW.out; omega) (fun y hy hn b hb => by have := HLT.out.2 y hy hn b hb; have := HGW.out; omega) hgr)
        replace PC := hid (PC.out.grown hgr (by have := hlw.out; have := HGW.out; simp; omega))
        replace HQN := hid (show QeO Ws17 l (CS gc (some ⟨gQ, 0, none⟩) R) _ from ⟨HQN.out.1.keptP (GrownP.ofGrown (p := fun i => i = gz) hgr rfl) (fun hn b hb e => NE.out hn b hb e), HQN.out.2⟩)
        replace HB := HB0
        clear HB0 NE
        replace PZ := hid hbk
        clear hbk hgr
        refine hK.out _ _ ⟨PC.out.cells11.2.2.2.2.2.2.2.1, PC.out.cells11.2.2.2.2.2.2.2.2.1, (HX.out.q0 rfl HK.out HXX.out), (HX.out.q1 rfl HK.out HXX.out)⟩ (fun hS' => ?_)
        clear hK K hS
        have hS := hS'
        clear hS'
        (try simp only [Act.put, List.setIfInBounds_toArray, List.set_cons_zero, List.set_cons_succ])
        refine wpAnyH_take (i := 18) (v := ?_) (by simp only [List.getElem?_toArray, List.getElem?_cons_succ, List.getElem?_cons_zero]; rfl) (by kernel_rfl) (by kernel_rfl) (by kernel_rfl) (fun _ _ _ h => h) (Or.inl ⟨by rfl, ?_⟩) hS ?_
        rotate_left
        · intro w' hSw; (try dsimp only at hSw); go_split_ands; go_simp; (try with_reducible rfl)
        (try simp only [Act.put, List.setIfInBounds_toArray, List.set_cons_zero, List.set_cons_succ])
        refine wpAnyH_take (i := 19) (v := ?_) (by simp only [List.getElem?_toArray, List.getElem?_cons_succ, List.getElem?_cons_zero]; rfl) (by kernel_rfl) (by kernel_rfl) (by kernel_rfl) (fun _ _ _ h => h) (Or.inl ⟨by rfl, ?_⟩) hS ?_
        rotate_left
        · intro w' hSw; (try dsimp only at hSw); go_split_ands; go_simp; (try with_reducible rfl)
        (try simp only [Act.put, List.setIfInBounds_toArray, List.set_cons_zero, List.set_cons_succ])
        refine wpAnyH_done (by kernel_rfl) ?_ _
        refine NoPanic.normal ?_
        clear hS
        obtain ⟨y00, y01, yf0⟩ := PZ.out.cells2
        have d1 : (cd == 0) = false := by have := HCD.out; simpa using this
        go_wp2_with fail
        clear y00 y01 yf0
        refine (rneed_no cd _).mono ?_
        rintro e v1 ⟨rfl, rfl⟩
        unfold leaves
        go_wp2_with fail
        exact ⟨rfl, rfl, HB.out⟩
      exact AllReadyH.nil
    exact AllReadyH.nil
  refine AllReadyH.cons (by simp only [List.getElem?_toArray, List.getElem?_cons_succ, List.getElem?_cons_zero]; rfl) (fun K hK => ?_) ?_
  · skip
    go_simp
    refine named_alloc ?_
    intro Wa16 hbk hb hsz
    have hsz0 := hid hsz
    obtain ⟨gz, hgz⟩ : ∃ z, z = Wd.heap.size := ⟨_, rfl⟩
    have HGZ := hid (show gz < Wa16.heap.size by omega)
    have HGW := hid (show w.heap.size ≤ gz by have := hszd.out; have := hsz0.out; omega)
    rw [← hgz] at hbk ⊢
    clear hgz
    replace HX := hid (HX.out.step hb); replace PC := hid (PC.out.step hb); replace HB := hid (below_then HB.out hb)
    have PZ := hid hbk
    clear hb hbk hsz
    refine hK.out _ _ ⟨PC.out.cells11.2.2.2.2.2.2.2.1, PC.out.cells11.2.2.2.2.2.2.2.2.1, (HX.out.q0 rfl HK.out HXX.out), (HX.out.q1 rfl HK.out HXX.out)⟩ (fun hS' => ?_)
    clear hK K hS
    have hS := hS'
    clear hS'
    (try simp only [Act.put, List.setIfInBounds_toArray, List.set_cons_zero, List.set_cons_succ])
    refine wpAnyH_ready (rs := [11]) (by kernel_rfl) (by simp) ?_
    refine AllReadyH.cons (by simp only [List.getElem?_toArray, List.getElem?_cons_succ, List.getElem?_cons_zero]; rfl) (fun K hK => ?_) ?_
    · skip
      go_simp
      refine ((show Calls Try.prog 65 #[qv xA xn xc xo] _ (TkPost _ (0, [], 0, cd)) from HT.out ▸ qtake_any xA xn xc xo xl _ (HX.out.qsm HM.out) (by have := HQE.out.2.2.1; dsimp only at this; omega) HQE.out.2.2.2.1.1)).mono ?_
      rintro e w11 ⟨A11, n11, c11, rfl, hqo, hb, hnc⟩
      have hsz1 := hid (show Wa16.heap.size ≤ w11.heap.size from hb.size)
      replace HX := hid (HX.out.step hb); replace PC := hid (PC.out.step hb); replace PZ := hid (PZ.out.step hb); replace HB := hid (below_then HB.out hb)
      clear hb
      have QT := hid hqo; have HNC := hid hnc; have HLO := hid (show w.heap.size ≤ Wa16.heap.size by have := hszd.out; have := hsz0.out; omega)
      clear hqo hnc
      have NE := hid (show 0 < n11 → ∀ b, A11 = some b → b.block ≠ gz from fun hn b hb2 e => by obtain ⟨b', off, e1, h4, _, _⟩ := QT.out.sm.row hn; rw [hb2] at e1; cases e1; have := HGZ.out; dsimp only at e; omega)
      have HQN := hid (show QeO w11 l (CS gc (some ⟨gQ, 0, none⟩) R) ⟨[], 0, A11, n11, c11⟩ from QeO.fresh QT.out (by have := HX.out.lg; have := hlw.out; have := HLO.out; omega) HNC.out (by have h7 := QT.out.sm.len; have := HLN.out; dsimp only at h7 ⊢; omega) HON.out (by have := hlw.out; have := HLO.out; omega) (fun b hb => by cases hb; have := hgQ.out; have := HLO.out; dsimp only; omega) (fun b hb => by have := HRL.out b hb; have := HLO.out; omega))
      clear QT HNC
      go_wp2_with fail
      refine hK.out _ _ ⟨PC.out.cells11.2.2.2.2.2.2.2.1, PC.out.cells11.2.2.2.2.2.2.2.2.1, (HX.out.q0 rfl HK.out HXX.out), (HX.out.q1 rfl HK.out HXX.out)⟩ (fun hS' => ?_)
      clear hK K hS
      have hS := hS'
      clear hS'
      (try simp only [Act.put, List.setIfInBounds_toArray, List.set_cons_zero, List.set_cons_succ])
      refine wpAnyH_take (i := 12) (v := ?_) (by simp only [List.getElem?_toArray, List.getElem?_cons_succ, List.getElem?_cons_zero]; rfl) (by kernel_rfl) (by kernel_rfl) (by kernel_rfl) (fun _ _ _ h => h) (Or.inl ⟨by rfl, ?_⟩) hS ?_
      rotate_left
      · intro w' hSw; (try dsimp only at hSw); go_split_ands; go_simp; (try with_reducible rfl)
      (try simp only [Act.put, List.setIfInBounds_toArray, List.set_cons_zero, List.set_cons_succ])
      refine wpAnyH_take (i := 13) (v := ?_) (by simp only [List.getElem?_toArray, List.getElem?_cons_succ, List.getElem?_cons_zero]; rfl) (by kernel_rfl) (by kernel_rfl) (by kernel_rfl) (fun _ _ _ h => h) (Or.inl ⟨by rfl, ?_⟩) hS ?_
      rotate_left
      · intro w' hSw; (try dsimp only at hSw); go_split_ands; go_simp; (try with_reducible rfl)
      (try simp only [Act.put, List.setIfInBounds_toArray, List.set_cons_zero, List.set_cons_succ])
      refine wpAnyH_take (i := 14) (v := ?_) (by simp only [List.getElem?_toArray, List.getElem?_cons_succ, List.getElem?_cons_zero]; rfl) (by kernel_rfl) (by kernel_rfl) (by kernel_rfl) (fun _ _ _ h => h) (Or.inl ⟨by rfl, ?_⟩) hS ?_
      rotate_left
      · intro w' hSw; (try dsimp only at hSw); go_split_ands; go_simp; (try with_reducible rfl)
      (try simp only [Act.put, List.setIfInBounds_toArray, List.set_cons_zero, List.set_cons_succ])
      refine wpAnyH_take (i := 15) (v := ?_) (by simp only [List.getElem?_toArray, List.getElem?_cons_succ, List.getElem?_cons_zero]; rfl) (by kernel_rfl) (by kernel_rfl) (by kernel_rfl) (fun _ _ _ h => h) (Or.inl ⟨by rfl, ?_⟩) hS ?_
      rotate_left
      · intro w' hSw; (try dsimp only at hSw); go_split_ands; go_simp; (try with_reducible rfl)
      (try simp only [Act.put, List.setIfInBounds_toArray, List.set_cons_zero, List.set_cons_succ])
      refine wpAnyH_ready (rs := [17]) (by kernel_rfl) (by simp) ?_
      refine AllReadyH.cons (by simp only [List.getElem?_toArray, List.getElem?_cons_succ, List.getElem?_cons_zero]; rfl) (fun K hK => ?_) ?_
      · skip
        obtain ⟨y00, y01, yf0⟩ := PZ.out.cells2
        go_simp
        clear y00 y01 yf0
        refine named_store2 PZ.out ?_
        intro Ws17 hbk hgr hsz
        have hsz2 := hid hsz
        clear hsz
        have HB0 := hid (HB.out.grown hgr HB.out.size (fun r e => by cases e; exact HGW.out))
        replace HX := hid (HX.out.turn PZ.out (by decide) (by decide) (by decide) (fun b hb => by have := HLT.out.1 b hb; have := HGW.out; omega) (fun y hy hn b hb => by have := HLT.out.2 y hy hn b hb; have := HGW.out; omega) hgr)
        replace PC := hid (PC.out.grown hgr (by have := hlw.out; have := HGW.out; simp; omega))
        replace HQN := hid (show QeO Ws17 l (CS gc (some ⟨gQ, 0, none⟩) R) _ from ⟨HQN.out.1.keptP (GrownP.ofGrown (p := fun i => i = gz) hgr rfl) (fun hn b hb e => NE.out hn b hb e), HQN.out.2⟩)
        replace HB := HB0
        clear HB0 NE
        replace PZ := hid hbk
        clear hbk hgr
        refine hK.out _ _ ⟨PC.out.cells11.2.2.2.2.2.2.2.1, PC.out.cells11.2.2.2.2.2.2.2.2.1, (HX.out.q0 rfl HK.out HXX.out), (HX.out.q1 rfl HK.out HXX.out)⟩ (fun hS' => ?_)
        clear hK K hS
        have hS := hS'
        clear hS'
        (try simp only [Act.put, List.setIfInBounds_toArray, List.set_cons_zero, List.set_cons_succ])
        refine wpAnyH_take (i := 18) (v := ?_) (by simp only [List.getElem?_toArray, List.getElem?_cons_succ, List.getElem?_cons_zero]; rfl) (by kernel_rfl) (by kernel_rfl) (by kernel_rfl) (fun _ _ _ h => h) (Or.inl ⟨by rfl, ?_⟩) hS ?_
        rotate_left
        · intro w' hSw; (try dsimp only at hSw); go_split_ands; go_simp; (try with_reducible rfl)
        (try simp only [Act.put, List.setIfInBounds_toArray, List.set_cons_zero, List.set_cons_succ])
        refine wpAnyH_take (i := 19) (v := ?_) (by simp only [List.getElem?_toArray, List.getElem?_cons_succ, List.getElem?_cons_zero]; rfl) (by kernel_rfl) (by kernel_rfl) (by kernel_rfl) (fun _ _ _ h => h) (Or.inl ⟨by rfl, ?_⟩) hS ?_
        rotate_left
        · intro w' hSw; (try dsimp only at hSw); go_split_ands; go_simp; (try with_reducible rfl)
        (try simp only [Act.put, List.setIfInBounds_toArray, List.set_cons_zero, List.set_cons_succ])
        refine wpAnyH_done (by kernel_rfl) ?_ _
        refine NoPanic.normal ?_
        clear hS
        obtain ⟨y00, y01, yf0⟩ := PZ.out.cells2
        have d1 : (cd == 0) = false := by have := HCD.out; simpa using this
        go_wp2_with fail
        clear y00 y01 yf0
        refine (rneed_no cd _).mono ?_
        rintro e v1 ⟨rfl, rfl⟩
        unfold leaves
        go_wp2_with fail
        exact ⟨rfl, rfl, HB.out⟩
      exact AllReadyH.nil
    exact AllReadyH.nil
  exact AllReadyH.nil
end Go.Proofs.Ytfipdoofgbjbjaa
