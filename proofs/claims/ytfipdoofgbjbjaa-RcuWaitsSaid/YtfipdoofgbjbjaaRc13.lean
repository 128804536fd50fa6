/- package rcu: Step. No condition but sizes, and that numbers are of their kinds. -/
import Derived.Test.YtfipdoofgbjbjaaRc11
import Derived.Test.YtfipdoofgbjbjaaRc12
namespace Go.Proofs.Ytfipdoofgbjbjaa
open Go.RowKit
attribute [local go_sem] Oper.semAt_some
section
variable {w w' : World} {l l' gc : Nat} {s : St} {g : Gr} {es : List Qe} {is what : Int} {ran : List Int} {a : Ra} {R : Option Addr} {nr kr : Nat}
theorem CX.mono (h : CX w l gc s g es ran a R nr kr) (hl : l' ≤ l) : CX w l' gc s g es ran a R nr kr :=
  ⟨h.ro.mono hl, h.gd.mono hl, h.qs.mono hl, h.rn.mono hl, fun x hx => ⟨(h.qe x hx).1.mono hl, (h.qe x hx).2⟩, Nat.le_trans hl h.lg⟩
theorem Rown.setCell' {n k m d : Nat} {A B : Option Addr} {ns os : List Int} (h : Rown w l A n k B m d ns os) {p : Addr} (hp : p.block < l) (u : Value) : Rown (w.setCell p u) l A n k B m d ns os :=
  ⟨h.oa.setCell hp u, h.ob.setCell hp u, h.apart, h.hn, h.hm⟩
theorem CX.setCell (h : CX w l gc s g es ran a R nr kr) {p : Addr} (hp : p.block < l) (u : Value) : CX (w.setCell p u) l gc s g es ran a R nr kr :=
  ⟨h.ro.setCell' hp u, h.gd.setCell hp u, h.qs.setCell hp u, h.rn.setCell hp u, fun x hx => ⟨(h.qe x hx).1.setCell hp u, (h.qe x hx).2⟩, h.lg⟩
/-- a block below it is turned -/
theorem CX.low (h : CX w l gc s g es ran a R nr kr) {q : Nat} (hq : q < l) (hg : w.grownBy w' (some q)) : CX w' l gc s g es ran a R nr kr :=
  ⟨⟨h.ro.oa.keptG hg (fun b hb e => by have := (h.ro.oa.blk b hb).1; have := Option.some.inj e; omega), h.ro.ob.keptG hg (fun b hb e => by have := (h.ro.ob.blk b hb).1; have := Option.some.inj e; omega), h.ro.apart, h.ro.hn, h.ro.hm⟩,
   h.gd.keptG hg (fun b hb e => by have := (h.gd.blk b hb).1; have := Option.some.inj e; omega), h.qs.keptG hg (fun b hb e => by have := (h.qs.blk b hb).1; have := Option.some.inj e; omega),
   h.rn.keptG hg (fun b hb e => by have := (h.rn.blk b hb).1; have := Option.some.inj e; omega), fun x hx => by
    obtain ⟨k1, k2⟩ := h.qe x hx
    exact ⟨k1.keptP (GrownP.ofGrown (p := fun i => i = q) hg rfl) (fun hn b hb e => by
      obtain ⟨b', off, e2, h2, _⟩ := k1.sm.row hn
      rw [hb] at e2; cases e2; dsimp only at e; omega), k2⟩, h.lg⟩
/-- what a cpu holds, wherever it lies -/
def RAt (w : World) (l gc : Nat) (s : St) (g : Gr) (qs : Qs) (ran : List Int) : Prop :=
  ∃ a es is what R nr kr, ql es = qs ∧ CA w l gc s g es is what ran a R nr kr
theorem RAt.mono {qs : Qs} (h : RAt w l gc s g qs ran) (hl : l' ≤ l) : RAt w l' gc s g qs ran := by
  obtain ⟨a, es, is, what, R, nr, kr, h1, h2⟩ := h
  exact ⟨a, es, is, what, R, nr, kr, h1, (h2.cx.mono hl).ca h2.box⟩
theorem RAt.setCell {qs : Qs} (h : RAt w l gc s g qs ran) {p : Addr} (hp : p.block < l) (u : Value) : RAt (w.setCell p u) l gc s g qs ran := by
  obtain ⟨a, es, is, what, R, nr, kr, h1, h2⟩ := h
  have := h2.lg
  exact ⟨a, es, is, what, R, nr, kr, h1, (h2.cx.setCell hp u).ca (h2.box.far (by omega) u)⟩
theorem RAt.step {qs : Qs} (h : RAt w l gc s g qs ran) (hb : Below w.heap.size w w') : RAt w' l gc s g qs ran := by
  obtain ⟨a, es, is, what, R, nr, kr, h1, h2⟩ := h
  exact ⟨a, es, is, what, R, nr, kr, h1, h2.step hb⟩
/-- what a closure leaves behind -/
def RYes (r : Int × St × Gr × Qs × List Int) (l gb : Nat) (w : World) : Prop := r.1 = 0 ∧ RAt w l gb r.2.1 r.2.2.1 r.2.2.2.1 r.2.2.2.2
def RNo (r : Int × St × Gr × Qs × List Int) (c : Int) (_ : World) : Prop := c ≠ 0 ∧ r.1 = c
/-- what tries hands back -/
def TriedR (w : World) (r : Int × St × Gr × Qs × List Int) (x : Ending) (w' : World) : Prop :=
  ∃ gp, x = .returned (.tuple #[ptr gp, .int .i64 r.1]) ∧ Below w.heap.size w w' ∧ RAt w' w.heap.size gp r.2.1 r.2.2.1 r.2.2.2.1 r.2.2.2.2
theorem triedR {r : Int × St × Gr × Qs × List Int} {x : Ending} (hz : r.1 ≠ 0 → r.2 = ((0, [], []), zGr, [], [])) (h : RTried w (fun _ => False) (RYes r) (RNo r) x w') : TriedR w r x w' := by
  obtain ⟨hg, h⟩ := h
  rcases h with ⟨gb, rfl, l, hl, hgb, hc, h1⟩ | ⟨gn, cd, rfl, ⟨hc, hp⟩, hgn, hb⟩
  · exact ⟨gb, by rw [hc], hg.toBelow, h1.mono hl⟩
  · have e : r = (cd, (0, [], []), zGr, [], []) := by rw [← hz (by rw [hp]; exact hc), ← hp]
    rw [e]
    exact ⟨gn, rfl, hg.toBelow, ⟨none, 0, 0, none, 0, 0, none, 0, none, 0, 0⟩, [], 0, 0, none, 0, 0, rfl, hb, Rown.none _ _, Ow.nil _ _ _, Om.nil _ _ _, Ow.nil _ _ _, fun x hx => (by cases hx), hgn⟩
/-- what tries is given, behind a check -/
theorem tries_ca {a : Ra} {es1 : List Qe} (h : RcGood s g (ql es)) (hb : Blk w gc 79 (ccells s g a 0 0 none 0 0)) (ht : RcT w l s g es1 a) (hl : l ≤ gc) (hq : ql es1 = ql es) : CA w l gc s g es1 0 0 [] a none 0 0 ∧ RcGood s g (ql es1) := by
  have hg : RcGood s g (ql es1) := by rw [hq]; exact h
  refine ⟨ht.ca hb hl fun x hx => ?_, hg⟩
  have h1 := (hg.2.2 _ (ql_mem hx)).2.1
  have h2 := hg.1.2.1.small
  dsimp only at h1
  omega
end
/-- what Step hands back -/
def lastO (l : List Int) : Int := l[l.length - 1]?.getD 0
def RcV (w : World) (lo : Nat) (r : Int × St × Gr × Qs × List Int) (a : Ra) (R : Option Addr) (nr kr : Nat) : Prop := ∃ es gc, ql es = r.2.2.2.1 ∧ CX w lo gc r.2.1 r.2.2.1 es r.2.2.2.2 a R nr kr
def SpPost (w : World) (r : Int × St × Gr × Qs × List Int) (x : Ending) (w' : World) : Prop :=
  ∃ a R nr kr, x = .returned (.tuple #[rcv r.2.1 r.2.2.1 a, .int .u64 (lastO r.2.2.2.2), .int .i64 r.1]) ∧ RcV w' w.heap.size r a R nr kr ∧ Below w.heap.size w w'
def RnPost (w : World) (r : Int × St × Gr × Qs × List Int) (x : Ending) (w' : World) : Prop :=
  ∃ a R nr kr, x = .returned (.tuple #[rcv r.2.1 r.2.2.1 a, .slice R nr kr, .int .i64 r.1]) ∧ RcV w' w.heap.size r a R nr kr ∧ Below w.heap.size w w'
@[reducible] def ocs (o : Int × Int × Int) : Array Value := #[.int .i64 o.1, .int .i64 o.2.1, .int .u64 o.2.2]
set_option maxRecDepth 100000 in
set_option maxHeartbeats 2000000 in
theorem rstep1_any (l gc bo : Nat) (s : St) (g : Gr) (es : List Qe) (a : Ra) (o : Int × Int × Int) (w : World) (h : CA w l gc s g es 0 0 [] a none 0 0) (hg : RcGood s g (ql es)) (hP : Blk w bo 44 (ocs o)) :
    Calls Try.prog 29 #[ptr gc, ptr bo] w fun x w' => GrownP (fun i => l ≤ i) w w' ∧ ((x = .returned (.tuple #[]) ∧ RYes (opsA s g (ql es) [] [o]) l gc w') ∨ ∃ c, x = leaves c ∧ RNo (opsA s g (ql es) [] [o]) c w') := by
  obtain ⟨ok, oc, ow⟩ := o
  have HC := hid h; have HG := hid hg
  obtain ⟨y0, y1, y2, yf⟩ := hP.cells3
  clear h hg
  go_enter Try.func29, Try.ntmps29
  go_wp2_with fail
  clear y0 y1 y2 yf
  refine (rdoes_any l gc s g es 0 0 [] a none 0 0 (ok, oc, ow) w HC.out HG.out (by omega)).mono ?_
  rintro x w2 ⟨h1, ⟨h0, rfl, hx⟩ | ⟨h0, rfl⟩⟩
  · have HX := hid hx; have HGP := hid h1
    have HO := hid (show opsA s g (ql es) [] [(ok, oc, ow)] = (0, (opF s g (ql es) (ok, oc, ow)).2.1, (opF s g (ql es) (ok, oc, ow)).2.2.1, (opF s g (ql es) (ok, oc, ow)).2.2.2.1, [] ++ (opF s g (ql es) (ok, oc, ow)).2.2.2.2) from if_pos h0)
    clear hx h1 h0 HC HG hP
    go_wp2
    (try go_end0)
    rw [HO.out]
    obtain ⟨a', es', is', what', R', nr', kr', k1, k2, k3, k4, k5⟩ := HX.out
    exact ⟨HGP.out, .inl ⟨rfl, rfl, a', es', is', what', R', nr', kr', k4, k5⟩⟩
  · have HGP := hid h1; have H0 := hid h0
    have HO := hid (show (opsA s g (ql es) [] [(ok, oc, ow)]).1 = (opF s g (ql es) (ok, oc, ow)).1 by unfold opsA; rw [if_neg h0])
    clear h1 h0 HC HG hP
    unfold leaves
    go_wp2
    exact ⟨rfl, HGP.out, .inr ⟨_, rfl, H0.out, HO.out⟩⟩
set_option maxRecDepth 100000 in
set_option maxHeartbeats 4000000 in
theorem rstep_any (s : St) (g : Gr) (es : List Qe) (a : Ra) (o : Int × Int × Int) (w : World) (h : RcR w s g es a) :
    Calls Try.prog 9 #[rcv s g a, .agg (ocs o)] w (SpPost w (rcA s g es [o])) := by
  obtain ⟨r, hr⟩ : ∃ r, r = rcA s g es [o] := ⟨_, rfl⟩
  have HRR := hid hr
  have HZR := hid (show r.1 ≠ 0 → r.2 = ((0, [], []), zGr, [], []) from fun hz => by rw [hr] at hz ⊢; exact rcA_nz hz)
  have HLN := hid (show r.2.2.2.2.length ≤ 1 by rw [hr]; exact rcA_ran s g es [o])
  rw [← hr]
  have HR := hid h; have HB := hid (Below.refl w.heap.size w)
  clear h hr
  have hmf : ∀ (fn : Fn) (first cap : Array Value) (w : World), (Instr.makeFunc fn first cap).run Try.prog w = .ok (.func fn first cap) w := fun _ _ _ _ => rfl
  have bx := below_box w (.cells (rcells s g a) 30)
  replace HR := hid (HR.out.step bx); replace HB := hid (below_then HB.out bx)
  clear bx
  have PR := hid (Blk.new w 30 (rcells s g a))
  have bx := below_box (w.alloc (.cells (rcells s g a) 30)) (.cells (ocs o) 44)
  replace HR := hid (HR.out.step bx); replace PR := hid (PR.out.step bx); replace HB := hid (below_then HB.out bx)
  clear bx
  have PO := hid (Blk.new2 w 44 (ocs o) (.cells (rcells s g a) 30))
  have bx := below_box ((w.alloc (.cells (rcells s g a) 30)).alloc (.cells (ocs o) 44)) (.cells #[.int .i64 0, .slice none 0 0, .slice none 0 0, .int .i64 0, .int .i64 0, .bool false, .slice none 0 0, .slice none 0 0] 30)
  replace HR := hid (HR.out.step bx); replace PR := hid (PR.out.step bx); replace PO := hid (PO.out.step bx); replace HB := hid (below_then HB.out bx)
  clear bx
  have ZR := hid (Blk.new3 w 30 #[.int .i64 0, .slice none 0 0, .slice none 0 0, .int .i64 0, .int .i64 0, .bool false, .slice none 0 0, .slice none 0 0] (.cells (rcells s g a) 30) (.cells (ocs o) 44))
  go_enter Try.func9, Try.ntmps9
  obtain ⟨y00, y01, y02, y03, y04, y05, y06, y07, yf0⟩ := PR.out.cells8
  go_wp2_with fail
  clear y00 y01 y02 y03 y04 y05 y06 y07 yf0 hmf
  have hz0 := hid (show (((w.alloc (.cells (rcells s g a) 30)).alloc (.cells (ocs o) 44)).alloc (.cells #[.int .i64 0, .slice none 0 0, .slice none 0 0, .int .i64 0, .int .i64 0, .bool false, .slice none 0 0, .slice none 0 0] 30)).heap.size = w.heap.size + 3 by simp)
  generalize ((w.alloc (.cells (rcells s g a) 30)).alloc (.cells (ocs o) 44)).alloc (.cells #[.int .i64 0, .slice none 0 0, .slice none 0 0, .int .i64 0, .int .i64 0, .bool false, .slice none 0 0, .slice none 0 0] 30) = w1 at *
  refine (rtries_any s g es a 29 #[ptr (w.heap.size + 1)] (fun _ => False) (RYes r) (RNo r) w1 (fun _ h => h.elim) HR.out (enters_of Try.func29 (by kernel_rfl) rfl) ?_ ?_ ?_ ?_).mono ?_
  ·intro hn W _
   have e : r = (240, (0, [], []), zGr, [], []) := by rw [HRR.out]; exact if_neg hn
   rw [e]
   exact ⟨by decide, rfl⟩
  ·intro hok W l gc a1 es1 hl hgc hbW hbc hrt hql
   obtain ⟨hca, hgd⟩ := tries_ca (rcOk_iff.1 hok) hbc hrt hgc hql
   have e : r = opsA s g (ql es1) [] [o] := by rw [HRR.out, hql]; exact if_pos hok
   rw [e]
   refine (rstep1_any l gc (w.heap.size + 1) s g es1 a1 o W hca hgd (PO.out.step hbW)).mono ?_
   rintro x w2 ⟨hg2, hx⟩
   exact ⟨hg2.mono (fun i hi => .inr hi), hx⟩
  ·rintro l gb W p u ⟨hc, hba⟩ h1 h2
   exact ⟨hc, hba.setCell h2 u⟩
  ·exact fun c W W' h _ => h
  intro x w2 hx
  obtain ⟨gp, rfl, hb2, hra⟩ := triedR HZR.out hx
  clear hx
  have HRA := hid hra; have HRL := hid (show w1.heap.size ≤ gp by obtain ⟨_, _, _, _, _, _, _, _, h2⟩ := hra; exact h2.lg)
  clear hra HR PR PO
  replace ZR := hid (ZR.out.step hb2); replace HB := hid (below_then HB.out hb2)
  clear hb2 HRR HZR
  obtain ⟨rc, ⟨rnow, rns, ros⟩, rg, rqs, ran⟩ := r
  dsimp only at HRA HLN ⊢
  obtain ⟨b, es2, is, what, R, nr, kr, hq2, hca⟩ := HRA.out
  have HQ2 := hid hq2; have HX := hid hca.cx; have PC := hid hca.box; have hrl := hid (show ran.length = nr from hca.rn.len)
  clear hq2 hca HRA
  obtain ⟨y0, y1, y2, y3, y4, y5, y6, y7, y8, y9, y10, yf⟩ := PC.out.cells11
  go_wp2_with fail
  have hn1 := hid (show nr ≤ 1 by have := HLN.out; rw [hrl.out] at this; exact this)
  clear y0 y1 y2 y3 y4 y5 y6 y7 y8 y9 y10 yf HLN
  go_loopw [9, 11, 23] (fun v _ i wr => wr = w2 ∧ ∃ j : Nat, j ≤ nr ∧ i = .int .i64 j ∧ v = .int .u64 (if j = 0 then 0 else ran[j - 1]?.getD 0)) (fun _ _ i _ => nr - (intOf i).toNat)
  case atStart => exact ⟨rfl, 0, Nat.zero_le _, rfl, rfl⟩
  case round =>
    obtain ⟨rfl, j, hj, rfl, rfl⟩ := hrel
    by_cases hjn : j < nr
    · have hji : (j : Int) < (nr : Int) := by omega
      obtain ⟨b0, off, rfl, _, _, hc⟩ := (HX.out.rn.sl (d := 0)).row (by omega)
      have f0 := hc j hjn
      have hw1 : IntKind.i64.wrap ((j : Int) + 1) = (j : Int) + 1 := by rw [IntKind.wrap_i64]; have := hn1.out; omega
      clear hc
      go_wp2
      go_roundw
      case rel => exact ⟨trivial, j + 1, by omega, by go_num, by simp⟩
      case measure => simp [intOf]; omega
    obtain rfl : j = nr := by omega
    have hnn : ¬ ((j : Int) < (j : Int)) := by omega
    have hlast := hid (show (if j = 0 then 0 else ran[j - 1]?.getD 0) = lastO ran by
      unfold lastO; rw [hrl.out]
      by_cases h : j = 0
      · rw [if_pos h]; have hl := hrl.out; subst h; rw [List.length_eq_zero_iff.1 hl]; rfl
      · rw [if_neg h])
    rw [hlast.out]
    clear hlast
    obtain ⟨y0, y1, y2, y3, y4, y5, y6, y7, y8, y9, y10, yf⟩ := PC.out.cells11
    obtain ⟨y00, y01, y02, y03, y04, y05, y06, y07, yf0⟩ := ZR.out.cells8
    go_wp2_with fail
    clear y0 y1 y2 y3 y4 y5 y6 y7 y8 y9 y10 yf y00 y01 y02 y03 y04 y05 y06 y07 yf0
    have hbk0 : Blk (wr.setCell ⟨w.heap.size + 1 + 1, 0, none⟩ (.int .i64 rnow)) (w.heap.size + 1 + 1) 30 #[.int .i64 rnow, .slice none 0 0, .slice none 0 0, .int .i64 0, .int .i64 0, .bool false, .slice none 0 0, .slice none 0 0] := ZR.out.setCell 0 (.int .i64 rnow)
    have hbk1 : Blk ((wr.setCell ⟨w.heap.size + 1 + 1, 0, none⟩ (.int .i64 rnow)).setCell ⟨w.heap.size + 1 + 1, 1, none⟩ (.slice b.A b.n b.k)) (w.heap.size + 1 + 1) 30 #[.int .i64 rnow, .slice b.A b.n b.k, .slice none 0 0, .int .i64 0, .int .i64 0, .bool false, .slice none 0 0, .slice none 0 0] := hbk0.setCell 1 (.slice b.A b.n b.k)
    have hbk2 : Blk (((wr.setCell ⟨w.heap.size + 1 + 1, 0, none⟩ (.int .i64 rnow)).setCell ⟨w.heap.size + 1 + 1, 1, none⟩ (.slice b.A b.n b.k)).setCell ⟨w.heap.size + 1 + 1, 2, none⟩ (.slice b.B b.m b.d)) (w.heap.size + 1 + 1) 30 #[.int .i64 rnow, .slice b.A b.n b.k, .slice b.B b.m b.d, .int .i64 0, .int .i64 0, .bool false, .slice none 0 0, .slice none 0 0] := hbk1.setCell 2 (.slice b.B b.m b.d)
    have hbk3 : Blk ((((wr.setCell ⟨w.heap.size + 1 + 1, 0, none⟩ (.int .i64 rnow)).setCell ⟨w.heap.size + 1 + 1, 1, none⟩ (.slice b.A b.n b.k)).setCell ⟨w.heap.size + 1 + 1, 2, none⟩ (.slice b.B b.m b.d)).setCell ⟨w.heap.size + 1 + 1, 3, none⟩ (.int .i64 rg.dn)) (w.heap.size + 1 + 1) 30 #[.int .i64 rnow, .slice b.A b.n b.k, .slice b.B b.m b.d, .int .i64 rg.dn, .int .i64 0, .bool false, .slice none 0 0, .slice none 0 0] := hbk2.setCell 3 (.int .i64 rg.dn)
    have hbk4 : Blk (((((wr.setCell ⟨w.heap.size + 1 + 1, 0, none⟩ (.int .i64 rnow)).setCell ⟨w.heap.size + 1 + 1, 1, none⟩ (.slice b.A b.n b.k)).setCell ⟨w.heap.size + 1 + 1, 2, none⟩ (.slice b.B b.m b.d)).setCell ⟨w.heap.size + 1 + 1, 3, none⟩ (.int .i64 rg.dn)).setCell ⟨w.heap.size + 1 + 1, 4, none⟩ (.int .i64 rg.ak)) (w.heap.size + 1 + 1) 30 #[.int .i64 rnow, .slice b.A b.n b.k, .slice b.B b.m b.d, .int .i64 rg.dn, .int .i64 rg.ak, .bool false, .slice none 0 0, .slice none 0 0] := hbk3.setCell 4 (.int .i64 rg.ak)
    have hbk5 : Blk ((((((wr.setCell ⟨w.heap.size + 1 + 1, 0, none⟩ (.int .i64 rnow)).setCell ⟨w.heap.size + 1 + 1, 1, none⟩ (.slice b.A b.n b.k)).setCell ⟨w.heap.size + 1 + 1, 2, none⟩ (.slice b.B b.m b.d)).setCell ⟨w.heap.size + 1 + 1, 3, none⟩ (.int .i64 rg.dn)).setCell ⟨w.heap.size + 1 + 1, 4, none⟩ (.int .i64 rg.ak)).setCell ⟨w.heap.size + 1 + 1, 5, none⟩ (.bool rg.on)) (w.heap.size + 1 + 1) 30 #[.int .i64 rnow, .slice b.A b.n b.k, .slice b.B b.m b.d, .int .i64 rg.dn, .int .i64 rg.ak, .bool rg.on, .slice none 0 0, .slice none 0 0] := hbk4.setCell 5 (.bool rg.on)
    have hbk6 : Blk (((((((wr.setCell ⟨w.heap.size + 1 + 1, 0, none⟩ (.int .i64 rnow)).setCell ⟨w.heap.size + 1 + 1, 1, none⟩ (.slice b.A b.n b.k)).setCell ⟨w.heap.size + 1 + 1, 2, none⟩ (.slice b.B b.m b.d)).setCell ⟨w.heap.size + 1 + 1, 3, none⟩ (.int .i64 rg.dn)).setCell ⟨w.heap.size + 1 + 1, 4, none⟩ (.int .i64 rg.ak)).setCell ⟨w.heap.size + 1 + 1, 5, none⟩ (.bool rg.on)).setCell ⟨w.heap.size + 1 + 1, 6, none⟩ (.slice b.D rg.nd.length b.kd)) (w.heap.size + 1 + 1) 30 #[.int .i64 rnow, .slice b.A b.n b.k, .slice b.B b.m b.d, .int .i64 rg.dn, .int .i64 rg.ak, .bool rg.on, .slice b.D rg.nd.length b.kd, .slice none 0 0] := hbk5.setCell 6 (.slice b.D rg.nd.length b.kd)
    have hbk7 : Blk ((((((((wr.setCell ⟨w.heap.size + 1 + 1, 0, none⟩ (.int .i64 rnow)).setCell ⟨w.heap.size + 1 + 1, 1, none⟩ (.slice b.A b.n b.k)).setCell ⟨w.heap.size + 1 + 1, 2, none⟩ (.slice b.B b.m b.d)).setCell ⟨w.heap.size + 1 + 1, 3, none⟩ (.int .i64 rg.dn)).setCell ⟨w.heap.size + 1 + 1, 4, none⟩ (.int .i64 rg.ak)).setCell ⟨w.heap.size + 1 + 1, 5, none⟩ (.bool rg.on)).setCell ⟨w.heap.size + 1 + 1, 6, none⟩ (.slice b.D rg.nd.length b.kd)).setCell ⟨w.heap.size + 1 + 1, 7, none⟩ (.slice b.Q b.nq b.kq)) (w.heap.size + 1 + 1) 30 #[.int .i64 rnow, .slice b.A b.n b.k, .slice b.B b.m b.d, .int .i64 rg.dn, .int .i64 rg.ak, .bool rg.on, .slice b.D rg.nd.length b.kd, .slice b.Q b.nq b.kq] := hbk6.setCell 7 (.slice b.Q b.nq b.kq)
    have hgr : wr.grownBy ((((((((wr.setCell ⟨w.heap.size + 1 + 1, 0, none⟩ (.int .i64 rnow)).setCell ⟨w.heap.size + 1 + 1, 1, none⟩ (.slice b.A b.n b.k)).setCell ⟨w.heap.size + 1 + 1, 2, none⟩ (.slice b.B b.m b.d)).setCell ⟨w.heap.size + 1 + 1, 3, none⟩ (.int .i64 rg.dn)).setCell ⟨w.heap.size + 1 + 1, 4, none⟩ (.int .i64 rg.ak)).setCell ⟨w.heap.size + 1 + 1, 5, none⟩ (.bool rg.on)).setCell ⟨w.heap.size + 1 + 1, 6, none⟩ (.slice b.D rg.nd.length b.kd)).setCell ⟨w.heap.size + 1 + 1, 7, none⟩ (.slice b.Q b.nq b.kq)) (some (w.heap.size + 1 + 1)) := (grown_set (grown_set (grown_set (grown_set (grown_set (grown_set (grown_set (grown_set (World.grownBy.refl wr (some (w.heap.size + 1 + 1))) 0 (.int .i64 rnow)) 1 (.slice b.A b.n b.k)) 2 (.slice b.B b.m b.d)) 3 (.int .i64 rg.dn)) 4 (.int .i64 rg.ak)) 5 (.bool rg.on)) 6 (.slice b.D rg.nd.length b.kd)) 7 (.slice b.Q b.nq b.kq))
    replace ZR := hid hbk7
    clear hbk0 hbk1 hbk2 hbk3 hbk4 hbk5 hbk6 hbk7
    generalize (((((((wr.setCell ⟨w.heap.size + 1 + 1, 0, none⟩ (.int .i64 rnow)).setCell ⟨w.heap.size + 1 + 1, 1, none⟩ (.slice b.A b.n b.k)).setCell ⟨w.heap.size + 1 + 1, 2, none⟩ (.slice b.B b.m b.d)).setCell ⟨w.heap.size + 1 + 1, 3, none⟩ (.int .i64 rg.dn)).setCell ⟨w.heap.size + 1 + 1, 4, none⟩ (.int .i64 rg.ak)).setCell ⟨w.heap.size + 1 + 1, 5, none⟩ (.bool rg.on)).setCell ⟨w.heap.size + 1 + 1, 6, none⟩ (.slice b.D rg.nd.length b.kd)).setCell ⟨w.heap.size + 1 + 1, 7, none⟩ (.slice b.Q b.nq b.kq) = Wf at *
    have HLZ := hid (show w.heap.size + 1 + 1 < w1.heap.size by have := hz0.out; omega)
    have HXf := hid (HX.out.low HLZ.out hgr); have HBf := hid (HB.out.grown hgr HB.out.size (fun r e => by cases e; omega))
    clear hgr
    obtain ⟨y00, y01, y02, y03, y04, y05, y06, y07, yf0⟩ := ZR.out.cells8
    exact bodyPost_ret (v := .tuple #[rcv (rnow, rns, ros) rg b, .int .u64 (lastO ran), .int .i64 rc]) (by simp [results, Try.results9, go_sem, y00, y01, y02, y03, y04, y05, y06, y07]) rfl ⟨b, R, j, kr, rfl, ⟨es2, gp, HQ2.out, HXf.out.mono (by have := HLZ.out; omega)⟩, HBf.out⟩
end Go.Proofs.Ytfipdoofgbjbjaa
