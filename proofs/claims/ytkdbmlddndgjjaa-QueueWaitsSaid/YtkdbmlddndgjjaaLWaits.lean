/- afterglowlaw13.QueueWaits. -/
import Derived.Test.YtkdbmlddndgjjaaQm
import Derived.Test.YtkdbmlddndgjjaaLPuts
import Derived.Deep.DeepCutAuto
import Derived.BigQuiet
import Derived.Deep.CutBlock
namespace Go.Proofs.Ytkdbmlddndgjjaa
open Go.RowKit Go.Maps
/-- what a round of QueueWaits finds -/
structure QwI (w : World) (base g5 gM : Nat) (W : World) (j : Nat) (A : Option Addr) (n c : Nat) (o : Int) (l : List Cb) (B : Option Addr) (cb : Nat) (D : DataW Nat) : Prop where
  box : Blk W g5 25 (qcs A n c o)
  q : Qown W base A n l
  nc : n ≤ c
  good : QGood o l
  o0 : 0 ≤ o
  put : Oo u64v W base B n cb (l.map (·.2))
  map : QMap W gM j D
  due : QDue W base D B j l
  be : Below w.heap.size w W
  size : base ≤ W.heap.size
theorem QwI.step {w W W' : World} {base g5 gM j : Nat} {A : Option Addr} {n c : Nat} {o : Int} {l : List Cb} {B : Option Addr} {cb : Nat} {D : DataW Nat} (h : QwI w base g5 gM W j A n c o l B cb D) (hb : Below W.heap.size W W') : QwI w base g5 gM W' j A n c o l B cb D :=
  ⟨h.box.step hb, h.q.step hb, h.nc, h.good, h.o0, h.put.step hb, h.map.step hb, h.due.step hb, below_then h.be hb, Nat.le_trans h.size hb.size⟩
/-- another queue is laid into the box -/
theorem QwI.store {w W : World} {base g5 gM j j' : Nat} {A : Option Addr} {n c : Nat} {o : Int} {B : Option Addr} {cb : Nat} {D : DataW Nat} {A' : Option Addr} {n' c' : Nat} {o' : Int} {l' : List Cb}
    (hbox : Blk W g5 25 (qcs A n c o)) (hq : Qown W base A' n' l') (hnc : n' ≤ c') (hg : QGood o' l') (h0 : 0 ≤ o') (hp : Oo u64v W base B n' cb (l'.map (·.2))) (hm : QMap W gM j D) (hd : QDue W base D B j' l')
    (hb : Below w.heap.size w W) (hs : base ≤ W.heap.size) (h5 : w.heap.size ≤ g5) (h5b : g5 < base) (h5m : g5 ≠ gM) (hj : j ≤ j') : QwI w base g5 gM ((W.setCell ⟨g5, 0, none⟩ (.slice A' n' c')).setCell ⟨g5, 1, none⟩ (.int .u64 o')) j' A' n' c' o' l' B cb D :=
  ⟨(hbox.setCell 0 _).setCell 1 _, (hq.setCell h5b _).setCell h5b _, hnc, hg, h0, (hp.setCell h5b _).setCell h5b _, ⟨((hm.setCell h5m _).setCell h5m _).own.mono hj⟩, (hd.setCell h5b _).setCell h5b _, (hb.setCell h5 _).setCell h5 _, by simpa using hs⟩
theorem QGood.over {o o' : Int} {l : List Cb} (h : QGood o l) (h1 : o ≤ o') (h2 : o' ≤ 9223372036854775806) : QGood o' l :=
  ⟨h2, h.2.1, h.2.2.1, fun k hk => by have := h.2.2.2 k hk; omega⟩
theorem QGood.tail {o : Int} {x : Cb} {l : List Cb} (h : QGood o (x :: l)) : QGood o l := by
  refine ⟨h.1, by have := h.2.1; simp at this; omega, fun k hk h1 => ?_, fun k hk => ?_⟩
  · have := h.2.2.1 (k + 1) (by simp; omega) (by omega)
    obtain ⟨m, rfl⟩ : ∃ m, k = m + 1 := ⟨k - 1, by omega⟩
    simpa [perAt] using this
  · have := h.2.2.2 (k + 1) (by simp; omega)
    simpa [perAt] using this
theorem QGood.snoc {o a : Int} {l : List Cb} (h : QGood o l) (x : Int) (h2 : a ≤ 2) (hl : l.length < 16) (hu : ¬ (0 < l.length ∧ o + a < perAt l (l.length - 1))) : QGood o (l ++ [(o + a, x)]) := by
  have hat : ∀ k, k < l.length → perAt (l ++ [(o + a, x)]) k = perAt l k := fun k hk => by unfold perAt; rw [List.getElem?_append_left hk]
  have hlast : perAt (l ++ [(o + a, x)]) l.length = o + a := by unfold perAt; rw [List.getElem?_append_right (Nat.le_refl _)]; simp
  refine ⟨h.1, by simp; omega, fun k hk h1 => ?_, fun k hk => ?_⟩
  · simp at hk
    by_cases hk2 : k < l.length
    · rw [hat k hk2, hat (k - 1) (by omega)]
      exact h.2.2.1 k hk2 h1
    · obtain rfl : k = l.length := by omega
      rw [hlast, hat (l.length - 1) (by omega)]
      omega
  · simp at hk
    by_cases hk2 : k < l.length
    · rw [hat k hk2]
      exact h.2.2.2 k hk2
    · obtain rfl : k = l.length := by omega
      rw [hlast]
      omega
theorem QwI.next {w W : World} {base g5 gM j j' : Nat} {A : Option Addr} {n c : Nat} {o : Int} {l : List Cb} {B : Option Addr} {cb : Nat} {D : DataW Nat} (h : QwI w base g5 gM W j A n c o l B cb D) (hj : j ≤ j') : QwI w base g5 gM W j' A n c o l B cb D :=
  ⟨h.box, h.q, h.nc, h.good, h.o0, h.put, ⟨h.map.own.mono hj⟩, h.due.sub (fun _ hx => hx) hj, h.be, h.size⟩
/-- while a callback is put -/
structure QwP (w : World) (base lo g5 g12 gM : Nat) (W : World) (j : Nat) (A : Option Addr) (n c : Nat) (o : Int) (A8 : Option Addr) (n8 c8 : Nat) (l l' : List Cb) (B : Option Addr) (cb : Nat) (D : DataW Nat) : Prop where
  box : Blk W g5 25 (qcs A n c o)
  nb : Blk W g12 25 (qcs A8 n8 c8 o)
  q : Qown W lo A8 n8 l'
  put : Oo u64v W base B n8 cb (l'.map (·.2))
  map : QMap W gM j D
  due : QDue W base D B j l
  be : Below w.heap.size w W
  size : lo ≤ W.heap.size
theorem QwI.ok {w W9 W10 : World} {base lo g5 g12 gM j : Nat} {A : Option Addr} {n c : Nat} {o : Int} {A8 : Option Addr} {n8 c8 : Nat} {l : List Cb} {x : Cb} {B B' : Option Addr} {cb cb' : Nat} {D : DataW Nat} {v : Int} {cs : Array Value} {t : TypeId}
    (T : QwI w base g5 gM W9 j A n c o l B cb D) (hB : ∀ a, B = some a → a.block < lo) (hl : base ≤ lo) (hs : lo ≤ W9.heap.size) (hq : Qown W9 lo A8 n8 (l ++ [x])) (hp : Blk W9 g12 25 (qcs A8 n8 c8 o)) (h12 : lo ≤ g12) (h5 : g5 < base) (hM : gM < base) (hw : w.heap.size ≤ base)
    (hO : Oo u64v W10 base B' (n + 1) cb' (l.map (·.2) ++ [v])) (hv : v = x.2) (hg : (W9.alloc (.cells cs t)).grownBy W10 (Value.slice B n cb).ownBlock)
    (hB' : (∃ b o1 o2, B = some ⟨b, o1, none⟩ ∧ B' = some ⟨b, o2, none⟩) ∨ ∃ o2, B' = some ⟨(W9.alloc (.cells cs t)).heap.size, o2, none⟩) : QwP w base lo g5 g12 gM W10 j A n c o A8 n8 c8 l (l ++ [x]) B' cb' D := by
  have hrow : ∀ k, (Value.slice B n cb).ownBlock = some k → (base ≤ k ∧ k < lo) ∧ ∃ a, B = some a ∧ a.block = k := by
    intro k hk
    rcases T.put.row with ⟨rfl, _⟩ | ⟨b, off, rfl, h1, _⟩
    · cases hk
    · cases hk
      exact ⟨⟨h1, hB _ rfl⟩, _, rfl, rfl⟩
  have bx := below_box W9 (.cells cs t)
  have hn8 : n8 = n + 1 := by have h1 := hq.sm.len; have h2 := T.q.sm.len; simp at h1; omega
  subst hn8
  refine ⟨(T.box.step bx).grown hg (fun e => ?_), (hp.step bx).grown hg (fun e => ?_), (hq.step bx).kept hg (fun k hk => (hrow k hk).1.2), ?_, (T.map.step bx).kept hg (fun e => ?_), (T.due.step bx).moved hg (fun k hk => .inr (hrow k hk).2) hB', ?_, ?_⟩
  · have := (hrow _ e.symm).1; omega
  · have := (hrow _ e.symm).1; omega
  · rw [List.map_append]
    subst hv
    exact hO
  · have := (hrow _ e.symm).1; omega
  · exact (below_then T.be bx).grown hg (by simp; omega) (fun k hk => by have := (hrow k hk).1; omega)
  · have := hg.size; simp at this; omega
theorem QwP.upd {w W10 W11 : World} {base lo g5 g12 gM j : Nat} {A : Option Addr} {n c : Nat} {o : Int} {A8 : Option Addr} {n8 c8 : Nat} {l l' : List Cb} {B : Option Addr} {cb : Nat} {D : DataW Nat} {p : Int} {t : TypeId}
    (T : QwP w base lo g5 g12 gM W10 j A n c o A8 n8 c8 l l' B cb D) (hl : base ≤ lo) (h12 : lo ≤ g12) (h5 : g5 < base) (hM : gM < base) (h5M : g5 ≠ gM) (hw : w.heap.size ≤ gM)
    (hown : W11.ownsMap Try.prog 23 Rr gM (j + 1) (D.put (.int .u64 j) (.lit (.int .i64 W10.heap.size)))) (hg : (W10.alloc (.cells #[.int .u64 p] t)).grownBy W11 (some gM)) :
    QwP w base lo g5 g12 gM W11 (j + 1) A n c o A8 n8 c8 (l ++ [(p, (j : Int))]) l' B cb (D.put (.int .u64 j) (.lit (.int .i64 W10.heap.size))) := by
  have bx := below_box W10 (.cells #[.int .u64 p] t)
  have hc := (Blk.new W10 t #[.int .u64 p]).cells1.1
  have hsz := T.size
  refine ⟨(T.box.step bx).grown hg (fun e => h5M (by simpa using e)), (T.nb.step bx).grown hg (fun e => ?_), (T.q.step bx).kept hg (fun k hk => by cases hk; omega), (T.put.step bx).grown hg (fun k hk => by cases hk; exact hM), ⟨hown⟩, ?_, (below_then T.be bx).grown hg (by simp; omega) (fun k hk => by cases hk; exact hw), ?_⟩
  · simp at e; omega
  · refine (((T.due.step bx).kept hg (fun k hk => by cases hk; exact .inl hM)).put T.map.own.isMap (by omega) ?_ (fun a ha => ?_))
    · refine (World.cell?_of_block (a := ⟨W10.heap.size, 0, none⟩) (hg.block _ (by simp) (by simp; omega))).trans hc
    · rcases T.put.row with ⟨e, _⟩ | ⟨b, off, e, _, h2, _⟩
      · rw [e] at ha; cases ha
      · rw [e] at ha; cases ha; show b ≠ _; omega
  · have := hg.size; simp at this; omega
theorem QDue.same {W : World} {base : Nat} {D : DataW Nat} {B B' : Option Addr} {j : Nat} {l : List Cb} (h : QDue W base D B j l) (hB : ∀ a, B' = some a → ∃ a', B = some a' ∧ a'.block = a.block) : QDue W base D B' j l := by
  refine ⟨fun x hx => ⟨(h.all x hx).1, ?_⟩⟩
  obtain ⟨g, h1, h2, h3, h4⟩ := (h.all x hx).2
  refine ⟨g, h1, h2, h3, fun a ha => ?_⟩
  obtain ⟨a', e1, e2⟩ := hB a ha
  rw [← e2]
  exact h4 a' e1
/-- behind the switch -/
def WtMid (w : World) (base g5 gM j : Nat) (s7 : Value) (W : World) : Prop :=
  ∃ A n c o l B cb D, s7 = .slice B n cb ∧ QwI w base g5 gM W j A n c o l B cb D
set_option maxRecDepth 100000 in
set_option maxHeartbeats 8000000 in
theorem qwaits_any (A : Option Addr) (n c : Nat) (o : Int) (xs : List Cb) (L : Option Addr) (nl cl : Nat) (ws : List Int) (w : World) (hx : Sm 2 encC (0, 0) w 0 w.heap.size A n xs) (hnc : n ≤ c) (h0 : 0 ≤ o)
    (hw : Sl u64v 0 w 0 w.heap.size L nl ws) (hnl : nl ≤ 9223372036854775807) (hws : ∀ x ∈ ws, 0 ≤ x ∧ x ≤ 18446744073709551615) :
    Calls Try.prog 5 #[qv A n c o, .slice L nl cl] w fun e w' => e = .returned (.bool true) ∧ Below w.heap.size w w' := by
  have HX := hid hx; have HW0 := hid hw; have HWS := hid hws; have HB := hid (Below.refl w.heap.size w)
  clear hx hw hws
  have bx := below_box w (.cells (qcs A n c o) 25)
  replace HX := hid (HX.out.step bx); replace HB := hid (below_then HB.out bx)
  clear bx
  have P2 := hid (Blk.new w 25 (qcs A n c o))
  go_enter Try.func5, Try.ntmps5
  go_wp2_with fail
  generalize w.alloc (.cells (qcs A n c o) 25) = W0 at *
  refine (qwakes_any W0).mono ?_
  rintro e w1 ⟨rfl, hb⟩
  replace HX := hid (HX.out.step hb); replace P2 := hid (P2.out.step hb); replace HB := hid (below_then HB.out hb)
  clear hb
  obtain ⟨y00, y01, yf0⟩ := P2.out.cells2
  go_wp2_with fail
  clear y00 y01 yf0
  refine (qown_any A n c o xs w1 HX.out hnc).mono ?_
  rintro e w2 ⟨A2, n2, c2, rfl, hn2, ho, hb⟩
  replace HX := hid (HX.out.step hb); replace P2 := hid (P2.out.step hb); replace HB := hid (below_then HB.out hb)
  have hnc2 := ho.cap.1
  have O2 := hid (Qown.ofOm ho)
  clear ho hb
  clear HX P2
  obtain ⟨ys, hys⟩ : ∃ ys, ys = xs.take 20 := ⟨_, rfl⟩
  rw [← hys] at O2
  clear hys
  have h2s := hid HB.out.size
  have bx := below_box w2 (.cells (qcs A2 n2 c2 o) 25)
  replace O2 := hid (O2.out.step bx); replace HB := hid (below_then HB.out bx)
  clear bx
  have P5 := hid (Blk.new w2 25 (qcs A2 n2 c2 o))
  obtain ⟨y00, y01, yf0⟩ := P5.out.cells2
  go_wp2_with fail
  clear y00 y01 yf0
  generalize w2.alloc (.cells (qcs A2 n2 c2 o) 25) = W2 at *
  have HC := hid (show qcheckC o ys = if QGood o ys then 0 else 230 from rfl)
  refine (qcheck_any A2 n2 c2 o ys W2 (O2.out.sm.mono (Nat.zero_le _) (Nat.le_refl _)) (by omega) h0).mono ?_
  rintro e w3 ⟨rfl, hb⟩
  replace O2 := hid (O2.out.step hb); replace P5 := hid (P5.out.step hb); replace HB := hid (below_then HB.out hb)
  clear hb
  have hw3 := hid (show w2.heap.size < w3.heap.size from P5.out.lt)
  by_cases hg : QGood o ys
  · have e0 : qcheckC o ys = 0 := by rw [HC.out, if_pos hg]
    rw [e0]
    have HG := hid hg
    clear e0 HC hg
    have hmm := @run_makeMap Try.prog
    obtain ⟨y00, y01, yf0⟩ := P5.out.cells2
    go_upto_region 7 with fail
    clear hmm O2 y00 y01 yf0
    have HM := hid (⟨World.ownsMap_made w3 Try.prog 23 Rr⟩ : QMap (w3.alloc (.map #[] 0)) w3.heap.size 0 (.map []))
    have bx := below_box w3 (.map #[] 0)
    replace P5 := hid (P5.out.step bx); replace HB := hid (below_then HB.out bx)
    clear bx
    have hm3 := hid (show w2.heap.size < w3.heap.size from hw3.out)
    have hm4 := hid (show (w3.alloc (.map #[] 0)).heap.size = w3.heap.size + 1 by simp)
    generalize w3.alloc (.map #[] 0) = W4 at *
    obtain ⟨y00, y01, yf0⟩ := P5.out.cells2
    go_wp2_with fail
    clear y00 y01 yf0
    replace P5 := hid (P5.out.setCell 0 (.slice none 0 0)); replace HM := hid (HM.out.setCell (p := ⟨w2.heap.size, 0, none⟩) (by have := hm3.out; show w2.heap.size ≠ w3.heap.size; omega) (.slice none 0 0)); replace HB := hid (HB.out.setCell (p := ⟨w2.heap.size, 0, none⟩) h2s.out (.slice none 0 0))
    have hm5 := hid (show (W4.setCell ⟨w2.heap.size, 0, none⟩ (.slice none 0 0)).heap.size = w3.heap.size + 1 by simpa using hm4.out)
    generalize W4.setCell ⟨w2.heap.size, 0, none⟩ (.slice none 0 0) = W5 at *
    clear hm4
    have T0 := hid (show QwI w W5.heap.size w2.heap.size w3.heap.size W5 0 none 0 0 o [] none 0 (.map []) from ⟨P5.out, Qown.nil _ _, Nat.le_refl _, ⟨HG.out.1, by simp, fun k hk _ => absurd hk (by simp), fun k hk => absurd hk (by simp)⟩, h0, Oo.nil _ _, HM.out, ⟨fun x hx => absurd hx (by simp)⟩, HB.out, Nat.le_refl _⟩)
    clear P5 HM HB HG
    go_loopw [33, 7] (fun i s7 wr => ∃ j n c cb : Nat, ∃ A B : Option Addr, ∃ o : Int, ∃ l : List Cb, ∃ D : DataW Nat, j ≤ nl ∧ j ≤ 20 ∧ i = .int .i64 j ∧ s7 = .slice B n cb ∧ QwI w W5.heap.size w2.heap.size w3.heap.size wr j A n c o l B cb D) (fun i _ _ => nl - (intOf i).toNat)
    case atStart => exact ⟨0, 0, 0, 0, none, none, o, [], .map [], Nat.zero_le _, Nat.zero_le _, rfl, rfl, T0.out⟩
    case round =>
      clear T0
      obtain ⟨j, m, d, cb, E, B, q, l, D, hj, hj20, rfl, rfl, T⟩ := hrel
      have HT := hid T; have HWr := hid (HW0.out.step T.be)
      have hml := hid T.q.sm.len; have hl16 := hid T.good.2.1; have hq0 := hid T.o0; have hqt := hid T.good.1
      have hmb : m ≤ 16 := by have := hml.out; have := hl16.out; omega
      clear T
      by_cases hjl : j < nl
      · obtain ⟨b, off, rfl, _, hbh, hc⟩ := HWr.out.row (by omega)
        have f0 := hc j hjl
        by_cases hj2 : j = 20
        · have hj2b : ((j : Int) == 20) = true := by simp; omega
          have hjn : (20 : Int) < (nl : Int) := by omega
          subst hj2
          simp only [show ((20 : Nat) : Int) = 20 from rfl] at *
          clear hc
          obtain ⟨y0, y1, yf⟩ := HT.out.box.cells2
          go_wp2
          refine bodyPost_ret (v := .bool true) (by simp [results, Try.results5, go_sem]) rfl ⟨rfl, HT.out.be⟩
        · have hj2b : ((j : Int) == 20) = false := by simp; omega
          obtain ⟨x, hxx⟩ : ∃ x, x = ws[j]?.getD 0 := ⟨_, rfl⟩
          have hwl := HWr.out.len
          have hxb := HWS.out x (by rw [hxx, List.getElem?_eq_getElem (by omega)]; exact List.getElem_mem _)
          rw [← hxx] at f0
          obtain ⟨a, ha⟩ : ∃ a, a = x.tmod 3 := ⟨_, rfl⟩
          obtain ⟨b2, hb2⟩ : ∃ b, b = x.tmod 2 := ⟨_, rfl⟩
          have hab : 0 ≤ a ∧ a ≤ 2 := by rw [ha, Int.tmod_eq_emod_of_nonneg hxb.1]; omega
          have hbb : 0 ≤ b2 ∧ b2 ≤ 1 := by rw [hb2, Int.tmod_eq_emod_of_nonneg hxb.1]; omega
          have hd3 := ha.symm
          have hd2 := hb2.symm
          clear hc hxx hwl hxb ha hb2
          go_upto_block 2 with fail
          clear f0
          go_cut [7] (fun s7 wx => WtMid w W5.heap.size w2.heap.size w3.heap.size (j + 1) s7 wx)
          case first =>
            have hbs := hid HT.out.size; have h52 := hid (show w2.heap.size < W5.heap.size by have := hm3.out; have := hm5.out; omega); have h5M := hid (show w2.heap.size ≠ w3.heap.size by have := hm3.out; omega)
            have HGd := hid HT.out.good
            by_cases ha : a = 0
            · subst ha
              have hwb : IntKind.u64.wrap (q + b2) = q + b2 := by have := hq0.out; have := hqt.out; rw [IntKind.wrap_u64]; omega
              obtain ⟨y00, y01, yf0⟩ := (HT.out.box).cells2
              go_wp2_with fail
              clear y00 y01 yf0
              refine (qend_any E m d q l (q + b2) wr (HT.out.q.sm.mono (Nat.zero_le _) (Nat.le_refl _)) (by omega) hq0.out).mono ?_
              rintro e w8 ⟨A8, n8, c8, rfl, o8, hb, hnc8⟩
              by_cases hbig : 9223372036854775806 < q + b2
              · have E1 : endF q l (q + b2) = (0, [], 2) := by rw [endF, if_neg (not_not_intro HGd.out), if_pos (.inr hbig)]
                rw [E1]
                dsimp only
                clear o8 E1
                replace HT := hid (HT.out.step hb); replace HWr := hid (HWr.out.step hb)
                clear hb
                have bx := below_box w8 (.cells (qcs A8 n8 c8 0) 25)
                replace HT := hid (HT.out.step bx); replace HWr := hid (HWr.out.step bx)
                clear bx
                have P10 := hid (Blk.new w8 25 (qcs A8 n8 c8 0))
                have hge : 9223372036854775806 ≤ q := by omega
                clear hbig
                obtain ⟨y00, y01, yf0⟩ := (HT.out.box).cells2
                go_wp2
                refine bodyPost_ret (v := .bool true) (by simp [results, Try.results5, go_sem]) rfl ⟨rfl, HT.out.be⟩
              · have E1 : endF q l (q + b2) = (q + b2, l, 0) := by rw [endF, if_neg (not_not_intro HGd.out), if_neg (by omega)]
                rw [E1] at o8 ⊢
                dsimp only at o8 ⊢
                have hn8 : n8 = m := by have := o8.sm.len; have := hml.out; omega
                subst hn8
                have O8 := hid o8
                clear o8 E1
                replace HT := hid (HT.out.step hb); replace HWr := hid (HWr.out.step hb)
                clear hb
                have bx := below_box w8 (.cells (qcs A8 n8 c8 (q + b2)) 25)
                replace HT := hid (HT.out.step bx); replace HWr := hid (HWr.out.step bx); replace O8 := hid (O8.out.step bx)
                clear bx
                have P10 := hid (Blk.new w8 25 (qcs A8 n8 c8 (q + b2)))
                obtain ⟨y00, y01, yf0⟩ := P10.out.cells2
                obtain ⟨y10, y11, yf1⟩ := (HT.out.box).cells2
                go_wp2
                go_meet
                exact ⟨A8, n8, c8, q + b2, l, B, cb, D, rfl, QwI.store HT.out.box (O8.out.mono hbs.out) hnc8 (HGd.out.over (by omega) (by omega)) (by have := hq0.out; omega) HT.out.put HT.out.map (HT.out.due.sub (fun _ h => h) (Nat.le_succ _)) HT.out.be HT.out.size h2s.out h52.out h5M.out (Nat.le_succ _)⟩
            · have ha0 : (a == 0) = false := by simpa using ha
              have hwa : wrap64 a = a := by unfold wrap64; omega
              have hwj : IntKind.u64.wrap (j : Int) = (j : Int) := by rw [IntKind.wrap_u64]; omega
              have hwo : IntKind.u64.wrap (q + a) = q + a := by have := hq0.out; have := hqt.out; rw [IntKind.wrap_u64]; omega
              obtain ⟨y00, y01, yf0⟩ := (HT.out.box).cells2
              go_wp2_with fail
              clear y00 y01 yf0
              have HNC := hid HT.out.nc
              have HBB := hid (show ∀ a, B = some a → a.block < wr.heap.size from fun a ha => by
                rcases HT.out.put.row with ⟨e, _⟩ | ⟨b, off, e, _, h2, _⟩
                · rw [e] at ha; cases ha
                · rw [e] at ha; cases ha; exact h2)
              refine (qput_any E m d q l (j : Int) a wr (HT.out.q.sm.mono (Nat.zero_le _) (Nat.le_refl _)) (by omega) hq0.out HNC.out).mono ?_
              rintro e w8 ⟨A8, n8, c8, rfl, o8, hb, hnc8⟩
              have hs8 := hid hb.size
              by_cases c1 : 0 < l.length ∧ q + a < perAt l (l.length - 1)
              · have E1 : putF q l j a = (0, [], 2) := by rw [putF, if_neg (not_not_intro HGd.out), if_neg (by omega), if_pos c1]
                clear c1
                rw [E1]
                dsimp only
                clear o8 E1
                replace HT := hid (HT.out.step hb); replace HWr := hid (HWr.out.step hb)
                clear hb
                have bx := below_box w8 (.cells (qcs A8 n8 c8 0) 25)
                replace HT := hid (HT.out.step bx); replace HWr := hid (HWr.out.step bx)
                clear bx
                have P12 := hid (Blk.new w8 25 (qcs A8 n8 c8 0))
                go_wp2
                go_meet
                exact ⟨E, m, d, q, l, B, cb, D, rfl, HT.out.next (Nat.le_succ _)⟩
              · have C1 := hid c1
                clear c1
                by_cases c2 : l.length = 16
                · have E1 : putF q l j a = (0, [], 6) := by rw [putF, if_neg (not_not_intro HGd.out), if_neg (by omega), if_neg C1.out, if_pos c2]
                  clear c2
                  rw [E1]
                  dsimp only
                  clear o8 E1
                  replace HT := hid (HT.out.step hb); replace HWr := hid (HWr.out.step hb)
                  clear hb
                  have bx := below_box w8 (.cells (qcs A8 n8 c8 0) 25)
                  replace HT := hid (HT.out.step bx); replace HWr := hid (HWr.out.step bx)
                  clear bx
                  have P12 := hid (Blk.new w8 25 (qcs A8 n8 c8 0))
                  go_wp2
                  go_meet
                  exact ⟨E, m, d, q, l, B, cb, D, rfl, HT.out.next (Nat.le_succ _)⟩
                · have E1 : putF q l j a = (q, l ++ [(q + a, (j : Int))], 0) := by rw [putF, if_neg (not_not_intro HGd.out), if_neg (by omega), if_neg C1.out, if_neg c2]
                  have C2 := hid c2
                  rw [E1] at o8 ⊢
                  dsimp only at o8 ⊢
                  have hn8 : n8 = m + 1 := by have h1 := o8.sm.len; have h2 := hml.out; simp at h1; omega
                  subst hn8
                  have O8 := hid o8
                  clear o8 E1 c2
                  replace HT := hid (HT.out.step hb); replace HWr := hid (HWr.out.step hb)
                  clear hb
                  have bx := below_box w8 (.cells (qcs A8 (m + 1) c8 q) 25)
                  replace HT := hid (HT.out.step bx); replace HWr := hid (HWr.out.step bx); replace O8 := hid (O8.out.step bx)
                  clear bx
                  have P12 := hid (Blk.new w8 25 (qcs A8 (m + 1) c8 q))
                  have hs9 := hid (show w8.heap.size + 1 = (w8.alloc (.cells (qcs A8 (m + 1) c8 q) 25)).heap.size by simp)
                  obtain ⟨i0, hi0, hz00, hz01, hz02⟩ := info_parts info_u64
                  have hkey := Maps.keyOf_int_mk Try.underlying23 (u64_wf' (a := (j : Int)) (by omega) (by omega))
                  have hlt' : j < maxLen := by simp only [maxLen]; omega
                  have hM5 := hid (show w3.heap.size < W5.heap.size by have := hm5.out; omega)
                  have hw3s := hid (show w.heap.size ≤ w3.heap.size by have := h2s.out; have := hw3.out; omega)
                  have hw5 := hid (show w.heap.size ≤ W5.heap.size by have := hw3s.out; have := hM5.out; omega)
                  go_upto_region 16 with fail
                  generalize w8.alloc (.cells (qcs A8 (m + 1) c8 q) 25) = W9 at *
                  have hs9' := hid (show wr.heap.size ≤ W9.heap.size by have := hs9.out; have := hs8.out; omega)
                  go_wp2_with (first
                    | (at_builtin; refine wpList_oo u64v 0 _ rfl _ _ 26 rfl 23 i0 _ 8 Try.underlying26 hi0 hz00 hz01 hz02 rfl W5.heap.size B m cb _ rfl (HT.out.put.step (below_box _ _)) W9.heap.size (W9.heap.size + 1) _ 1 (j : Int) rfl (Sl.one' (by simp)) (fun _ => rfl) (by simp only [maxLen]; omega) (by omega) (by have := HT.out.size; simp; omega) ?_; intro B' cb' w10 op10 hg10 hB10; have T10 := hid (QwI.ok HT.out HBB.out hbs.out hs9'.out O8.out P12.out hs8.out h52.out hM5.out hw5.out op10 rfl hg10 hB10); obtain ⟨u0, u1, uf⟩ := T10.out.box.cells2)
                    | (at_mapUpdate; refine wpList_mapUpdate_own _ rfl _ _ _ 50 rfl 23 26 (Maps.int_keyed Try.underlying23) Try.underlying50 Rr w3.heap.size j D rfl (T10.out.map.step (below_box _ _)).own hlt' _ _ _ rfl rfl hkey _ [] rfl ?_; intro w11 hown11 hg11; have T11 := hid (QwP.upd T10.out hbs.out hs8.out h52.out hM5.out h5M.out hw3s.out hown11 hg11); obtain ⟨v0, v1, vf⟩ := T11.out.box.cells2; obtain ⟨r0, r1, rf⟩ := T11.out.nb.cells2))
                  go_meet
                  exact ⟨A8, m + 1, c8, q, l ++ [(q + a, (j : Int))], B', cb', _, rfl, QwI.store T11.out.box (T11.out.q.mono hbs.out) hnc8 (HGd.out.snoc _ (by omega) (by have := C2.out; have := hl16.out; omega) C1.out) hq0.out T11.out.put T11.out.map T11.out.due T11.out.be (by have := T11.out.size; have := hbs.out; omega) h2s.out h52.out h5M.out (Nat.le_refl _)⟩
          case rest =>
            obtain ⟨E6, m6, d6, q6, l6, B6, cb6, D6, rfl, t6⟩ := hcut
            rename World => W6
            have hml6 := hid t6.q.sm.len; have hl6 := hid t6.good.2.1; have HT6 := hid t6
            have hmb6 : m6 ≤ 16 := by have := hml6.out; have := hl6.out; omega
            clear t6 HT HWr hmb hml hl16 hq0 hqt
            have h52 := hid (show w2.heap.size < W5.heap.size by have := hm3.out; have := hm5.out; omega); have h5M := hid (show w2.heap.size ≠ w3.heap.size by have := hm3.out; omega)
            obtain ⟨y00, y01, yf0⟩ := (HT6.out.box).cells2
            go_wp2_with fail
            clear y00 y01 yf0
            obtain ⟨s0, hs0⟩ : ∃ s : Nat, s = seg0 q6 l6 := ⟨_, rfl⟩
            obtain ⟨s1, hs1⟩ : ∃ s : Nat, s = seg1 q6 l6 := ⟨_, rfl⟩
            have hsl := seg_le q6 l6
            rw [← hs0, ← hs1, hml6.out] at hsl
            refine (qsegs_any E6 m6 d6 q6 l6 W6 (HT6.out.q.sm.mono (Nat.zero_le _) (Nat.le_refl _)) (by omega) HT6.out.o0 HT6.out.nc).mono ?_
            rintro e w24 ⟨rfl, hb⟩
            rw [show segF q6 l6 = ((s0 : Int), (s1 : Int), (m6 : Int) - s0 - s1) by rw [segF, if_pos HT6.out.good, ← hs0, ← hs1, hml6.out]]
            dsimp only
            have HS0 := hid hs0
            clear hs0 hs1
            replace HT6 := hid (HT6.out.step hb)
            clear hb
            have bx := below_box w24 (.cells #[.int .i64 s0, .int .i64 s1, .int .i64 ((m6 : Int) - s0 - s1)] 48)
            replace HT6 := hid (HT6.out.step bx)
            clear bx
            have P14 := hid (Blk.new w24 48 #[.int .i64 s0, .int .i64 s1, .int .i64 ((m6 : Int) - s0 - s1)])
            have hwA : IntKind.i64.wrap ((s0 : Int) + s1) = (s0 : Int) + s1 := by rw [IntKind.wrap_i64]; omega
            have hwB : IntKind.i64.wrap ((s0 : Int) + s1 + ((m6 : Int) - s0 - s1)) = (m6 : Int) := by rw [IntKind.wrap_i64]; omega
            obtain ⟨y00, y01, y02, yf0⟩ := P14.out.cells3
            obtain ⟨y10, y11, yf1⟩ := (HT6.out.box).cells2
            go_wp2_with fail
            clear y00 y01 y02 yf0 y10 y11 yf1 hwA hwB
            generalize w24.alloc (.cells #[.int .i64 s0, .int .i64 s1, .int .i64 ((m6 : Int) - s0 - s1)] 48) = W24 at *
            have e0 : qcheckC q6 l6 = 0 := by rw [qcheckC, if_pos HT6.out.good]
            refine (qcheck_any E6 m6 d6 q6 l6 W24 (HT6.out.q.sm.mono (Nat.zero_le _) (Nat.le_refl _)) (by omega) HT6.out.o0).mono ?_
            rintro e w25 ⟨rfl, hb⟩
            replace HT6 := hid (HT6.out.step hb); replace P14 := hid (P14.out.step hb)
            clear hb
            rw [e0]
            clear e0
            obtain ⟨y00, y01, yf0⟩ := (HT6.out.box).cells2
            go_wp2_with fail
            clear y00 y01 yf0
            refine (qtake_any E6 m6 d6 q6 l6 w25 (HT6.out.q.sm.mono (Nat.zero_le _) (Nat.le_refl _)) (by omega) HT6.out.o0).mono ?_
            rintro e w27 ⟨A15, n15, c15, rfl, o15, hb, hnc15⟩
            have hs27 := hid (Nat.le_trans HT6.out.size hb.size); have hs25 := hid HT6.out.size
            replace HT6 := hid (HT6.out.step hb); replace P14 := hid (P14.out.step hb)
            clear hb
            rcases Nat.eq_zero_or_pos (doneN q6 l6) with hd | hd
            · have E1 : takeF q6 l6 = (0, [], 0, 4) := by rw [takeF, if_neg (not_not_intro HT6.out.good), if_pos hd]
              have hsz : s0 = 0 := by have := (seg0_pos (o := q6) HT6.out.good.2.2.1); rw [← HS0.out] at this; omega
              subst hsz
              rw [E1]
              dsimp only
              clear E1 o15 hd
              have bx := below_box w27 (.cells (qcs A15 n15 c15 0) 25)
              replace HT6 := hid (HT6.out.step bx); replace P14 := hid (P14.out.step bx)
              clear bx
              have P15 := hid (Blk.new w27 25 (qcs A15 n15 c15 0))
              obtain ⟨y00, y01, y02, yf0⟩ := P14.out.cells3
              go_wp2_with fail
              clear y00 y01 y02 yf0
              go_roundw
              case rel => exact ⟨j + 1, m6, d6, cb6, E6, B6, q6, l6, D6, by omega, by omega, by go_num, rfl, HT6.out⟩
              case measure => simp [intOf] <;> omega
            · obtain ⟨x0, l7, rfl⟩ : ∃ x t, l6 = x :: t := by
                cases l6 with
                | nil => have := doneN_le q6 ([] : List Cb); simp at this; omega
                | cons x t => exact ⟨x, t, rfl⟩
              have E1 : takeF q6 (x0 :: l7) = (q6, l7, x0.2, 0) := by rw [takeF, if_neg (not_not_intro HT6.out.good), if_neg (by omega)]; rfl
              have hsz : 0 < (s0 : Int) := by have := (seg0_pos (o := q6) HT6.out.good.2.2.1); rw [← HS0.out] at this; omega
              have hszn : 0 < s0 := by omega
              have hszd : decide (0 < s0) = true := decide_eq_true hszn
              have hszt : (true != decide (0 < s0)) = false := by simp [hszn]
              have hle : ¬ q6 < x0.1 := by have := doneN_lt (o := q6) (xs := x0 :: l7) hd; have : perAt (x0 :: l7) 0 = x0.1 := rfl; omega
              rw [E1] at o15 ⊢
              dsimp only at o15 ⊢
              have O15 := hid o15
              clear E1 o15 hd
              have bx := below_box w27 (.cells (qcs A15 n15 c15 q6) 25)
              replace HT6 := hid (HT6.out.step bx); replace P14 := hid (P14.out.step bx); replace O15 := hid (O15.out.step bx)
              clear bx
              have P15 := hid (Blk.new w27 25 (qcs A15 n15 c15 q6))
              obtain ⟨y00, y01, y02, yf0⟩ := P14.out.cells3
              go_upto_region 31 with fail
              clear y00 y01 y02 yf0
              generalize w27.alloc (.cells (qcs A15 n15 c15 q6) 25) = W27 at *
              have hm7 : m6 = l7.length + 1 := by have := hml6.out; simp at this; omega
              have hmz : ((m6 : Int) == 0) = false := by simp; omega
              have hmp : (0 : Int) < (m6 : Int) := by omega
              obtain ⟨b6, off6, hB6, hlo6, hhi6, hc6⟩ := (HT6.out.put.sl (d := (0 : Int))).row (by omega)
              have f6 := hc6 0 (by omega)
              simp only [Nat.add_zero, List.map_cons, List.getElem?_cons_zero, Option.getD_some] at f6
              obtain ⟨g7, hrun, hg7⟩ := HT6.out.due.lookN HT6.out.map (by omega) (x := x0) (by simp)
              subst hB6
              clear hc6 hml6 hm7 hlo6 hhi6
              have hne0 : (x0.2 != x0.2) = false := by simp
              obtain ⟨y00, y01, yf0⟩ := (HT6.out.box).cells2
              go_quiet (fail)
              have bq := below_drewN (Below.refl W27.heap.size W27) nq
              clear hrun hg7 f6 y00 y01 yf0 hne0 hmz
              replace HT6 := hid (HT6.out.step bq); replace P14 := hid (P14.out.step bq); replace O15 := hid (O15.out.step bq); replace P15 := hid (P15.out.step bq)
              clear bq
              generalize W27.drewN nq = W31 at *
              have hcb := HT6.out.put.le
              have hcbi : (m6 : Int) ≤ (cb6 : Int) := by omega
              have hc1i : (1 : Int) ≤ (cb6 : Int) := by omega
              have hm1i : (1 : Int) ≤ (m6 : Int) := by omega
              have h15 := hid P15.out.lt
              have ne1 : ¬ w27.heap.size = w2.heap.size := by have := hs27.out; have := h52.out; omega
              have ne2 : ¬ w2.heap.size = w27.heap.size := by omega
              obtain ⟨y00, y01, yf0⟩ := P15.out.cells2
              obtain ⟨y10, y11, yf1⟩ := (HT6.out.box).cells2
              go_wp2_with fail
              go_region
              all_goals
                clear y00 y01 yf0 y10 y11 yf1
                have hput := HT6.out.put.drop1 (show 0 < m6 by omega)
                generalize hBn : (if cb6 = 1 then some (⟨b6, off6, none⟩ : Addr) else some ⟨b6, off6 + 1, none⟩) = Bn
                have hput2 : Oo u64v W31 W5.heap.size Bn (m6 - 1) (cb6 - 1) (l7.map (·.2)) := by rw [← hBn]; exact hput
                have hBb : ∀ a, Bn = some a → ∃ a', (some (⟨b6, off6, none⟩ : Addr)) = some a' ∧ a'.block = a.block := by
                  intro a ha
                  rw [← hBn] at ha
                  split at ha <;> (cases ha; exact ⟨_, rfl, rfl⟩)
                have hn15 : n15 = m6 - 1 := by have h1 := O15.out.sm.len; have h2 := HT6.out.q.sm.len; simp at h2; omega
                have HBn := hid hBn; have HP2 := hid hput2; have HBb := hid hBb
                clear hBn hput hput2 hBb
                subst hn15
                go_wp2
                go_roundw
                case rel => exact ⟨j + 1, m6 - 1, c15, cb6 - 1, A15, Bn, q6, l7, D6, by omega, by omega, by go_num, rfl, (QwI.store HT6.out.box (O15.out.mono hs25.out) hnc15 HT6.out.good.tail HT6.out.o0 HP2.out HT6.out.map ((HT6.out.due.sub (fun _ h => List.mem_cons_of_mem _ h) (Nat.le_refl _)).same HBb.out) HT6.out.be HT6.out.size h2s.out h52.out h5M.out (Nat.le_refl _)).step (Below.refl _ _).drew⟩
                case measure => simp [intOf] <;> omega
      · obtain rfl : j = nl := by omega
        obtain ⟨y0, y1, yf⟩ := HT.out.box.cells2
        go_wp2
        refine bodyPost_ret (v := .bool true) (by simp [results, Try.results5, go_sem]) rfl ⟨rfl, HT.out.be⟩
  · have e0 : qcheckC o ys = 230 := by rw [HC.out, if_neg hg]
    rw [e0]
    have HG := hid hg
    clear e0 HC hg
    obtain ⟨y00, y01, yf0⟩ := P5.out.cells2
    go_wp2_with fail
    clear y00 y01 yf0
    refine (qsegs_any A2 n2 c2 o ys _ (O2.out.sm.mono (Nat.zero_le _) (Nat.le_refl _)) (by omega) h0 hnc2).mono ?_
    rintro e w4 ⟨rfl, hb⟩
    replace P5 := hid (P5.out.step hb); replace HB := hid (below_then HB.out hb)
    clear hb
    rw [show segF o ys = (0, 0, 0) by rw [segF, if_neg HG.out]]
    dsimp only
    have E3 := eqd_tri 0 0 0 0 0 0
    go_wp2
    refine bodyPost_ret (v := .bool true) (by simp [results, Try.results5, go_sem]) rfl ⟨rfl, HB.out⟩
end Go.Proofs.Ytkdbmlddndgjjaa
