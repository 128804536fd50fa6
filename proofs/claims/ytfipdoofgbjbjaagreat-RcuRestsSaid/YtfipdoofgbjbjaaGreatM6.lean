/- Walks and plain laws for this claim, part 6. No condition but sizes. -/
import Derived.Test.YtfipdoofgbjbjaaGreatM5
import Derived.Test.YtfipdoofgbjbjaaGreatM1
import Derived.Test.YtfipdoofgbjbjaaGreatM3
import Derived.Laws.MakeOwn
/- package rcu: does. No condition but sizes. -/
namespace Go.Proofs.YtfipdoofgbjbjaaGreat
open Go.RowKit
attribute [local go_sem] Oper.semAt_some
theorem Blk.neT {w : World} {g k : Nat} {t u : TypeId} {cs ds : Array Value} (h : Blk w g t cs) (h2 : Blk w k u ds) (hne : t ≠ u) : g ≠ k := by
  intro e
  subst e
  unfold Blk at h h2
  rw [h] at h2
  simp at h2
  exact hne h2.2
theorem rneed_yesB (e : Int) (w : World) : Calls Tryz.prog 46 #[.bool true, .int .i64 e] w fun x w' => x = .returned (.tuple #[]) ∧ Below w.heap.size w w' :=
  (rneed_yes e w).mono fun _ _ ⟨h1, h2⟩ => ⟨h1, h2 ▸ Below.refl _ _⟩
section
variable {w w' : World} {l gc : Nat} {s : St} {g : Gr} {es : List Qe} {what : Int} {ran : List Int} {a : Ra} {R : Option Addr} {nr kr cp : Nat}
/-- each kind has its method -/
theorem meth_any {k : Int} (hk : 1 ≤ k ∧ k ≤ 5) (cp : Nat) (what : Int) (nr : Nat) (hnr : nr ≤ 1000000) : ∃ F, (k = 1 ∧ F = 72 ∨ k = 2 ∧ F = 73 ∨ k = 3 ∧ F = 74 ∨ k = 4 ∧ F = 49 ∨ k = 5 ∧ F = 51) ∧ Enters Tryz.prog F ∧
    ∀ (w : World) (l gc : Nat) (s : St) (g : Gr) (es : List Qe) (ran : List Int) (a : Ra) (R : Option Addr) (kr : Nat), CA w l gc s g es cp what ran a R nr kr → RcGood s g (ql es) → cp < es.length → Calls Tryz.prog F #[ptr gc] w (MPost l gc s g es ran a nr (k, (cp : Int), what) w) := by
  have h5 : k = 1 ∨ k = 2 ∨ k = 3 ∨ k = 4 ∨ k = 5 := by omega
  rcases h5 with rfl | rfl | rfl | rfl | rfl
  · exact ⟨_, .inl ⟨rfl, rfl⟩, enters_of Tryz.func72 (by kernel_rfl) rfl, fun w l gc s g es ran a R kr h hg hc => m_reads true _ rfl h hg hc what⟩
  · exact ⟨_, .inr (.inl ⟨rfl, rfl⟩), enters_of Tryz.func73 (by kernel_rfl) rfl, fun w l gc s g es ran a R kr h hg hc => m_reads false _ rfl h hg hc what⟩
  · exact ⟨_, .inr (.inr (.inl ⟨rfl, rfl⟩)), enters_of Tryz.func74 (by kernel_rfl) rfl, fun w l gc s g es ran a R kr h hg hc => m_call h hg hc⟩
  · exact ⟨_, .inr (.inr (.inr (.inl ⟨rfl, rfl⟩))), enters_of Tryz.func49 (by kernel_rfl) rfl, fun w l gc s g es ran a R kr h hg hc => m_pick h hg hc what⟩
  · exact ⟨_, .inr (.inr (.inr (.inr ⟨rfl, rfl⟩))), enters_of Tryz.func51 (by kernel_rfl) rfl, fun w l gc s g es ran a R kr h hg hc => m_run h hg hc hnr what⟩
end
theorem zfn14 (w : World) : (zeroValue 1).run Tryz.prog w = .ok .nilFunc w := by kernel_rfl
theorem opF_kind {s : St} {g : Gr} {qs : Qs} {o : Int × Int × Int} (h : o.1 < 1 ∨ 5 < o.1) : opF s g qs o = (242, s, g, qs, []) := if_pos h
theorem opF_cpu {s : St} {g : Gr} {qs : Qs} {o : Int × Int × Int} (hk : 1 ≤ o.1 ∧ o.1 ≤ 5) (h : o.2.1 < 0 ∨ (qs.length : Int) ≤ o.2.1) : opF s g qs o = (2, s, g, qs, []) := by
  unfold opF; rw [if_neg (by omega), if_pos h]
set_option maxRecDepth 100000 in
set_option maxHeartbeats 8000000 in
theorem rdoes_any (l gc : Nat) (s : St) (g : Gr) (es : List Qe) (is0 what0 : Int) (ran : List Int) (a : Ra) (R : Option Addr) (nr kr : Nat) (o : Int × Int × Int) (w : World) (h : CA w l gc s g es is0 what0 ran a R nr kr) (hg : RcGood s g (ql es)) (hnr : nr ≤ 1000000) :
    Calls Tryz.prog 35 #[ptr gc, .agg #[.int .i64 o.1, .int .i64 o.2.1, .int .u64 o.2.2]] w (MPost l gc s g es ran a nr o w) := by
  obtain ⟨ok, oc, ow⟩ := o
  dsimp only
  have HC := hid h; have HG := hid hg; have HB := hid (Below.refl w.heap.size w); have HNR := hid hnr
  have hl := hid (show es.length = a.nq from h.qs.len)
  clear h hg hnr
  have bx := below_box w (.cells #[.int .i64 ok, .int .i64 oc, .int .u64 ow] 37)
  replace HC := hid (HC.out.step bx); replace HB := hid (below_then HB.out bx)
  clear bx
  have PO := hid (Blk.new w 37 #[.int .i64 ok, .int .i64 oc, .int .u64 ow])
  go_enter Tryz.func35, Tryz.ntmps35
  go_upto_region 1 with fail
  generalize w.alloc (.cells #[.int .i64 ok, .int .i64 oc, .int .u64 ow] 37) = W2 at *
  have hmf : ∀ (fn : Fn) (first cap : Array Value) (w : World), (Instr.makeFunc fn first cap).run Tryz.prog w = .ok (.func fn first cap) w := fun _ _ _ _ => rfl
  have hmk := run_mk_new (P := Tryz.prog) 111
  have hu0 : (Instr.mapUpdate 111 (.map (some W2.heap.size)) (.int .i64 1) (.func (.func 72) #[ptr gc] #[])).run Tryz.prog (W2.alloc (.map #[] 0)) = .ok () (W2.alloc (.map #[⟨.int .i64 1, .func (.func 72) #[ptr gc] #[], 0⟩] 1)) := run_upd_new Tryz.underlying111 Tryz.underlying3 W2 _ 0 _ _ rfl
  have hu1 : (Instr.mapUpdate 111 (.map (some W2.heap.size)) (.int .i64 2) (.func (.func 73) #[ptr gc] #[])).run Tryz.prog (W2.alloc (.map #[⟨.int .i64 1, .func (.func 72) #[ptr gc] #[], 0⟩] 1)) = .ok () (W2.alloc (.map #[⟨.int .i64 1, .func (.func 72) #[ptr gc] #[], 0⟩, ⟨.int .i64 2, .func (.func 73) #[ptr gc] #[], 1⟩] 2)) := run_upd_new Tryz.underlying111 Tryz.underlying3 W2 _ 1 _ _ rfl
  have hu2 : (Instr.mapUpdate 111 (.map (some W2.heap.size)) (.int .i64 3) (.func (.func 74) #[ptr gc] #[])).run Tryz.prog (W2.alloc (.map #[⟨.int .i64 1, .func (.func 72) #[ptr gc] #[], 0⟩, ⟨.int .i64 2, .func (.func 73) #[ptr gc] #[], 1⟩] 2)) = .ok () (W2.alloc (.map #[⟨.int .i64 1, .func (.func 72) #[ptr gc] #[], 0⟩, ⟨.int .i64 2, .func (.func 73) #[ptr gc] #[], 1⟩, ⟨.int .i64 3, .func (.func 74) #[ptr gc] #[], 2⟩] 3)) := run_upd_new Tryz.underlying111 Tryz.underlying3 W2 _ 2 _ _ rfl
  have hu3 : (Instr.mapUpdate 111 (.map (some W2.heap.size)) (.int .i64 4) (.func (.func 49) #[ptr gc] #[])).run Tryz.prog (W2.alloc (.map #[⟨.int .i64 1, .func (.func 72) #[ptr gc] #[], 0⟩, ⟨.int .i64 2, .func (.func 73) #[ptr gc] #[], 1⟩, ⟨.int .i64 3, .func (.func 74) #[ptr gc] #[], 2⟩] 3)) = .ok () (W2.alloc (.map #[⟨.int .i64 1, .func (.func 72) #[ptr gc] #[], 0⟩, ⟨.int .i64 2, .func (.func 73) #[ptr gc] #[], 1⟩, ⟨.int .i64 3, .func (.func 74) #[ptr gc] #[], 2⟩, ⟨.int .i64 4, .func (.func 49) #[ptr gc] #[], 3⟩] 4)) := run_upd_new Tryz.underlying111 Tryz.underlying3 W2 _ 3 _ _ rfl
  have hu4 : (Instr.mapUpdate 111 (.map (some W2.heap.size)) (.int .i64 5) (.func (.func 51) #[ptr gc] #[])).run Tryz.prog (W2.alloc (.map #[⟨.int .i64 1, .func (.func 72) #[ptr gc] #[], 0⟩, ⟨.int .i64 2, .func (.func 73) #[ptr gc] #[], 1⟩, ⟨.int .i64 3, .func (.func 74) #[ptr gc] #[], 2⟩, ⟨.int .i64 4, .func (.func 49) #[ptr gc] #[], 3⟩] 4)) = .ok () (W2.alloc (.map #[⟨.int .i64 1, .func (.func 72) #[ptr gc] #[], 0⟩, ⟨.int .i64 2, .func (.func 73) #[ptr gc] #[], 1⟩, ⟨.int .i64 3, .func (.func 74) #[ptr gc] #[], 2⟩, ⟨.int .i64 4, .func (.func 49) #[ptr gc] #[], 3⟩, ⟨.int .i64 5, .func (.func 51) #[ptr gc] #[], 4⟩] 5)) := run_upd_new Tryz.underlying111 Tryz.underlying3 W2 _ 4 _ _ rfl
  go_upto_region 2 with fail
  clear hmk hmf hu0 hu1 hu2 hu3 hu4
  have HMP := hid ((MapKept.heap_alloc W2 (.map #[⟨.int .i64 1, .func (.func 72) #[ptr gc] #[], 0⟩, ⟨.int .i64 2, .func (.func 73) #[ptr gc] #[], 1⟩, ⟨.int .i64 3, .func (.func 74) #[ptr gc] #[], 2⟩, ⟨.int .i64 4, .func (.func 49) #[ptr gc] #[], 3⟩, ⟨.int .i64 5, .func (.func 51) #[ptr gc] #[], 4⟩] 5)).1)
  have bx := below_box W2 (.map #[⟨.int .i64 1, .func (.func 72) #[ptr gc] #[], 0⟩, ⟨.int .i64 2, .func (.func 73) #[ptr gc] #[], 1⟩, ⟨.int .i64 3, .func (.func 74) #[ptr gc] #[], 2⟩, ⟨.int .i64 4, .func (.func 49) #[ptr gc] #[], 3⟩, ⟨.int .i64 5, .func (.func 51) #[ptr gc] #[], 4⟩] 5)
  replace HC := hid (HC.out.step bx); replace PO := hid (PO.out.step bx); replace HB := hid (below_then HB.out bx)
  clear bx
  generalize W2.alloc (.map #[⟨.int .i64 1, .func (.func 72) #[ptr gc] #[], 0⟩, ⟨.int .i64 2, .func (.func 73) #[ptr gc] #[], 1⟩, ⟨.int .i64 3, .func (.func 74) #[ptr gc] #[], 2⟩, ⟨.int .i64 4, .func (.func 49) #[ptr gc] #[], 3⟩, ⟨.int .i64 5, .func (.func 51) #[ptr gc] #[], 4⟩] 5) = W3 at *
  by_cases hk : 1 ≤ ok ∧ ok ≤ 5
  rotate_left
  ·skip
   have HOP := hid (opF_kind (s := s) (g := g) (qs := ql es) (o := (ok, oc, ow)) (by show ok < 1 ∨ 5 < ok; omega))
   have hlk := run_look_no (P := Tryz.prog) Tryz.underlying111 Tryz.underlying3 HMP.out ok (zfn14 _) (by show Instr.findNow _ _ [_, _, _, _, _] 0 = _; rw [find_ne (by omega), find_ne (by omega), find_ne (by omega), find_ne (by omega), find_ne (by omega)]; rfl)
   clear hk
   obtain ⟨y00, y01, y02, yf0⟩ := PO.out.cells3
   go_wp2_with fail
   clear hlk y00 y01 y02 yf0
   refine (rneed_no 242 _).mono ?_
   rintro e v1 ⟨rfl, rfl⟩
   unfold leaves
   go_wp2_with fail
   refine ⟨rfl, ?_⟩
   unfold MPost
   rw [HOP.out]
   exact ⟨.ofBelow HB.out, .inr ⟨by simp, rfl⟩⟩
  by_cases hoc : oc < 0 ∨ (es.length : Int) ≤ oc
  ·skip
   have HOP := hid (opF_cpu (s := s) (g := g) (qs := ql es) (o := (ok, oc, ow)) hk (by show oc < 0 ∨ ((ql es).length : Int) ≤ oc; rw [ql_len]; exact hoc))
   obtain ⟨F, hlk, HF, HM⟩ : ∃ F, (Instr.lookup 111 (.map (some W2.heap.size)) (.int .i64 ok) true).run Tryz.prog W3 = .ok (.tuple #[.func (.func F) #[ptr gc] #[], .bool true]) W3 ∧ Hid (Enters Tryz.prog F) ∧ Hid (∀ (w : World) (l gc : Nat) (s : St) (g : Gr) (es : List Qe) (ran : List Int) (a : Ra) (R : Option Addr) (kr : Nat), CA w l gc s g es (0 : Nat) ow ran a R nr kr → RcGood s g (ql es) → 0 < es.length → Calls Tryz.prog F #[ptr gc] w (MPost l gc s g es ran a nr (ok, ((0 : Nat) : Int), ow) w)) := by
     obtain ⟨F, hF, h1, h2⟩ := meth_any hk (0) ow nr HNR.out
     refine ⟨F, ?_, h1, h2⟩
     rcases hF with ⟨rfl, rfl⟩ | ⟨rfl, rfl⟩ | ⟨rfl, rfl⟩ | ⟨rfl, rfl⟩ | ⟨rfl, rfl⟩
     · exact run_look_yes (P := Tryz.prog) Tryz.underlying111 Tryz.underlying3 HMP.out 1 (i := 0) (v := .func (.func 72) #[ptr gc] #[]) rfl
     · exact run_look_yes (P := Tryz.prog) Tryz.underlying111 Tryz.underlying3 HMP.out 2 (i := 1) (v := .func (.func 73) #[ptr gc] #[]) rfl
     · exact run_look_yes (P := Tryz.prog) Tryz.underlying111 Tryz.underlying3 HMP.out 3 (i := 2) (v := .func (.func 74) #[ptr gc] #[]) rfl
     · exact run_look_yes (P := Tryz.prog) Tryz.underlying111 Tryz.underlying3 HMP.out 4 (i := 3) (v := .func (.func 49) #[ptr gc] #[]) rfl
     · exact run_look_yes (P := Tryz.prog) Tryz.underlying111 Tryz.underlying3 HMP.out 5 (i := 4) (v := .func (.func 51) #[ptr gc] #[]) rfl
   obtain ⟨y00, y01, y02, yf0⟩ := PO.out.cells3
   go_upto_region 3 with fail
   clear hlk hk HM HF y00 y01 y02 yf0
   go_wp2_with fail
   refine (rneed_yes 242 _).mono ?_
   rintro e v1 ⟨rfl, rfl⟩
   go_upto_region 4 with fail
   by_cases h0 : 0 ≤ oc
   ·skip
    have d1 : decide (0 ≤ oc) = true := decide_eq_true h0
    have d1' : decide (oc ≥ 0) = true := decide_eq_true h0
    have d2 : decide (oc < (a.nq : Int)) = false := decide_eq_false (by have := hl.out; omega)
    clear h0 hoc
    have bx := (Below.refl v1.heap.size v1).drew
    replace HC := hid (HC.out.step bx); replace PO := hid (PO.out.step bx); replace HB := hid (below_then HB.out bx)
    clear bx
    have hszd := hid (show v1.drew.heap.size = v1.heap.size from rfl)
    refine wp_region_qp ?_
    refine wp_region_held_drew (S := (fun W' : World => W'.cell? ⟨gc, 7, none⟩ = some (.slice a.Q a.nq a.kq) ∧ W'.cell? ⟨w.heap.size, 1, none⟩ = some (.int .i64 oc))) (by kernel_rfl) ⟨(HC.out.box).cells11.2.2.2.2.2.2.2.1, PO.out.cells3.2.1⟩ (fun hS => ?_)
    generalize v1.drew = Wd at *
    refine tk 0 hS ?_ (hQ := fun _ _ _ h => QP.put h)
    refine tk 1 hS ?_ (hQ := fun _ _ _ h => QP.put h)
    refine tk 2 hS ?_ (hQ := fun _ _ _ h => QP.put h)
    refine tk 3 hS ?_ (hQ := fun _ _ _ h => QP.put h)
    refine tk 4 hS ?_ (hQ := fun _ _ _ h => QP.put h)
    refine tk 5 hS ?_ (hQ := fun _ _ _ h => QP.put h)
    refine tk 6 hS ?_ (hQ := fun _ _ _ h => QP.put h)
    refine tk 7 hS ?_ (hQ := fun _ _ _ h => QP.put h)
    refine tk 8 hS ?_ (hQ := fun _ _ _ h => QP.put h)
    refine tk 9 hS ?_ (hQ := fun _ _ _ h => QP.put h)
    refine tk 10 hS ?_ (hQ := fun _ _ _ h => QP.put h)
    refine tk 11 hS ?_ (hQ := fun _ _ _ h => QP.put h)
    refine tk 12 hS ?_ (hQ := fun _ _ _ h => QP.put h)
    refine tk 13 hS ?_ (hQ := fun _ _ _ h => QP.put h)
    refine rdy [14] (csy (fun K hK => ?_) AllReadyH.nil)
    go_simp
    refine (rneed_no 2 Wd).mono ?_
    rintro e Wp ⟨rfl, rfl⟩
    unfold leaves
    intro tm
    have hfin : ({ tmps := tm, defers := [] } : Act).defers = [] ∧ MPost l gc s g es ran a nr (ok, oc, ow) w (leaves 2) Wp := by
      refine ⟨rfl, ?_⟩
      unfold MPost
      rw [HOP.out]
      exact ⟨.ofBelow HB.out, .inr ⟨by simp, rfl⟩⟩
    exact hfin
   ·skip
    have d1 : decide (0 ≤ oc) = false := decide_eq_false h0
    have d1' : decide (oc ≥ 0) = false := decide_eq_false h0
    clear h0 hoc
    have bx := (Below.refl v1.heap.size v1).drew
    replace HC := hid (HC.out.step bx); replace PO := hid (PO.out.step bx); replace HB := hid (below_then HB.out bx)
    clear bx
    have hszd := hid (show v1.drew.heap.size = v1.heap.size from rfl)
    refine wp_region_qp ?_
    refine wp_region_held_drew (S := (fun W' : World => W'.cell? ⟨gc, 7, none⟩ = some (.slice a.Q a.nq a.kq) ∧ W'.cell? ⟨w.heap.size, 1, none⟩ = some (.int .i64 oc))) (by kernel_rfl) ⟨(HC.out.box).cells11.2.2.2.2.2.2.2.1, PO.out.cells3.2.1⟩ (fun hS => ?_)
    generalize v1.drew = Wd at *
    refine tk 0 hS ?_ (hQ := fun _ _ _ h => QP.put h)
    refine tk 1 hS ?_ (hQ := fun _ _ _ h => QP.put h)
    refine tk 2 hS ?_ (hQ := fun _ _ _ h => QP.put h)
    refine tk 3 hS ?_ (hQ := fun _ _ _ h => QP.put h)
    refine tku 4 hS ?_ (hQ := fun _ _ _ h => QP.put h)
    refine tku 5 hS ?_ (hQ := fun _ _ _ h => QP.put h)
    refine tku 6 hS ?_ (hQ := fun _ _ _ h => QP.put h)
    refine tku 7 hS ?_ (hQ := fun _ _ _ h => QP.put h)
    refine tku 8 hS ?_ (hQ := fun _ _ _ h => QP.put h)
    refine tku 9 hS ?_ (hQ := fun _ _ _ h => QP.put h)
    refine tku 10 hS ?_ (hQ := fun _ _ _ h => QP.put h)
    refine tku 11 hS ?_ (hQ := fun _ _ _ h => QP.put h)
    refine tku 12 hS ?_ (hQ := fun _ _ _ h => QP.put h)
    refine tk 13 hS ?_ (hQ := fun _ _ _ h => QP.put h)
    refine rdy [14] (csy (fun K hK => ?_) AllReadyH.nil)
    go_simp
    refine (rneed_no 2 Wd).mono ?_
    rintro e Wp ⟨rfl, rfl⟩
    unfold leaves
    intro tm
    have hfin : ({ tmps := tm, defers := [] } : Act).defers = [] ∧ MPost l gc s g es ran a nr (ok, oc, ow) w (leaves 2) Wp := by
      refine ⟨rfl, ?_⟩
      unfold MPost
      rw [HOP.out]
      exact ⟨.ofBelow HB.out, .inr ⟨by simp, rfl⟩⟩
    exact hfin
  obtain ⟨cp, rfl⟩ := Int.eq_ofNat_of_zero_le (show 0 ≤ oc by omega)
  have hcp := hid (show cp < es.length by omega)
  obtain ⟨F, hlk, HF, HM⟩ : ∃ F, (Instr.lookup 111 (.map (some W2.heap.size)) (.int .i64 ok) true).run Tryz.prog W3 = .ok (.tuple #[.func (.func F) #[ptr gc] #[], .bool true]) W3 ∧ Hid (Enters Tryz.prog F) ∧ Hid (∀ (w : World) (l gc : Nat) (s : St) (g : Gr) (es : List Qe) (ran : List Int) (a : Ra) (R : Option Addr) (kr : Nat), CA w l gc s g es (cp : Nat) ow ran a R nr kr → RcGood s g (ql es) → cp < es.length → Calls Tryz.prog F #[ptr gc] w (MPost l gc s g es ran a nr (ok, ((cp : Nat) : Int), ow) w)) := by
    obtain ⟨F, hF, h1, h2⟩ := meth_any hk (cp) ow nr HNR.out
    refine ⟨F, ?_, h1, h2⟩
    rcases hF with ⟨rfl, rfl⟩ | ⟨rfl, rfl⟩ | ⟨rfl, rfl⟩ | ⟨rfl, rfl⟩ | ⟨rfl, rfl⟩
    · exact run_look_yes (P := Tryz.prog) Tryz.underlying111 Tryz.underlying3 HMP.out 1 (i := 0) (v := .func (.func 72) #[ptr gc] #[]) rfl
    · exact run_look_yes (P := Tryz.prog) Tryz.underlying111 Tryz.underlying3 HMP.out 2 (i := 1) (v := .func (.func 73) #[ptr gc] #[]) rfl
    · exact run_look_yes (P := Tryz.prog) Tryz.underlying111 Tryz.underlying3 HMP.out 3 (i := 2) (v := .func (.func 74) #[ptr gc] #[]) rfl
    · exact run_look_yes (P := Tryz.prog) Tryz.underlying111 Tryz.underlying3 HMP.out 4 (i := 3) (v := .func (.func 49) #[ptr gc] #[]) rfl
    · exact run_look_yes (P := Tryz.prog) Tryz.underlying111 Tryz.underlying3 HMP.out 5 (i := 4) (v := .func (.func 51) #[ptr gc] #[]) rfl
  obtain ⟨y00, y01, y02, yf0⟩ := PO.out.cells3
  go_upto_region 3 with fail
  clear hlk hk y00 y01 y02 yf0
  go_wp2_with fail
  refine (rneed_yes 242 _).mono ?_
  rintro e v1 ⟨rfl, rfl⟩
  go_upto_region 4 with fail
  have d1 : decide ((0 : Int) ≤ (cp : Int)) = true := decide_eq_true (by omega)
  have d1' : decide ((cp : Int) ≥ 0) = true := decide_eq_true (by omega)
  have d2 : decide ((cp : Int) < (a.nq : Int)) = true := decide_eq_true (by have := hl.out; have := hcp.out; omega)
  have d2n : decide (cp < a.nq) = true := decide_eq_true (by have := hl.out; have := hcp.out; omega)
  clear hoc
  have bx := (Below.refl v1.heap.size v1).drew
  replace HC := hid (HC.out.step bx); replace PO := hid (PO.out.step bx); replace HB := hid (below_then HB.out bx)
  clear bx
  have hszd := hid (show v1.drew.heap.size = v1.heap.size from rfl)
  refine wp_region_noPanic ?_
  refine wp_region_held_drew (S := (fun W' : World => W'.cell? ⟨gc, 7, none⟩ = some (.slice a.Q a.nq a.kq) ∧ W'.cell? ⟨w.heap.size, 1, none⟩ = some (.int .i64 cp))) (by kernel_rfl) ⟨(HC.out.box).cells11.2.2.2.2.2.2.2.1, PO.out.cells3.2.1⟩ (fun hS => ?_)
  generalize v1.drew = Wd at *
  refine tk 0 hS ?_
  refine tk 1 hS ?_
  refine tk 2 hS ?_
  refine tk 3 hS ?_
  refine tk 4 hS ?_
  refine tk 5 hS ?_
  refine tk 6 hS ?_
  refine tk 7 hS ?_
  refine tk 8 hS ?_
  refine tk 9 hS ?_
  refine tk 10 hS ?_
  refine tk 11 hS ?_
  refine tk 12 hS ?_
  refine tk 13 hS ?_
  refine rdy [14] (csy (fun K hK => ?_) AllReadyH.nil)
  go_simp
  refine (rneed_yesB 2 _).mono ?_
  rintro e w14 ⟨rfl, hb⟩
  have hsz0 := hid (show Wd.heap.size ≤ w14.heap.size from hb.size)
  replace HC := hid (HC.out.step hb); replace PO := hid (PO.out.step hb); replace HB := hid (below_then HB.out hb)
  clear hb
  go_wp2_with fail
  clear hS
  refine ky hK ⟨(HC.out.box).cells11.2.2.2.2.2.2.2.1, PO.out.cells3.2.1⟩ fun hS => ?_
  clear hK K
  refine wpAnyH_done (by kernel_rfl) ?_ _
  refine NoPanic.normal ?_
  clear hS
  clear d1 d1' d2 d2n hszd
  go_upto_region 5 with fail
  have bx := (Below.refl w14.heap.size w14).drew
  replace HC := hid (HC.out.step bx); replace PO := hid (PO.out.step bx); replace HB := hid (below_then HB.out bx)
  clear bx
  have hszd := hid (show w14.drew.heap.size = w14.heap.size from rfl)
  refine wp_region_noPanic ?_
  refine wp_region_held_tail 9 (fun W' : World => W'.cell? ⟨w.heap.size, 1, none⟩ = some (.int .i64 cp) ∧ W'.cell? ⟨w.heap.size, 2, none⟩ = some (.int .u64 ow)) #[false, false, false, false, false, false, false, false, false, false, false, false] (by kernel_rfl) ⟨PO.out.cells3.2.1, PO.out.cells3.2.2.1⟩ (by kernel_rfl) (by kernel_rfl) (fun hS => ?_)
  generalize w14.drew = Wd at *
  refine tkT 0 hS ?_
  refine tkT 1 hS ?_
  refine tkT 2 hS ?_
  refine tkT 3 hS ?_
  refine tkT 4 hS ?_
  refine tkT 5 hS ?_
  refine tkT 6 hS ?_
  refine tkT 7 hS ?_
  refine rdyT [8] (csyT (fun K hK => ?_) AllReadyT.nil)
  obtain ⟨y0, y1, y2, y3, y4, y5, y6, y7, y8, y9, y10, yf⟩ := HC.out.box.cells11
  go_simp
  clear y0 y1 y2 y3 y4 y5 y6 y7 y8 y9 y10 yf
  have hgr := grown_set (World.grownBy.refl Wd (some gc)) 8 (.int .i64 cp)
  have HG2 := hid ((GrownP.ofBelow (p := fun i => l ≤ i) HB.out).thenG hgr (fun r e => by cases e; exact .inr HC.out.lg))
  replace PO := hid (PO.out.grown hgr (by intro e; have := HC.out.box.neT PO.out (by decide); exact this (Option.some.inj e).symm))
  replace HC := hid (show CA (Wd.setCell ⟨gc, 8, none⟩ (.int .i64 cp)) l gc s g es cp what0 ran a R nr kr from (HC.out.cx.boxed HC.out.box hgr).ca (HC.out.box.setCell 8 _))
  clear hgr HB
  generalize Wd.setCell ⟨gc, 8, none⟩ (.int .i64 cp) = Wc8 at *
  clear hS
  refine kyT hK ⟨PO.out.cells3.2.1, PO.out.cells3.2.2.1⟩ fun hS => ?_
  clear hK K
  refine wpAnyT_done (by kernel_rfl) ?_
  simp only [List.drop_succ_cons, List.drop_zero]
  clear hS
  obtain ⟨y0, y1, y2, y3, y4, y5, y6, y7, y8, y9, y10, yf⟩ := HC.out.box.cells11
  go_wp2_with fail
  refine NoPanic.normal ?_
  clear y0 y1 y2 y3 y4 y5 y6 y7 y8 y9 y10 yf
  have hgr := grown_set (World.grownBy.refl Wc8 (some gc)) 9 (.int .u64 ow)
  replace HG2 := hid (HG2.out.thenG hgr (fun r e => by cases e; exact .inr HC.out.lg))
  replace HC := hid (show CA (Wc8.setCell ⟨gc, 9, none⟩ (.int .u64 ow)) l gc s g es cp ow ran a R nr kr from (HC.out.cx.boxed HC.out.box hgr).ca (HC.out.box.setCell 9 _))
  clear hgr PO
  generalize Wc8.setCell ⟨gc, 9, none⟩ (.int .u64 ow) = W6 at *
  have hEn := HF.out
  go_wp2_with fail
  rw [HF.out #[ptr gc] W6]
  rw [Oper.upon_enter]
  clear hEn
  refine (HM.out W6 l gc s g es ran a R kr HC.out HG.out hcp.out).mono ?_
  rintro x W7 ⟨hg7, ⟨h0, rfl, hx⟩ | ⟨h0, rfl⟩⟩
  ·have HX := hid hx; have HG7 := hid hg7; have H0 := hid h0
   clear hx hg7 h0
   go_wp2
   (try go_end0)
   refine ⟨HG2.out.trans HG7.out, .inl ⟨H0.out, rfl, HX.out⟩⟩
  ·have HG7 := hid hg7; have H0 := hid h0
   clear hg7 h0
   unfold leaves
   go_wp2_with fail
   exact ⟨rfl, HG2.out.trans HG7.out, .inr ⟨H0.out, rfl⟩⟩
end Go.Proofs.YtfipdoofgbjbjaaGreat

/- package rcu: what may be stays so; ops, one behind the other, plainly. No condition. -/
namespace Go.Proofs.YtfipdoofgbjbjaaGreat
open Go.RowKit
theorem qg_over {o o' : Int} {l : List Cb} (h : QGood o l) (h1 : o ≤ o') (h2 : o' ≤ 9223372036854775806) : QGood o' l :=
  ⟨h2, h.2.1, h.2.2.1, fun k hk => by have := h.2.2.2 k hk; omega⟩
theorem per_drop (l : List Cb) (k i : Nat) : perAt (l.drop k) i = perAt l (k + i) := by unfold perAt; rw [List.getElem?_drop]
theorem qg_drop {o : Int} {l : List Cb} (h : QGood o l) (k : Nat) : QGood o (l.drop k) := by
  refine ⟨h.1, by rw [List.length_drop]; have := h.2.1; omega, fun i hi h1 => ?_, fun i hi => ?_⟩
  · rw [List.length_drop] at hi
    rw [per_drop, per_drop, show k + (i - 1) = (k + i) - 1 by omega]
    exact h.2.2.1 (k + i) (by omega) (by omega)
  · rw [List.length_drop] at hi
    rw [per_drop]
    exact h.2.2.2 (k + i) (by omega)
theorem qg_snoc {o a : Int} {l : List Cb} (h : QGood o l) (x : Int) (h2 : a ≤ 2) (hl : l.length < 16) (hu : ¬ (0 < l.length ∧ o + a < perAt l (l.length - 1))) : QGood o (l ++ [(o + a, x)]) := by
  have hat : ∀ k, k < l.length → perAt (l ++ [(o + a, x)]) k = perAt l k := fun k hk => by unfold perAt; rw [List.getElem?_append_left hk]
  have hlast : perAt (l ++ [(o + a, x)]) l.length = o + a := by unfold perAt; rw [List.getElem?_append_right (Nat.le_refl _)]; simp
  refine ⟨h.1, by simp; omega, fun k hk h1 => ?_, fun k hk => ?_⟩
  · simp at hk
    by_cases hk2 : k < l.length
    · rw [hat k hk2, hat (k - 1) (by omega)]
      exact h.2.2.1 k hk2 h1
    · obtain rfl : k = l.length := by omega
      rw [hlast, hat (l.length - 1) (by omega)]
      omega
  · simp at hk
    by_cases hk2 : k < l.length
    · rw [hat k hk2]
      exact h.2.2.2 k hk2
    · obtain rfl : k = l.length := by omega
      rw [hlast]
      omega
theorem putF_ok {o : Int} {l : List Cb} {x a : Int} (h : (putF o l x a).2.2 = 0) : QGood o l ∧ 1 ≤ a ∧ a ≤ 2 ∧ ¬ (0 < l.length ∧ o + a < perAt l (l.length - 1)) ∧ l.length < 16 ∧ putF o l x a = (o, l ++ [(o + a, x)], 0) := by
  unfold putF at h ⊢
  split at h
  · exact absurd h (by simp)
  · rename_i h1
    rw [if_neg h1]
    split at h
    · exact absurd h (by simp)
    · rename_i h2
      rw [if_neg h2]
      split at h
      · exact absurd h (by simp)
      · rename_i h3
        rw [if_neg h3]
        split at h
        · exact absurd h (by simp)
        · rename_i h4
          rw [if_neg h4]
          have hg : QGood o l := Classical.not_not.1 h1
          exact ⟨hg, by omega, by omega, h3, by have := hg.2.1; omega, rfl⟩
theorem takeF_ok {o : Int} {l : List Cb} (h : (takeF o l).2.2.2 = 0) : QGood o l ∧ 0 < doneN o l ∧ takeF o l = (o, l.drop 1, (l[0]?.getD (0, 0)).2, 0) := by
  unfold takeF at h ⊢
  split at h
  · exact absurd h (by simp)
  · rename_i h1
    rw [if_neg h1]
    split at h
    · exact absurd h (by simp)
    · rename_i h2
      rw [if_neg h2]
      exact ⟨Classical.not_not.1 h1, by omega, rfl⟩
theorem gPick_ak (g : Gr) (k : Nat) (q : Bool) : (gPick g k q).ak = g.ak := by
  unfold gPick gReport gBegin
  split
  · split <;> rfl
  · split <;> rfl
theorem overs_eq {g : Gr} {qs : Qs} {s : St} (hg : RcGood s g qs) (k : Nat) (q : Bool) : overs g.dn (gPick g k q).dn qs = qs.map fun x => (x.1, (gPick g k q).dn) := by
  unfold overs
  split
  · rfl
  · rename_i h
    have hd := gPick_dn hg.1.2.1 k q
    have e : (gPick g k q).dn = g.dn := by omega
    rw [e]
    conv => lhs; rw [← List.map_id qs]
    refine List.map_congr_left fun x hx => ?_
    have := (hg.2.2 x hx).2.1
    rw [← this]; rfl
/-- what may be stays so -/
theorem good_opF {s : St} {g : Gr} {qs : Qs} {o : Int × Int × Int} (h : RcGood s g qs) (hc : (opF s g qs o).1 = 0) : RcGood (opF s g qs o).2.1 (opF s g qs o).2.2.1 (opF s g qs o).2.2.2.1 := by
  obtain ⟨k, c, x⟩ := o
  by_cases h1 : k < 1 ∨ 5 < k
  · unfold opF at hc; rw [if_pos h1] at hc; exact absurd hc (by simp)
  by_cases h2 : c < 0 ∨ (qs.length : Int) ≤ c
  · unfold opF at hc; rw [if_neg h1, if_pos h2] at hc; exact absurd hc (by simp)
  obtain ⟨cp, rfl⟩ := Int.eq_ofNat_of_zero_le (show 0 ≤ c by omega)
  have hcp : cp < qs.length := by omega
  rw [opF_lt (by omega) hcp] at hc ⊢
  have hg := h
  obtain ⟨⟨b1, b2, b3⟩, hlen, hq⟩ := h
  by_cases k1 : k = 1 ∨ k = 2
  · rw [if_pos k1] at hc ⊢
    have hl : (stN s ((cp : Int), decide (k = 1))).2.1.length = s.2.1.length := stepNs_len _ _ _
    exact ⟨⟨good_step b1 hc, b2, hl.trans b3⟩, hlen, hq⟩
  rw [if_neg k1] at hc ⊢
  by_cases k3 : k = 3
  · rw [if_pos k3] at hc ⊢
    by_cases hf : 2147483645 < gNext g
    · rw [if_pos hf] at hc; exact absurd hc (by simp)
    rw [if_neg hf] at hc ⊢
    obtain ⟨p1, p2, p3, p4, p5, p6⟩ := putF_ok hc
    rw [p6]
    have hm : (qs[cp]?.getD ([], 0)) ∈ qs := by rw [List.getElem?_eq_getElem hcp]; exact List.getElem_mem _
    obtain ⟨q1, q2, q3⟩ := hq _ hm
    refine ⟨⟨b1, gAsk_ok b2 (by omega), b3⟩, by rw [List.length_set]; exact hlen, fun y hy => ?_⟩
    rcases List.mem_or_eq_of_mem_set hy with hy | rfl
    · obtain ⟨r1, r2, r3⟩ := hq y hy
      exact ⟨r1, r2, fun z hz => by have := r3 z hz; show z.1 ≤ max g.ak (gNext g); omega⟩
    · refine ⟨qg_snoc p1 _ p3 p5 p4, q2, fun z hz => ?_⟩
      rcases List.mem_append.1 hz with hz | hz
      · have := q3 z hz; show z.1 ≤ max g.ak (gNext g); omega
      · obtain rfl := List.mem_singleton.1 hz
        show (qs[cp]?.getD ([], 0)).2 + (gNext g - g.dn) ≤ max g.ak (gNext g); omega
  rw [if_neg k3] at hc ⊢
  by_cases k4 : k = 4
  · rw [if_pos k4]
    show RcGood s (gPick g cp _) (overs g.dn (gPick g cp _).dn qs)
    rw [overs_eq hg]
    have hd := gPick_dn b2 cp (decide (s.2.1[cp]?.getD 0 = 0))
    refine ⟨⟨b1, gPick_ok b2 _ _, by rw [gPick_len]; exact b3⟩, by rw [List.length_map, gPick_len]; exact hlen, fun y hy => ?_⟩
    obtain ⟨z, hz, rfl⟩ := List.mem_map.1 hy
    obtain ⟨r1, r2, r3⟩ := hq z hz
    refine ⟨qg_over r1 (by omega) (by have := b2.small; omega), rfl, fun u hu => ?_⟩
    rw [gPick_ak]; exact r3 u hu
  · rw [if_neg k4] at hc ⊢
    obtain ⟨p1, p2, p3⟩ := takeF_ok hc
    rw [p3]
    have hm : (qs[cp]?.getD ([], 0)) ∈ qs := by rw [List.getElem?_eq_getElem hcp]; exact List.getElem_mem _
    obtain ⟨q1, q2, q3⟩ := hq _ hm
    refine ⟨⟨b1, b2, b3⟩, by rw [List.length_set]; exact hlen, fun y hy => ?_⟩
    rcases List.mem_or_eq_of_mem_set hy with hy | rfl
    · exact hq y hy
    · exact ⟨qg_drop p1 1, q2, fun z hz => q3 z (List.mem_of_mem_drop hz)⟩
theorem gchk_iff {g : Gr} (hd : g.dn ≤ 9223372036854775806) : gchkC g = 0 ↔ GrOk g := by
  refine ⟨fun h => ?_, gchk_ok⟩
  have hw : GrW g := by
    by_cases hw : GrW g
    · exact hw
    · unfold gchkC at h; rw [if_neg hw] at h; exact absurd h (by decide)
  obtain ⟨⟨h1, h2⟩, h3, h4, h5, h6, h7⟩ := hw
  obtain ⟨nd, dn, ak, on⟩ := g
  unfold leastW at h4; unfold nextW at h5; unfold wrap64 at h4 h5
  unfold GrOk gNext
  dsimp only at *
  refine ⟨h1, h2, h3, ?_, ?_, h6, ?_⟩
  · cases on
    · simp at h4 ⊢; omega
    · simp at h4 ⊢; omega
  · cases on
    · simp at h4 h5 ⊢; omega
    · simp at h4 h5 ⊢; omega
  · revert h7; cases on <;> cases gIdle nd <;> simp
/-- what Check passes is what may be -/
theorem rcOk_iff {s : St} {g : Gr} {es : List Qe} : RcOk s g es ↔ RcGood s g (ql es) := by
  constructor
  · rintro ⟨h1, h2, h3, h4, h5⟩
    rw [List.all_eq_true] at h5
    have hw : GrW g := by
      by_cases hw : GrW g
      · exact hw
      · unfold gchkC at h2; rw [if_neg hw] at h2; exact absurd h2 (by decide)
    have hr : ∀ x ∈ es, QGood x.o x.l ∧ x.o = max g.dn 0 ∧ ∀ c ∈ x.l, c.1 ≤ max g.ak 0 := fun x hx => by
      have := h5 x hx
      unfold rightQ at this
      simp only [Bool.and_eq_true, decide_eq_true_eq, List.all_eq_true] at this
      exact this
    have hpos : 0 < es.length := by have := hw.1.1; omega
    have hx0 := hr _ (List.getElem_mem hpos)
    have hdn := hw.2.1
    have hgo : GrOk g := (gchk_iff (by have := hx0.1.1; have := hx0.2.1; omega)).1 h2
    have hak : 0 ≤ g.ak := by have := hgo.2.2.2.1; split at this <;> omega
    refine ⟨⟨h1, hgo, h3.symm⟩, by rw [ql_len]; omega, fun q hq => ?_⟩
    obtain ⟨x, hx, rfl⟩ := List.mem_map.1 hq
    obtain ⟨r1, r2, r3⟩ := hr x hx
    exact ⟨r1, by show x.o = g.dn; omega, fun c hc => by have := r3 c hc; omega⟩
  · rintro ⟨⟨b1, b2, b3⟩, hlen, hq⟩
    rw [ql_len] at hlen
    refine ⟨b1, gchk_ok b2, b3.symm, by omega, List.all_eq_true.2 fun x hx => ?_⟩
    obtain ⟨r1, r2, r3⟩ := hq _ (ql_mem hx)
    unfold rightQ
    simp only [Bool.and_eq_true, decide_eq_true_eq, List.all_eq_true]
    exact ⟨r1, by have := b2.2.2.1; dsimp only at r2; omega, fun c hc => by have := r3 c hc; omega⟩
/-- ops, one behind the other: the error, and all that is held -/
def opsA (s : St) (g : Gr) (qs : Qs) (ran : List Int) : List (Int × Int × Int) → Int × St × Gr × Qs × List Int
  | [] => (0, s, g, qs, ran)
  | o :: L => if (opF s g qs o).1 = 0 then opsA (opF s g qs o).2.1 (opF s g qs o).2.2.1 (opF s g qs o).2.2.2.1 (ran ++ (opF s g qs o).2.2.2.2) L else ((opF s g qs o).1, (0, [], []), zGr, [], [])
theorem opsA_nz {L : List (Int × Int × Int)} : ∀ {s : St} {g : Gr} {qs : Qs} {ran : List Int}, (opsA s g qs ran L).1 ≠ 0 → (opsA s g qs ran L).2 = ((0, [], []), zGr, [], []) := by
  induction L with
  | nil => intro s g qs ran h; exact absurd rfl h
  | cons t L ih =>
    intro s g qs ran h
    unfold opsA at h ⊢
    split at h
    · rename_i e; rw [if_pos e]; exact ih h
    · rename_i e; rw [if_neg e]
theorem opF_ran (s : St) (g : Gr) (qs : Qs) (o : Int × Int × Int) : (opF s g qs o).2.2.2.2.length ≤ 1 := by
  unfold opF
  split
  · exact Nat.zero_le _
  split
  · exact Nat.zero_le _
  split
  · exact Nat.zero_le _
  split
  · split <;> exact Nat.zero_le _
  split
  · exact Nat.zero_le _
  · exact Nat.le_refl _
theorem opsA_ran {L : List (Int × Int × Int)} : ∀ {s : St} {g : Gr} {qs : Qs} {ran : List Int}, (opsA s g qs ran L).2.2.2.2.length ≤ ran.length + L.length := by
  induction L with
  | nil => intro s g qs ran; exact Nat.le_refl _
  | cons t L ih =>
    intro s g qs ran
    unfold opsA
    split
    · refine Nat.le_trans ih ?_
      have := opF_ran s g qs t
      rw [List.length_append, List.length_cons]; omega
    · exact Nat.zero_le _
/-- all of it, from what is held: none that may be answers 240 -/
def rcA (s : St) (g : Gr) (es : List Qe) (L : List (Int × Int × Int)) : Int × St × Gr × Qs × List Int := if RcOk s g es then opsA s g (ql es) [] L else (240, (0, [], []), zGr, [], [])
theorem rcA_nz {s : St} {g : Gr} {es : List Qe} {L : List (Int × Int × Int)} (h : (rcA s g es L).1 ≠ 0) : (rcA s g es L).2 = ((0, [], []), zGr, [], []) := by
  unfold rcA at h ⊢
  split at h
  · rename_i e; rw [if_pos e]; exact opsA_nz h
  · rename_i e; rw [if_neg e]
theorem rcA_ran (s : St) (g : Gr) (es : List Qe) (L : List (Int × Int × Int)) : (rcA s g es L).2.2.2.2.length ≤ L.length := by
  unfold rcA
  split
  · refine Nat.le_trans opsA_ran ?_; simp
  · exact Nat.zero_le _
end Go.Proofs.YtfipdoofgbjbjaaGreat

/- package rcu: Step. No condition but sizes, and that numbers are of their kinds. -/
namespace Go.Proofs.YtfipdoofgbjbjaaGreat
open Go.RowKit
attribute [local go_sem] Oper.semAt_some
section
variable {w w' : World} {l l' gc : Nat} {s : St} {g : Gr} {es : List Qe} {is what : Int} {ran : List Int} {a : Ra} {R : Option Addr} {nr kr : Nat}
theorem CX.mono (h : CX w l gc s g es ran a R nr kr) (hl : l' ≤ l) : CX w l' gc s g es ran a R nr kr :=
  ⟨h.ro.mono hl, h.gd.mono hl, h.qs.mono hl, h.rn.mono hl, fun x hx => ⟨(h.qe x hx).1.mono hl, (h.qe x hx).2⟩, Nat.le_trans hl h.lg⟩
theorem Rown.setCell' {n k m d : Nat} {A B : Option Addr} {ns os : List Int} (h : Rown w l A n k B m d ns os) {p : Addr} (hp : p.block < l) (u : Value) : Rown (w.setCell p u) l A n k B m d ns os :=
  ⟨h.oa.setCell hp u, h.ob.setCell hp u, h.apart, h.hn, h.hm⟩
theorem CX.setCell (h : CX w l gc s g es ran a R nr kr) {p : Addr} (hp : p.block < l) (u : Value) : CX (w.setCell p u) l gc s g es ran a R nr kr :=
  ⟨h.ro.setCell' hp u, h.gd.setCell hp u, h.qs.setCell hp u, h.rn.setCell hp u, fun x hx => ⟨(h.qe x hx).1.setCell hp u, (h.qe x hx).2⟩, h.lg⟩
/-- a block below it is turned -/
theorem CX.low (h : CX w l gc s g es ran a R nr kr) {q : Nat} (hq : q < l) (hg : w.grownBy w' (some q)) : CX w' l gc s g es ran a R nr kr :=
  ⟨⟨h.ro.oa.keptG hg (fun b hb e => by have := (h.ro.oa.blk b hb).1; have := Option.some.inj e; omega), h.ro.ob.keptG hg (fun b hb e => by have := (h.ro.ob.blk b hb).1; have := Option.some.inj e; omega), h.ro.apart, h.ro.hn, h.ro.hm⟩,
   h.gd.keptG hg (fun b hb e => by have := (h.gd.blk b hb).1; have := Option.some.inj e; omega), h.qs.keptG hg (fun b hb e => by have := (h.qs.blk b hb).1; have := Option.some.inj e; omega),
   h.rn.keptG hg (fun b hb e => by have := (h.rn.blk b hb).1; have := Option.some.inj e; omega), fun x hx => by
    obtain ⟨k1, k2⟩ := h.qe x hx
    exact ⟨k1.keptP (GrownP.ofGrown (p := fun i => i = q) hg rfl) (fun hn b hb e => by
      obtain ⟨b', off, e2, h2, _⟩ := k1.sm.row hn
      rw [hb] at e2; cases e2; dsimp only at e; omega), k2⟩, h.lg⟩
/-- what a cpu holds, wherever it lies -/
def RAt (w : World) (l gc : Nat) (s : St) (g : Gr) (qs : Qs) (ran : List Int) : Prop :=
  ∃ a es is what R nr kr, ql es = qs ∧ CA w l gc s g es is what ran a R nr kr
theorem RAt.mono {qs : Qs} (h : RAt w l gc s g qs ran) (hl : l' ≤ l) : RAt w l' gc s g qs ran := by
  obtain ⟨a, es, is, what, R, nr, kr, h1, h2⟩ := h
  exact ⟨a, es, is, what, R, nr, kr, h1, (h2.cx.mono hl).ca h2.box⟩
theorem RAt.setCell {qs : Qs} (h : RAt w l gc s g qs ran) {p : Addr} (hp : p.block < l) (u : Value) : RAt (w.setCell p u) l gc s g qs ran := by
  obtain ⟨a, es, is, what, R, nr, kr, h1, h2⟩ := h
  have := h2.lg
  exact ⟨a, es, is, what, R, nr, kr, h1, (h2.cx.setCell hp u).ca (h2.box.far (by omega) u)⟩
theorem RAt.step {qs : Qs} (h : RAt w l gc s g qs ran) (hb : Below w.heap.size w w') : RAt w' l gc s g qs ran := by
  obtain ⟨a, es, is, what, R, nr, kr, h1, h2⟩ := h
  exact ⟨a, es, is, what, R, nr, kr, h1, h2.step hb⟩
/-- what a closure leaves behind -/
def RYes (r : Int × St × Gr × Qs × List Int) (l gb : Nat) (w : World) : Prop := r.1 = 0 ∧ RAt w l gb r.2.1 r.2.2.1 r.2.2.2.1 r.2.2.2.2
def RNo (r : Int × St × Gr × Qs × List Int) (c : Int) (_ : World) : Prop := c ≠ 0 ∧ r.1 = c
/-- what tries hands back -/
def TriedR (w : World) (r : Int × St × Gr × Qs × List Int) (x : Ending) (w' : World) : Prop :=
  ∃ gp, x = .returned (.tuple #[ptr gp, .int .i64 r.1]) ∧ Below w.heap.size w w' ∧ RAt w' w.heap.size gp r.2.1 r.2.2.1 r.2.2.2.1 r.2.2.2.2
theorem triedR {r : Int × St × Gr × Qs × List Int} {x : Ending} (hz : r.1 ≠ 0 → r.2 = ((0, [], []), zGr, [], [])) (h : RTried w (fun _ => False) (RYes r) (RNo r) x w') : TriedR w r x w' := by
  obtain ⟨hg, h⟩ := h
  rcases h with ⟨gb, rfl, l, hl, hgb, hc, h1⟩ | ⟨gn, cd, rfl, ⟨hc, hp⟩, hgn, hb⟩
  · exact ⟨gb, by rw [hc], hg.toBelow, h1.mono hl⟩
  · have e : r = (cd, (0, [], []), zGr, [], []) := by rw [← hz (by rw [hp]; exact hc), ← hp]
    rw [e]
    exact ⟨gn, rfl, hg.toBelow, ⟨none, 0, 0, none, 0, 0, none, 0, none, 0, 0⟩, [], 0, 0, none, 0, 0, rfl, hb, Rown.none _ _, Ow.nil _ _ _, Om.nil _ _ _, Ow.nil _ _ _, fun x hx => (by cases hx), hgn⟩
/-- what tries is given, behind a check -/
theorem tries_ca {a : Ra} {es1 : List Qe} (h : RcGood s g (ql es)) (hb : Blk w gc 78 (ccells s g a 0 0 none 0 0)) (ht : RcT w l s g es1 a) (hl : l ≤ gc) (hq : ql es1 = ql es) : CA w l gc s g es1 0 0 [] a none 0 0 ∧ RcGood s g (ql es1) := by
  have hg : RcGood s g (ql es1) := by rw [hq]; exact h
  refine ⟨ht.ca hb hl fun x hx => ?_, hg⟩
  have h1 := (hg.2.2 _ (ql_mem hx)).2.1
  have h2 := hg.1.2.1.small
  dsimp only at h1
  omega
end
/-- what Step hands back -/
def lastO (l : List Int) : Int := l[l.length - 1]?.getD 0
def RcV (w : World) (lo : Nat) (r : Int × St × Gr × Qs × List Int) (a : Ra) (R : Option Addr) (nr kr : Nat) : Prop := ∃ es gc, ql es = r.2.2.2.1 ∧ CX w lo gc r.2.1 r.2.2.1 es r.2.2.2.2 a R nr kr
def SpPost (w : World) (r : Int × St × Gr × Qs × List Int) (x : Ending) (w' : World) : Prop :=
  ∃ a R nr kr, x = .returned (.tuple #[rcv r.2.1 r.2.2.1 a, .int .u64 (lastO r.2.2.2.2), .int .i64 r.1]) ∧ RcV w' w.heap.size r a R nr kr ∧ Below w.heap.size w w'
def RnPost (w : World) (r : Int × St × Gr × Qs × List Int) (x : Ending) (w' : World) : Prop :=
  ∃ a R nr kr, x = .returned (.tuple #[rcv r.2.1 r.2.2.1 a, .slice R nr kr, .int .i64 r.1]) ∧ RcV w' w.heap.size r a R nr kr ∧ Below w.heap.size w w'
@[reducible] def ocs (o : Int × Int × Int) : Array Value := #[.int .i64 o.1, .int .i64 o.2.1, .int .u64 o.2.2]
set_option maxRecDepth 100000 in
set_option maxHeartbeats 2000000 in
theorem rstep1_any (l gc bo : Nat) (s : St) (g : Gr) (es : List Qe) (a : Ra) (o : Int × Int × Int) (w : World) (h : CA w l gc s g es 0 0 [] a none 0 0) (hg : RcGood s g (ql es)) (hP : Blk w bo 37 (ocs o)) :
    Calls Tryz.prog 34 #[ptr gc, ptr bo] w fun x w' => GrownP (fun i => l ≤ i) w w' ∧ ((x = .returned (.tuple #[]) ∧ RYes (opsA s g (ql es) [] [o]) l gc w') ∨ ∃ c, x = leaves c ∧ RNo (opsA s g (ql es) [] [o]) c w') := by
  obtain ⟨ok, oc, ow⟩ := o
  have HC := hid h; have HG := hid hg
  obtain ⟨y0, y1, y2, yf⟩ := hP.cells3
  clear h hg
  go_enter Tryz.func34, Tryz.ntmps34
  go_wp2_with fail
  clear y0 y1 y2 yf
  refine (rdoes_any l gc s g es 0 0 [] a none 0 0 (ok, oc, ow) w HC.out HG.out (by omega)).mono ?_
  rintro x w2 ⟨h1, ⟨h0, rfl, hx⟩ | ⟨h0, rfl⟩⟩
  · have HX := hid hx; have HGP := hid h1
    have HO := hid (show opsA s g (ql es) [] [(ok, oc, ow)] = (0, (opF s g (ql es) (ok, oc, ow)).2.1, (opF s g (ql es) (ok, oc, ow)).2.2.1, (opF s g (ql es) (ok, oc, ow)).2.2.2.1, [] ++ (opF s g (ql es) (ok, oc, ow)).2.2.2.2) from if_pos h0)
    clear hx h1 h0 HC HG hP
    go_wp2
    (try go_end0)
    rw [HO.out]
    obtain ⟨a', es', is', what', R', nr', kr', k1, k2, k3, k4, k5⟩ := HX.out
    exact ⟨HGP.out, .inl ⟨rfl, rfl, a', es', is', what', R', nr', kr', k4, k5⟩⟩
  · have HGP := hid h1; have H0 := hid h0
    have HO := hid (show (opsA s g (ql es) [] [(ok, oc, ow)]).1 = (opF s g (ql es) (ok, oc, ow)).1 by unfold opsA; rw [if_neg h0])
    clear h1 h0 HC HG hP
    unfold leaves
    go_wp2
    exact ⟨rfl, HGP.out, .inr ⟨_, rfl, H0.out, HO.out⟩⟩
set_option maxRecDepth 100000 in
set_option maxHeartbeats 4000000 in
theorem rstep_any (s : St) (g : Gr) (es : List Qe) (a : Ra) (o : Int × Int × Int) (w : World) (h : RcR w s g es a) :
    Calls Tryz.prog 10 #[rcv s g a, .agg (ocs o)] w (SpPost w (rcA s g es [o])) := by
  obtain ⟨r, hr⟩ : ∃ r, r = rcA s g es [o] := ⟨_, rfl⟩
  have HRR := hid hr
  have HZR := hid (show r.1 ≠ 0 → r.2 = ((0, [], []), zGr, [], []) from fun hz => by rw [hr] at hz ⊢; exact rcA_nz hz)
  have HLN := hid (show r.2.2.2.2.length ≤ 1 by rw [hr]; exact rcA_ran s g es [o])
  rw [← hr]
  have HR := hid h; have HB := hid (Below.refl w.heap.size w)
  clear h hr
  have hmf : ∀ (fn : Fn) (first cap : Array Value) (w : World), (Instr.makeFunc fn first cap).run Tryz.prog w = .ok (.func fn first cap) w := fun _ _ _ _ => rfl
  have bx := below_box w (.cells (rcells s g a) 30)
  replace HR := hid (HR.out.step bx); replace HB := hid (below_then HB.out bx)
  clear bx
  have PR := hid (Blk.new w 30 (rcells s g a))
  have bx := below_box (w.alloc (.cells (rcells s g a) 30)) (.cells (ocs o) 37)
  replace HR := hid (HR.out.step bx); replace PR := hid (PR.out.step bx); replace HB := hid (below_then HB.out bx)
  clear bx
  have PO := hid (Blk.new2 w 37 (ocs o) (.cells (rcells s g a) 30))
  have bx := below_box ((w.alloc (.cells (rcells s g a) 30)).alloc (.cells (ocs o) 37)) (.cells #[.int .i64 0, .slice none 0 0, .slice none 0 0, .int .i64 0, .int .i64 0, .bool false, .slice none 0 0, .slice none 0 0] 30)
  replace HR := hid (HR.out.step bx); replace PR := hid (PR.out.step bx); replace PO := hid (PO.out.step bx); replace HB := hid (below_then HB.out bx)
  clear bx
  have ZR := hid (Blk.new3 w 30 #[.int .i64 0, .slice none 0 0, .slice none 0 0, .int .i64 0, .int .i64 0, .bool false, .slice none 0 0, .slice none 0 0] (.cells (rcells s g a) 30) (.cells (ocs o) 37))
  go_enter Tryz.func10, Tryz.ntmps10
  obtain ⟨y00, y01, y02, y03, y04, y05, y06, y07, yf0⟩ := PR.out.cells8
  go_wp2_with fail
  clear y00 y01 y02 y03 y04 y05 y06 y07 yf0 hmf
  have hz0 := hid (show (((w.alloc (.cells (rcells s g a) 30)).alloc (.cells (ocs o) 37)).alloc (.cells #[.int .i64 0, .slice none 0 0, .slice none 0 0, .int .i64 0, .int .i64 0, .bool false, .slice none 0 0, .slice none 0 0] 30)).heap.size = w.heap.size + 3 by simp)
  generalize ((w.alloc (.cells (rcells s g a) 30)).alloc (.cells (ocs o) 37)).alloc (.cells #[.int .i64 0, .slice none 0 0, .slice none 0 0, .int .i64 0, .int .i64 0, .bool false, .slice none 0 0, .slice none 0 0] 30) = w1 at *
  refine (rtries_any s g es a 34 #[ptr (w.heap.size + 1)] (fun _ => False) (RYes r) (RNo r) w1 (fun _ h => h.elim) HR.out (enters_of Tryz.func34 (by kernel_rfl) rfl) ?_ ?_ ?_ ?_).mono ?_
  ·intro hn W _
   have e : r = (240, (0, [], []), zGr, [], []) := by rw [HRR.out]; exact if_neg hn
   rw [e]
   exact ⟨by decide, rfl⟩
  ·intro hok W l gc a1 es1 hl hgc hbW hbc hrt hql
   obtain ⟨hca, hgd⟩ := tries_ca (rcOk_iff.1 hok) hbc hrt hgc hql
   have e : r = opsA s g (ql es1) [] [o] := by rw [HRR.out, hql]; exact if_pos hok
   rw [e]
   refine (rstep1_any l gc (w.heap.size + 1) s g es1 a1 o W hca hgd (PO.out.step hbW)).mono ?_
   rintro x w2 ⟨hg2, hx⟩
   exact ⟨hg2.mono (fun i hi => .inr hi), hx⟩
  ·rintro l gb W p u ⟨hc, hba⟩ h1 h2
   exact ⟨hc, hba.setCell h2 u⟩
  ·exact fun c W W' h _ => h
  intro x w2 hx
  obtain ⟨gp, rfl, hb2, hra⟩ := triedR HZR.out hx
  clear hx
  have HRA := hid hra; have HRL := hid (show w1.heap.size ≤ gp by obtain ⟨_, _, _, _, _, _, _, _, h2⟩ := hra; exact h2.lg)
  clear hra HR PR PO
  replace ZR := hid (ZR.out.step hb2); replace HB := hid (below_then HB.out hb2)
  clear hb2 HRR HZR
  obtain ⟨rc, ⟨rnow, rns, ros⟩, rg, rqs, ran⟩ := r
  dsimp only at HRA HLN ⊢
  obtain ⟨b, es2, is, what, R, nr, kr, hq2, hca⟩ := HRA.out
  have HQ2 := hid hq2; have HX := hid hca.cx; have PC := hid hca.box; have hrl := hid (show ran.length = nr from hca.rn.len)
  clear hq2 hca HRA
  obtain ⟨y0, y1, y2, y3, y4, y5, y6, y7, y8, y9, y10, yf⟩ := PC.out.cells11
  go_wp2_with fail
  have hn1 := hid (show nr ≤ 1 by have := HLN.out; rw [hrl.out] at this; exact this)
  clear y0 y1 y2 y3 y4 y5 y6 y7 y8 y9 y10 yf HLN
  go_loopw [9, 11, 23] (fun v _ i wr => wr = w2 ∧ ∃ j : Nat, j ≤ nr ∧ i = .int .i64 j ∧ v = .int .u64 (if j = 0 then 0 else ran[j - 1]?.getD 0)) (fun _ _ i _ => nr - (intOf i).toNat)
  case atStart => exact ⟨rfl, 0, Nat.zero_le _, rfl, rfl⟩
  case round =>
    obtain ⟨rfl, j, hj, rfl, rfl⟩ := hrel
    by_cases hjn : j < nr
    · have hji : (j : Int) < (nr : Int) := by omega
      obtain ⟨b0, off, rfl, _, _, hc⟩ := (HX.out.rn.sl (d := 0)).row (by omega)
      have f0 := hc j hjn
      have hw1 : IntKind.i64.wrap ((j : Int) + 1) = (j : Int) + 1 := by rw [IntKind.wrap_i64]; have := hn1.out; omega
      clear hc
      go_wp2
      go_roundw
      case rel => exact ⟨trivial, j + 1, by omega, by go_num, by simp⟩
      case measure => simp [intOf]; omega
    obtain rfl : j = nr := by omega
    have hnn : ¬ ((j : Int) < (j : Int)) := by omega
    have hlast := hid (show (if j = 0 then 0 else ran[j - 1]?.getD 0) = lastO ran by
      unfold lastO; rw [hrl.out]
      by_cases h : j = 0
      · rw [if_pos h]; have hl := hrl.out; subst h; rw [List.length_eq_zero_iff.1 hl]; rfl
      · rw [if_neg h])
    rw [hlast.out]
    clear hlast
    obtain ⟨y0, y1, y2, y3, y4, y5, y6, y7, y8, y9, y10, yf⟩ := PC.out.cells11
    obtain ⟨y00, y01, y02, y03, y04, y05, y06, y07, yf0⟩ := ZR.out.cells8
    go_wp2_with fail
    clear y0 y1 y2 y3 y4 y5 y6 y7 y8 y9 y10 yf y00 y01 y02 y03 y04 y05 y06 y07 yf0
    have hbk0 : Blk (wr.setCell ⟨w.heap.size + 1 + 1, 0, none⟩ (.int .i64 rnow)) (w.heap.size + 1 + 1) 30 #[.int .i64 rnow, .slice none 0 0, .slice none 0 0, .int .i64 0, .int .i64 0, .bool false, .slice none 0 0, .slice none 0 0] := ZR.out.setCell 0 (.int .i64 rnow)
    have hbk1 : Blk ((wr.setCell ⟨w.heap.size + 1 + 1, 0, none⟩ (.int .i64 rnow)).setCell ⟨w.heap.size + 1 + 1, 1, none⟩ (.slice b.A b.n b.k)) (w.heap.size + 1 + 1) 30 #[.int .i64 rnow, .slice b.A b.n b.k, .slice none 0 0, .int .i64 0, .int .i64 0, .bool false, .slice none 0 0, .slice none 0 0] := hbk0.setCell 1 (.slice b.A b.n b.k)
    have hbk2 : Blk (((wr.setCell ⟨w.heap.size + 1 + 1, 0, none⟩ (.int .i64 rnow)).setCell ⟨w.heap.size + 1 + 1, 1, none⟩ (.slice b.A b.n b.k)).setCell ⟨w.heap.size + 1 + 1, 2, none⟩ (.slice b.B b.m b.d)) (w.heap.size + 1 + 1) 30 #[.int .i64 rnow, .slice b.A b.n b.k, .slice b.B b.m b.d, .int .i64 0, .int .i64 0, .bool false, .slice none 0 0, .slice none 0 0] := hbk1.setCell 2 (.slice b.B b.m b.d)
    have hbk3 : Blk ((((wr.setCell ⟨w.heap.size + 1 + 1, 0, none⟩ (.int .i64 rnow)).setCell ⟨w.heap.size + 1 + 1, 1, none⟩ (.slice b.A b.n b.k)).setCell ⟨w.heap.size + 1 + 1, 2, none⟩ (.slice b.B b.m b.d)).setCell ⟨w.heap.size + 1 + 1, 3, none⟩ (.int .i64 rg.dn)) (w.heap.size + 1 + 1) 30 #[.int .i64 rnow, .slice b.A b.n b.k, .slice b.B b.m b.d, .int .i64 rg.dn, .int .i64 0, .bool false, .slice none 0 0, .slice none 0 0] := hbk2.setCell 3 (.int .i64 rg.dn)
    have hbk4 : Blk (((((wr.setCell ⟨w.heap.size + 1 + 1, 0, none⟩ (.int .i64 rnow)).setCell ⟨w.heap.size + 1 + 1, 1, none⟩ (.slice b.A b.n b.k)).setCell ⟨w.heap.size + 1 + 1, 2, none⟩ (.slice b.B b.m b.d)).setCell ⟨w.heap.size + 1 + 1, 3, none⟩ (.int .i64 rg.dn)).setCell ⟨w.heap.size + 1 + 1, 4, none⟩ (.int .i64 rg.ak)) (w.heap.size + 1 + 1) 30 #[.int .i64 rnow, .slice b.A b.n b.k, .slice b.B b.m b.d, .int .i64 rg.dn, .int .i64 rg.ak, .bool false, .slice none 0 0, .slice none 0 0] := hbk3.setCell 4 (.int .i64 rg.ak)
    have hbk5 : Blk ((((((wr.setCell ⟨w.heap.size + 1 + 1, 0, none⟩ (.int .i64 rnow)).setCell ⟨w.heap.size + 1 + 1, 1, none⟩ (.slice b.A b.n b.k)).setCell ⟨w.heap.size + 1 + 1, 2, none⟩ (.slice b.B b.m b.d)).setCell ⟨w.heap.size + 1 + 1, 3, none⟩ (.int .i64 rg.dn)).setCell ⟨w.heap.size + 1 + 1, 4, none⟩ (.int .i64 rg.ak)).setCell ⟨w.heap.size + 1 + 1, 5, none⟩ (.bool rg.on)) (w.heap.size + 1 + 1) 30 #[.int .i64 rnow, .slice b.A b.n b.k, .slice b.B b.m b.d, .int .i64 rg.dn, .int .i64 rg.ak, .bool rg.on, .slice none 0 0, .slice none 0 0] := hbk4.setCell 5 (.bool rg.on)
    have hbk6 : Blk (((((((wr.setCell ⟨w.heap.size + 1 + 1, 0, none⟩ (.int .i64 rnow)).setCell ⟨w.heap.size + 1 + 1, 1, none⟩ (.slice b.A b.n b.k)).setCell ⟨w.heap.size + 1 + 1, 2, none⟩ (.slice b.B b.m b.d)).setCell ⟨w.heap.size + 1 + 1, 3, none⟩ (.int .i64 rg.dn)).setCell ⟨w.heap.size + 1 + 1, 4, none⟩ (.int .i64 rg.ak)).setCell ⟨w.heap.size + 1 + 1, 5, none⟩ (.bool rg.on)).setCell ⟨w.heap.size + 1 + 1, 6, none⟩ (.slice b.D rg.nd.length b.kd)) (w.heap.size + 1 + 1) 30 #[.int .i64 rnow, .slice b.A b.n b.k, .slice b.B b.m b.d, .int .i64 rg.dn, .int .i64 rg.ak, .bool rg.on, .slice b.D rg.nd.length b.kd, .slice none 0 0] := hbk5.setCell 6 (.slice b.D rg.nd.length b.kd)
    have hbk7 : Blk ((((((((wr.setCell ⟨w.heap.size + 1 + 1, 0, none⟩ (.int .i64 rnow)).setCell ⟨w.heap.size + 1 + 1, 1, none⟩ (.slice b.A b.n b.k)).setCell ⟨w.heap.size + 1 + 1, 2, none⟩ (.slice b.B b.m b.d)).setCell ⟨w.heap.size + 1 + 1, 3, none⟩ (.int .i64 rg.dn)).setCell ⟨w.heap.size + 1 + 1, 4, none⟩ (.int .i64 rg.ak)).setCell ⟨w.heap.size + 1 + 1, 5, none⟩ (.bool rg.on)).setCell ⟨w.heap.size + 1 + 1, 6, none⟩ (.slice b.D rg.nd.length b.kd)).setCell ⟨w.heap.size + 1 + 1, 7, none⟩ (.slice b.Q b.nq b.kq)) (w.heap.size + 1 + 1) 30 #[.int .i64 rnow, .slice b.A b.n b.k, .slice b.B b.m b.d, .int .i64 rg.dn, .int .i64 rg.ak, .bool rg.on, .slice b.D rg.nd.length b.kd, .slice b.Q b.nq b.kq] := hbk6.setCell 7 (.slice b.Q b.nq b.kq)
    have hgr : wr.grownBy ((((((((wr.setCell ⟨w.heap.size + 1 + 1, 0, none⟩ (.int .i64 rnow)).setCell ⟨w.heap.size + 1 + 1, 1, none⟩ (.slice b.A b.n b.k)).setCell ⟨w.heap.size + 1 + 1, 2, none⟩ (.slice b.B b.m b.d)).setCell ⟨w.heap.size + 1 + 1, 3, none⟩ (.int .i64 rg.dn)).setCell ⟨w.heap.size + 1 + 1, 4, none⟩ (.int .i64 rg.ak)).setCell ⟨w.heap.size + 1 + 1, 5, none⟩ (.bool rg.on)).setCell ⟨w.heap.size + 1 + 1, 6, none⟩ (.slice b.D rg.nd.length b.kd)).setCell ⟨w.heap.size + 1 + 1, 7, none⟩ (.slice b.Q b.nq b.kq)) (some (w.heap.size + 1 + 1)) := (grown_set (grown_set (grown_set (grown_set (grown_set (grown_set (grown_set (grown_set (World.grownBy.refl wr (some (w.heap.size + 1 + 1))) 0 (.int .i64 rnow)) 1 (.slice b.A b.n b.k)) 2 (.slice b.B b.m b.d)) 3 (.int .i64 rg.dn)) 4 (.int .i64 rg.ak)) 5 (.bool rg.on)) 6 (.slice b.D rg.nd.length b.kd)) 7 (.slice b.Q b.nq b.kq))
    replace ZR := hid hbk7
    clear hbk0 hbk1 hbk2 hbk3 hbk4 hbk5 hbk6 hbk7
    generalize (((((((wr.setCell ⟨w.heap.size + 1 + 1, 0, none⟩ (.int .i64 rnow)).setCell ⟨w.heap.size + 1 + 1, 1, none⟩ (.slice b.A b.n b.k)).setCell ⟨w.heap.size + 1 + 1, 2, none⟩ (.slice b.B b.m b.d)).setCell ⟨w.heap.size + 1 + 1, 3, none⟩ (.int .i64 rg.dn)).setCell ⟨w.heap.size + 1 + 1, 4, none⟩ (.int .i64 rg.ak)).setCell ⟨w.heap.size + 1 + 1, 5, none⟩ (.bool rg.on)).setCell ⟨w.heap.size + 1 + 1, 6, none⟩ (.slice b.D rg.nd.length b.kd)).setCell ⟨w.heap.size + 1 + 1, 7, none⟩ (.slice b.Q b.nq b.kq) = Wf at *
    have HLZ := hid (show w.heap.size + 1 + 1 < w1.heap.size by have := hz0.out; omega)
    have HXf := hid (HX.out.low HLZ.out hgr); have HBf := hid (HB.out.grown hgr HB.out.size (fun r e => by cases e; omega))
    clear hgr
    obtain ⟨y00, y01, y02, y03, y04, y05, y06, y07, yf0⟩ := ZR.out.cells8
    exact bodyPost_ret (v := .tuple #[rcv (rnow, rns, ros) rg b, .int .u64 (lastO ran), .int .i64 rc]) (by simp [results, Tryz.results10, go_sem, y00, y01, y02, y03, y04, y05, y06, y07]) rfl ⟨b, R, j, kr, rfl, ⟨es2, gp, HQ2.out, HXf.out.mono (by have := HLZ.out; omega)⟩, HBf.out⟩
end Go.Proofs.YtfipdoofgbjbjaaGreat

/- package rcu: Run. No condition but sizes, and that numbers are of their kinds. -/
namespace Go.Proofs.YtfipdoofgbjbjaaGreat
open Go.RowKit
attribute [local go_sem] Oper.semAt_some
def encO (x : Int × Int × Int) (j : Nat) : Value := if j = 0 then .int .i64 x.1 else if j = 1 then .int .i64 x.2.1 else .int .u64 x.2.2
theorem drop_consO {L : List (Int × Int × Int)} {j : Nat} (h : j < L.length) : L.drop j = L[j]?.getD (0, 0, 0) :: L.drop (j + 1) := by
  rw [List.drop_eq_getElem_cons h, List.getElem?_eq_getElem h]; rfl
theorem sm_keptP {α : Type} {sz : Nat} {enc : α → Nat → Value} {d : α} {w w' : World} {lo hi n : Nat} {A : Option Addr} {xs : List α} {p : Nat → Prop} (h : Sm sz enc d w lo hi A n xs) (k : GrownP p w w') (hp : ∀ i, i < hi → ¬ p i) (hhi : hi ≤ w.heap.size) : Sm sz enc d w' lo hi A n xs :=
  h.keep fun b o _ e2 => by unfold World.cell?; rw [k.block b (by omega) (hp b e2)]
set_option maxRecDepth 100000 in
set_option maxHeartbeats 4000000 in
theorem rrun1_any (l gc bo hi : Nat) (s : St) (g : Gr) (es : List Qe) (a : Ra) (T : Option Addr) (nt kt : Nat) (L : List (Int × Int × Int)) (w : World) (h : CA w l gc s g es 0 0 [] a none 0 0) (hg : RcGood s g (ql es)) (hP : Blk w bo 31 #[.slice T nt kt])
    (hT : Sm 3 encO (0, 0, 0) w 0 hi T nt L) (hnt : nt ≤ 1000000) (hhi : hi ≤ l) :
    Calls Tryz.prog 44 #[ptr gc, ptr bo] w fun x w' => GrownP (fun i => l ≤ i) w w' ∧ ((x = .returned (.tuple #[]) ∧ RYes (opsA s g (ql es) [] L) l gc w') ∨ ∃ c, x = leaves c ∧ RNo (opsA s g (ql es) [] L) c w') := by
  have HC := hid h; have HG := hid hg; have HT := hid hT; have hl := hid hT.len; have HL := hid h.low; have HHI := hid hhi
  obtain ⟨y0, yf⟩ := hP.cells1
  obtain ⟨r, hr⟩ : ∃ r, r = opsA s g (ql es) [] L := ⟨_, rfl⟩
  have HRR := hid hr
  rw [← hr]
  clear h hg hT hr hhi
  go_enter Tryz.func44, Tryz.ntmps44
  go_wp2_with fail
  clear y0 yf hP
  go_loopw [4, 7] (fun _ i wr => ∃ (j : Nat) (s : St) (g' : Gr) (es' : List Qe) (is what : Int) (ran : List Int) (a : Ra) (R : Option Addr) (nr kr : Nat), j ≤ nt ∧ i = .int .i64 j ∧ r = opsA s g' (ql es') ran (L.drop j) ∧ RcGood s g' (ql es') ∧ CA wr l gc s g' es' is what ran a R nr kr ∧ nr ≤ j ∧ GrownP (fun i => l ≤ i) w wr) (fun _ i _ => nt - (intOf i).toNat)
  case atStart => exact ⟨0, s, g, es, 0, 0, [], a, none, 0, 0, Nat.zero_le _, rfl, HRR.out, HG.out, HC.out, Nat.le_refl _, GrownP.refl _ _⟩
  case round =>
    clear HC HG HRR
    obtain ⟨j, s, g', es', is, what, ran, a, R, nr, kr, hj, rfl, h1, h2, h3, h4, h5⟩ := hrel
    have HPE := hid h1; have HG := hid h2; have HC := hid h3; have HNR := hid h4; have HGP := hid h5
    clear h1 h2 h3 h4 h5
    by_cases hjn : j < nt
    rotate_left
    · obtain rfl : j = nt := by omega
      have hnn : ¬ ((j : Int) < (j : Int)) := by omega
      have hpe := HPE.out
      rw [List.drop_eq_nil_of_le (by rw [hl.out]; exact Nat.le_refl _)] at hpe
      have HPE2 := hid (show r = (0, s, g', ql es', ran) from hpe)
      clear hpe HPE
      go_wp2
      go_end0
      rw [HPE2.out]
      exact ⟨HGP.out, .inl ⟨rfl, rfl, a, es', is, what, R, nr, kr, rfl, HC.out⟩⟩
    have HTW := hid (sm_keptP HT.out HGP.out (fun i hi h => by have := HHI.out; omega) (by have := HL.out; have := HHI.out; omega))
    obtain ⟨bT, oT, rfl, _, _, hc⟩ := HTW.out.row (by omega)
    have f0 := hc j hjn 0 (by omega)
    have f1 := hc j hjn 1 (by omega)
    have f2 := hc j hjn 2 (by omega)
    obtain ⟨x, hx⟩ : ∃ x, x = L[j]?.getD (0, 0, 0) := ⟨_, rfl⟩
    rw [← hx] at f0 f1 f2
    have HPX := hid (show r = opsA s g' (ql es') ran (x :: L.drop (j + 1)) by rw [HPE.out, drop_consO (by rw [hl.out]; exact hjn), ← hx])
    clear hx hc HTW HPE
    obtain ⟨ok, oc, ow⟩ := x
    have hji : (j : Int) < (nt : Int) := by omega
    replace f0 : wr.cell? ⟨bT, oT + j * 3, none⟩ = some (.int .i64 ok) := f0
    replace f1 : wr.cell? ⟨bT, oT + j * 3 + 1, none⟩ = some (.int .i64 oc) := f1
    replace f2 : wr.cell? ⟨bT, oT + j * 3 + 2, none⟩ = some (.int .u64 ow) := f2
    have bx := below_box wr (.cells #[.int .i64 ok, .int .i64 oc, .int .u64 ow] 37)
    have PT := hid (Blk.new wr 37 #[.int .i64 ok, .int .i64 oc, .int .u64 ow])
    have HC2 := hid (HC.out.step bx)
    have HGP2 := hid (HGP.out.thenB bx HGP.out.size)
    clear bx HC HGP
    go_upto_region 3 with fail
    clear f0 f1 f2
    generalize wr.alloc (.cells #[.int .i64 ok, .int .i64 oc, .int .u64 ow] 37) = W3 at *
    obtain ⟨y00, y01, y02, yf0⟩ := PT.out.cells3
    go_wp2_with fail
    clear y00 y01 y02 yf0
    refine (rdoes_any l gc s g' es' is what ran a R nr kr (ok, oc, ow) W3 HC2.out HG.out (by have := HNR.out; omega)).mono ?_
    rintro x W4 ⟨h1, ⟨h0, rfl, hx⟩ | ⟨h0, rfl⟩⟩
    ·have HX := hid hx; have HG4 := hid (HGP2.out.trans h1)
     have HPY := hid (show r = opsA (opF s g' (ql es') (ok, oc, ow)).2.1 (opF s g' (ql es') (ok, oc, ow)).2.2.1 (opF s g' (ql es') (ok, oc, ow)).2.2.2.1 (ran ++ (opF s g' (ql es') (ok, oc, ow)).2.2.2.2) (L.drop (j + 1)) by rw [HPX.out]; exact if_pos h0)
     have HGo := hid (good_opF HG.out h0)
     clear hx h1 h0 HC2 HG HPX HGP2
     have hw1 : IntKind.i64.wrap ((j : Int) + 1) = (j : Int) + 1 := by rw [IntKind.wrap_i64]; omega
     go_wp2_with fail
     go_roundw
     case rel =>
      obtain ⟨a', es2, is', what', R', nr', kr', k1, k2, k3, k4, k5⟩ := HX.out
      exact ⟨j + 1, _, _, es2, is', what', _, a', R', nr', kr', by omega, by go_num, by rw [HPY.out, k4], by rw [k4]; exact HGo.out, k5, by have := HNR.out; omega, HG4.out⟩
     case measure => simp [intOf]; omega
    ·have HG4 := hid (HGP2.out.trans h1); have H0 := hid h0
     have HPN := hid (show r.1 = (opF s g' (ql es') (ok, oc, ow)).1 by rw [HPX.out]; unfold opsA; rw [if_neg h0])
     clear h1 h0
     unfold leaves
     go_wp2_with fail
     exact ⟨rfl, HG4.out, .inr ⟨_, rfl, H0.out, HPN.out⟩⟩
set_option maxRecDepth 100000 in
set_option maxHeartbeats 4000000 in
theorem rrunall_any (s : St) (g : Gr) (es : List Qe) (a : Ra) (T : Option Addr) (nt kt : Nat) (L : List (Int × Int × Int)) (w : World) (h : RcR w s g es a) (hT : Sm 3 encO (0, 0, 0) w 0 w.heap.size T nt L) (hnt : nt ≤ 1000000) :
    Calls Tryz.prog 14 #[rcv s g a, .slice T nt kt] w (RnPost w (rcA s g es L)) := by
  obtain ⟨r, hr⟩ : ∃ r, r = rcA s g es L := ⟨_, rfl⟩
  have HRR := hid hr
  have HZR := hid (show r.1 ≠ 0 → r.2 = ((0, [], []), zGr, [], []) from fun hz => by rw [hr] at hz ⊢; exact rcA_nz hz)
  rw [← hr]
  have HR := hid h; have HB := hid (Below.refl w.heap.size w); have HT := hid hT
  clear h hr hT
  have hmf : ∀ (fn : Fn) (first cap : Array Value) (w : World), (Instr.makeFunc fn first cap).run Tryz.prog w = .ok (.func fn first cap) w := fun _ _ _ _ => rfl
  have bx := below_box w (.cells (rcells s g a) 30)
  replace HR := hid (HR.out.step bx); replace HB := hid (below_then HB.out bx)
  clear bx
  have PR := hid (Blk.new w 30 (rcells s g a))
  have bx := below_box (w.alloc (.cells (rcells s g a) 30)) (.cells #[.slice T nt kt] 31)
  replace HR := hid (HR.out.step bx); replace PR := hid (PR.out.step bx); replace HB := hid (below_then HB.out bx)
  clear bx
  have PO := hid (Blk.new2 w 31 #[.slice T nt kt] (.cells (rcells s g a) 30))
  have bx := below_box ((w.alloc (.cells (rcells s g a) 30)).alloc (.cells #[.slice T nt kt] 31)) (.cells #[.int .i64 0, .slice none 0 0, .slice none 0 0, .int .i64 0, .int .i64 0, .bool false, .slice none 0 0, .slice none 0 0] 30)
  replace HR := hid (HR.out.step bx); replace PR := hid (PR.out.step bx); replace PO := hid (PO.out.step bx); replace HB := hid (below_then HB.out bx)
  clear bx
  have ZR := hid (Blk.new3 w 30 #[.int .i64 0, .slice none 0 0, .slice none 0 0, .int .i64 0, .int .i64 0, .bool false, .slice none 0 0, .slice none 0 0] (.cells (rcells s g a) 30) (.cells #[.slice T nt kt] 31))
  go_enter Tryz.func14, Tryz.ntmps14
  obtain ⟨y00, y01, y02, y03, y04, y05, y06, y07, yf0⟩ := PR.out.cells8
  go_wp2_with fail
  clear y00 y01 y02 y03 y04 y05 y06 y07 yf0 hmf
  have hz0 := hid (show (((w.alloc (.cells (rcells s g a) 30)).alloc (.cells #[.slice T nt kt] 31)).alloc (.cells #[.int .i64 0, .slice none 0 0, .slice none 0 0, .int .i64 0, .int .i64 0, .bool false, .slice none 0 0, .slice none 0 0] 30)).heap.size = w.heap.size + 3 by simp)
  generalize ((w.alloc (.cells (rcells s g a) 30)).alloc (.cells #[.slice T nt kt] 31)).alloc (.cells #[.int .i64 0, .slice none 0 0, .slice none 0 0, .int .i64 0, .int .i64 0, .bool false, .slice none 0 0, .slice none 0 0] 30) = w1 at *
  refine (rtries_any s g es a 44 #[ptr (w.heap.size + 1)] (fun _ => False) (RYes r) (RNo r) w1 (fun _ h => h.elim) HR.out (enters_of Tryz.func44 (by kernel_rfl) rfl) ?_ ?_ ?_ ?_).mono ?_
  ·intro hn W _
   have e : r = (240, (0, [], []), zGr, [], []) := by rw [HRR.out]; exact if_neg hn
   rw [e]
   exact ⟨by decide, rfl⟩
  ·intro hok W l gc a1 es1 hl hgc hbW hbc hrt hql
   obtain ⟨hca, hgd⟩ := tries_ca (rcOk_iff.1 hok) hbc hrt hgc hql
   have e : r = opsA s g (ql es1) [] L := by rw [HRR.out, hql]; exact if_pos hok
   rw [e]
   refine (rrun1_any l gc (w.heap.size + 1) w.heap.size s g es1 a1 T nt kt L W hca hgd (PO.out.step hbW) ((HT.out.below HB.out (Nat.le_refl _)).below hbW (by have := hz0.out; omega)) hnt (by have := hz0.out; omega)).mono ?_
   rintro x w2 ⟨hg2, hx⟩
   exact ⟨hg2.mono (fun i hi => .inr hi), hx⟩
  ·rintro l gb W p u ⟨hc, hba⟩ h1 h2
   exact ⟨hc, hba.setCell h2 u⟩
  ·exact fun c W W' h _ => h
  intro x w2 hx
  obtain ⟨gp, rfl, hb2, hra⟩ := triedR HZR.out hx
  clear hx
  have HRA := hid hra; have HRL := hid (show w1.heap.size ≤ gp by obtain ⟨_, _, _, _, _, _, _, _, h2⟩ := hra; exact h2.lg)
  clear hra HR PR PO HT
  replace ZR := hid (ZR.out.step hb2); replace HB := hid (below_then HB.out hb2)
  clear hb2 HRR HZR
  obtain ⟨rc, ⟨rnow, rns, ros⟩, rg, rqs, ran⟩ := r
  dsimp only at HRA ⊢
  obtain ⟨b, es2, is, what, R, nr, kr, hq2, hca⟩ := HRA.out
  have HQ2 := hid hq2; have HX := hid hca.cx; have PC := hid hca.box
  clear hq2 hca HRA
  go_upto_region 2 with fail
  have HLZ := hid (show w.heap.size + 1 + 1 < w1.heap.size by have := hz0.out; omega)
  have hne := hid (show gp ≠ w.heap.size + 1 + 1 by have := HLZ.out; have := HRL.out; omega)
  have bx := (Below.refl w2.heap.size w2).drew
  replace ZR := hid (ZR.out.step bx); replace PC := hid (PC.out.step bx); replace HX := hid (HX.out.step bx); replace HB := hid (below_then HB.out bx)
  clear bx
  have hszd := hid (show w2.drew.heap.size = w2.heap.size from rfl)
  refine wp_region_noPanic ?_
  refine wp_region_held_drew (S := (fun W' : World => W'.cell? ⟨gp, 0, none⟩ = some (.int .i64 rnow) ∧ W'.cell? ⟨gp, 1, none⟩ = some (.slice b.A b.n b.k) ∧ W'.cell? ⟨gp, 2, none⟩ = some (.slice b.B b.m b.d) ∧ W'.cell? ⟨gp, 3, none⟩ = some (.int .i64 rg.dn) ∧ W'.cell? ⟨gp, 4, none⟩ = some (.int .i64 rg.ak) ∧ W'.cell? ⟨gp, 5, none⟩ = some (.bool rg.on) ∧ W'.cell? ⟨gp, 6, none⟩ = some (.slice b.D rg.nd.length b.kd) ∧ W'.cell? ⟨gp, 7, none⟩ = some (.slice b.Q b.nq b.kq) ∧ W'.cell? ⟨gp, 8, none⟩ = some (.int .i64 is) ∧ W'.cell? ⟨gp, 9, none⟩ = some (.int .u64 what) ∧ W'.cell? ⟨gp, 10, none⟩ = some (.slice R nr kr))) (by kernel_rfl) ⟨PC.out.cells11.1, PC.out.cells11.2.1, PC.out.cells11.2.2.1, PC.out.cells11.2.2.2.1, PC.out.cells11.2.2.2.2.1, PC.out.cells11.2.2.2.2.2.1, PC.out.cells11.2.2.2.2.2.2.1, PC.out.cells11.2.2.2.2.2.2.2.1, PC.out.cells11.2.2.2.2.2.2.2.2.1, PC.out.cells11.2.2.2.2.2.2.2.2.2.1, PC.out.cells11.2.2.2.2.2.2.2.2.2.2.1⟩ (fun hS => ?_)
  generalize w2.drew = Wd at *
  refine tk 0 hS ?_
  refine tk 1 hS ?_
  refine tk 2 hS ?_
  refine tk 3 hS ?_
  refine tk 4 hS ?_
  refine tk 5 hS ?_
  refine tk 6 hS ?_
  refine tk 7 hS ?_
  refine tk 8 hS ?_
  refine rdy [9] (csy (fun K hK => ?_) AllReadyH.nil)
  obtain ⟨y00, y01, y02, y03, y04, y05, y06, y07, yf0⟩ := ZR.out.cells8
  go_simp
  clear y00 y01 y02 y03 y04 y05 y06 y07 yf0
  refine named_store_8_8_0 ZR.out ?_
  intro Ws9 hbk hgr hsz
  have hsz0 := hid hsz
  clear hsz
  replace PC := hid (PC.out.grown hgr (by have := hne.out; simp; omega)); replace HX := hid (HX.out.low HLZ.out hgr)
  replace HB := hid (HB.out.grown hgr HB.out.size (fun r e => by cases e; omega))
  replace ZR := hid hbk
  clear hbk hgr
  clear hS
  refine ky hK ⟨PC.out.cells11.1, PC.out.cells11.2.1, PC.out.cells11.2.2.1, PC.out.cells11.2.2.2.1, PC.out.cells11.2.2.2.2.1, PC.out.cells11.2.2.2.2.2.1, PC.out.cells11.2.2.2.2.2.2.1, PC.out.cells11.2.2.2.2.2.2.2.1, PC.out.cells11.2.2.2.2.2.2.2.2.1, PC.out.cells11.2.2.2.2.2.2.2.2.2.1, PC.out.cells11.2.2.2.2.2.2.2.2.2.2.1⟩ fun hS => ?_
  clear hK K
  refine tk 10 hS ?_
  refine tk 11 hS ?_
  refine wpAnyH_done (by kernel_rfl) ?_ _
  refine NoPanic.normal ?_
  clear hS
  go_wp2
  obtain ⟨y00, y01, y02, y03, y04, y05, y06, y07, yf0⟩ := ZR.out.cells8
  refine bodyPost_ret (v := .tuple #[rcv (rnow, rns, ros) rg b, .slice R nr kr, .int .i64 rc]) (by simp [results, Tryz.results14, go_sem, y00, y01, y02, y03, y04, y05, y06, y07]) rfl ⟨b, R, nr, kr, rfl, ⟨es2, gp, HQ2.out, HX.out.mono (by have := HLZ.out; omega)⟩, HB.out⟩
end Go.Proofs.YtfipdoofgbjbjaaGreat

/- package grace: New, where nothing else of Gr11 is there. No condition but sizes. -/
namespace Go.Proofs.YtfipdoofgbjbjaaGreat
open Go.RowKit
attribute [local go_sem] Oper.semAt_some
def nGr (n : Nat) : Gr := ⟨List.replicate n false, 0, 0, false⟩
theorem nGr_ok {n : Nat} (h1 : 1 ≤ n) (h8 : n ≤ 8) : GrOk (nGr n) := by
  refine ⟨by simpa [nGr] using h1, by simpa [nGr] using h8, Int.le_refl 0, by show (0 : Int) + 0 ≤ 0; decide, by show (0 : Int) ≤ 0 + 1; decide, by show (0 : Int) ≤ 2147483645; decide, ?_⟩
  show false = !gIdle (List.replicate n false)
  rw [(gIdle_iff _).2 (fun k => by rw [List.getElem?_replicate]; split <;> rfl)]
  rfl
def GNew (w : World) (n : Nat) (x : Ending) (w' : World) : Prop := ∃ D, x = .returned (.tuple #[gv (nGr n) D n n, .int .i64 0]) ∧ Ow blv w' w.heap.size 4 D n n (nGr n).nd ∧ Below w.heap.size w w'
theorem zrow_bool (n : Nat) : zrow (.bool false) n = ((List.replicate n false).map blv).toArray := by
  simp [zrow, blv]
set_option maxRecDepth 100000 in
set_option maxHeartbeats 4000000 in
theorem gnew_ok (n : Nat) (w : World) (h1 : 1 ≤ n) (h8 : n ≤ 8) : Calls Tryz.prog 69 #[.int .i64 n] w (GNew w n) := by
  have HB := hid (Below.refl w.heap.size w); have H1 := hid h1; have H8 := hid h8
  have bx := below_box w (.cells #[.int .i64 0, .int .i64 0, .bool false, .slice none 0 0] 27)
  replace HB := hid (below_then HB.out bx)
  clear bx
  have ZG := hid (Blk.new w 27 #[.int .i64 0, .int .i64 0, .bool false, .slice none 0 0])
  have d1 : decide ((n : Int) < 1) = false := decide_eq_false (by omega)
  have d2 : decide ((8 : Int) < (n : Int)) = false := decide_eq_false (by omega)
  have d3 : decide ((n : Int) > 8) = false := decide_eq_false (by omega)
  clear h1 h8
  go_enter Tryz.func69, Tryz.ntmps69
  go_upto_region 3 with fail
  have hz0 := hid (show (w.alloc (.cells #[.int .i64 0, .int .i64 0, .bool false, .slice none 0 0] 27)).heap.size = w.heap.size + 1 by simp)
  generalize w.alloc (.cells #[.int .i64 0, .int .i64 0, .bool false, .slice none 0 0] 27) = W0 at *
  have HZ0 := hid hz0
  clear d1 d2 d3 hz0
  have hm := run_make_boolg n (by have := H8.out; omega)
  have ZGa := hid (ZG.out.step (below_box W0 (.cells (zrow (.bool false) n) 4)))
  obtain ⟨y00, y01, y02, y03, yf0⟩ := ZG.out.cells4
  obtain ⟨y10, y11, y12, y13, yf1⟩ := ZGa.out.cells4
  go_wp2_with fail
  clear hm y00 y01 y02 y03 yf0 y10 y11 y12 y13 yf1 ZGa
  have bx := below_box W0 (.cells (zrow (.bool false) n) 4)
  replace ZG := hid (ZG.out.step bx); replace HB := hid (below_then HB.out bx)
  clear bx
  have PD := hid (Blk.new W0 4 (zrow (.bool false) n))
  generalize W0.alloc (.cells (zrow (.bool false) n) 4) = W1 at *
  have Z4 := hid (show Blk ((((W1.setCell ⟨w.heap.size, 0, none⟩ (.int .i64 0)).setCell ⟨w.heap.size, 1, none⟩ (.int .i64 0)).setCell ⟨w.heap.size, 2, none⟩ (.bool false)).setCell ⟨w.heap.size, 3, none⟩ (.slice (some ⟨W0.heap.size, 0, none⟩) n n)) w.heap.size 27 #[.int .i64 0, .int .i64 0, .bool false, .slice (some ⟨W0.heap.size, 0, none⟩) n n] from (((ZG.out.setCell 0 _).setCell 1 _).setCell 2 _).setCell 3 _)
  obtain ⟨y00, y01, y02, y03, yf0⟩ := Z4.out.cells4
  refine bodyPost_ret (v := .tuple #[gv (nGr n) (some ⟨W0.heap.size, 0, none⟩) n n, .int .i64 0]) (by simp [results, Tryz.results69, go_sem, nGr, y00, y01, y02, y03]) rfl ⟨some ⟨W0.heap.size, 0, none⟩, rfl, ?_, ?_⟩
  · have hz := HZ0.out.out
    exact ((((Blk.ow (enc := blv) (xs := List.replicate n false) (lo := w.heap.size) (n := n) PD.out (zrow_bool n) (by simp) (by omega) (by have := H8.out; simp only [maxLen]; omega)).far (p := ⟨w.heap.size, 0, none⟩) (by simp; omega) _).far (p := ⟨w.heap.size, 1, none⟩) (by simp; omega) _).far (p := ⟨w.heap.size, 2, none⟩) (by simp; omega) _).far (p := ⟨w.heap.size, 3, none⟩) (by simp; omega) _
  · exact (((HB.out.setCell (p := ⟨w.heap.size, 0, none⟩) (by simp) _).setCell (p := ⟨w.heap.size, 1, none⟩) (by simp) _).setCell (p := ⟨w.heap.size, 2, none⟩) (by simp) _).setCell (p := ⟨w.heap.size, 3, none⟩) (by simp) _
end Go.Proofs.YtfipdoofgbjbjaaGreat

/- package rcu: quiet, waiting, idle. No condition but sizes, and that numbers are of their kinds. -/
namespace Go.Proofs.YtfipdoofgbjbjaaGreat
open Go.RowKit
attribute [local go_sem] Oper.semAt_some
/-- how many callbacks there are -/
def wN (qs : Qs) : Nat := (qs.map fun q => q.1.length).sum
def quietB (s : St) : Bool := s.2.1.all fun n => decide (n = 0)
def idleB (s : St) (g : Gr) (qs : Qs) : Bool := quietB s && (decide (wN qs = 0) && (!g.on && decide (g.ak = g.dn)))
theorem wN_take {es : List Qe} {j : Nat} (h : j < es.length) : wN (ql (es.take (j + 1))) = wN (ql (es.take j)) + (es[j]?.getD zQe).l.length := by
  rw [List.take_succ_eq_append_getElem h, List.getElem?_eq_getElem h]
  unfold wN ql
  simp only [List.map_append, List.map_cons, List.map_nil, List.sum_append, List.sum_cons, List.sum_nil, Nat.add_zero, Option.getD_some]
theorem wN_le {es : List Qe} (h : ∀ x ∈ es, x.l.length ≤ 1000) : ∀ j, wN (ql (es.take j)) ≤ j * 1000 := by
  intro j
  induction j with
  | zero => simp [wN, ql]
  | succ j ih =>
    rcases Nat.lt_or_ge j es.length with hj | hj
    · rw [wN_take hj]
      have := h _ (List.getElem_mem hj)
      rw [List.getElem?_eq_getElem hj]
      show _ + es[j].l.length ≤ _
      omega
    · rw [List.take_of_length_le (by omega)]
      rw [List.take_of_length_le hj] at ih
      exact Nat.le_trans ih (Nat.mul_le_mul_right _ (Nat.le_succ _))
theorem quiet1_any (x : Int) (w : World) : Calls Tryz.prog 81 #[.int .i64 x] w fun e w' => e = .returned (.bool (decide (x = 0))) ∧ Below w.heap.size w w' := by
  go_enter Tryz.func81, Tryz.ntmps81
  go_wp2
  go_ret
  exact ⟨ret_bool rfl, Below.refl _ _⟩
set_option maxRecDepth 100000 in
set_option maxHeartbeats 4000000 in
theorem rquiet_any (s : St) (g : Gr) (es : List Qe) (a : Ra) (w : World) (h : RcR w s g es a) :
    Calls Tryz.prog 47 #[rcv s g a] w fun e w' => e = .returned (.bool (quietB s)) ∧ Below w.heap.size w w' := by
  have HR := hid h; have HB := hid (Below.refl w.heap.size w)
  clear h
  have bx := below_box w (.cells (rcells s g a) 30)
  replace HR := hid (HR.out.step bx); replace HB := hid (below_then HB.out bx)
  clear bx
  have PR := hid (Blk.new w 30 (rcells s g a))
  go_enter Tryz.func47, Tryz.ntmps47
  obtain ⟨y00, y01, y02, y03, y04, y05, y06, y07, yf0⟩ := PR.out.cells8
  go_wp2_with fail
  have hz0 := hid (show (w.alloc (.cells (rcells s g a) 30)).heap.size = w.heap.size + 1 by simp)
  generalize w.alloc (.cells (rcells s g a) 30) = W0 at *
  clear y00 y01 y02 y03 y04 y05 y06 y07 yf0
  refine (all_int a.A a.n a.k s.2.1 81 #[] (fun n => decide (n = 0)) W0 HR.out.rd.hx (by have := HR.out.rd.hn; omega) (enters_of Tryz.func81 (by kernel_rfl) rfl) (fun y W hy hbW => quiet1_any y W)).mono ?_
  rintro e w2 ⟨rfl, hb⟩
  replace HR := hid (HR.out.step hb); replace PR := hid (PR.out.step hb); replace HB := hid (below_then HB.out hb)
  clear hb hz0
  go_wp2
  go_ret
  exact ⟨rfl, HB.out⟩
set_option maxRecDepth 100000 in
set_option maxHeartbeats 4000000 in
theorem waiting_any (s : St) (g : Gr) (es : List Qe) (a : Ra) (w : World) (h : RcR w s g es a) :
    Calls Tryz.prog 65 #[rcv s g a] w fun e w' => e = .returned (.int .i64 (wN (ql es))) ∧ Below w.heap.size w w' := by
  have HR := hid h; have HB := hid (Below.refl w.heap.size w)
  clear h
  have bx := below_box w (.cells (rcells s g a) 30)
  replace HR := hid (HR.out.step bx); replace HB := hid (below_then HB.out bx)
  clear bx
  have PR := hid (Blk.new w 30 (rcells s g a))
  go_enter Tryz.func65, Tryz.ntmps65
  obtain ⟨y00, y01, y02, y03, y04, y05, y06, y07, yf0⟩ := PR.out.cells8
  go_wp2_with fail
  have hz0 := hid (show (w.alloc (.cells (rcells s g a) 30)).heap.size = w.heap.size + 1 by simp)
  generalize w.alloc (.cells (rcells s g a) 30) = W0 at *
  clear y00 y01 y02 y03 y04 y05 y06 y07 yf0
  have hl := hid HR.out.qs.len
  have HWN := hid (wN_le (es := es) (fun x hx => by rw [(HR.out.qe x hx).1.len]; exact (HR.out.qe x hx).2.2.1))
  have HQL := hid HR.out.ql
  go_loopw [3, 5, 9] (fun n _ i wr => ∃ j : Nat, j ≤ a.nq ∧ i = .int .i64 j ∧ n = .int .i64 (wN (ql (es.take j))) ∧ Below W0.heap.size W0 wr) (fun _ _ i _ => a.nq - (intOf i).toNat)
  case atStart => exact ⟨0, Nat.zero_le _, rfl, by simp [wN, ql], Below.refl _ _⟩
  case round =>
    obtain ⟨j, hj, rfl, rfl, hbw⟩ := hrel
    have HBW := hid hbw
    clear hbw
    by_cases hjn : j < a.nq
    rotate_left
    · obtain rfl : j = a.nq := by omega
      have hnn : ¬ ((a.nq : Int) < (a.nq : Int)) := by omega
      have he := hid (show wN (ql (es.take a.nq)) = wN (ql es) by rw [List.take_of_length_le (by rw [hl.out]; exact Nat.le_refl _)])
      rw [he.out]
      clear he
      go_wp2
      go_ret
      exact ⟨rfl, below_then HB.out HBW.out⟩
    obtain ⟨b, off, hQ, _, hbh, hc⟩ := (HR.out.qs.below HBW.out (Nat.le_refl _)).row (by omega)
    obtain ⟨x, hx⟩ : ∃ x, x = es[j]?.getD zQe := ⟨_, rfl⟩
    have f0 := hc j hjn 0 (by omega)
    have f1 := hc j hjn 1 (by omega)
    rw [← hx] at f0 f1
    have hjl : j < es.length := by rw [hl.out]; exact hjn
    have hwt := wN_take hjl
    rw [← hx] at hwt
    have HM := hid (show x ∈ es by rw [hx, List.getElem?_eq_getElem hjl]; exact List.getElem_mem _)
    have hxn : x.l.length = x.n := (HR.out.qe x HM.out).1.len
    rw [hxn] at hwt
    have hxk : x.n ≤ 1000 := (HR.out.qe x HM.out).2.2.1
    have HWT := hid hwt
    obtain ⟨xl, xo, xA, xn, xc⟩ := x
    have hw0 : wN (ql (es.take j)) ≤ j * 1000 := HWN.out j
    have hnq : a.nq ≤ 1000 := HQL.out
    dsimp only at hxn hxk
    replace f0 : wr.cell? ⟨b, off + j * 2, none⟩ = some (.slice xA xn xc) := f0
    replace f1 : wr.cell? ⟨b, off + j * 2 + 1, none⟩ = some (.int .u64 xo) := f1
    have hji : (j : Int) < (a.nq : Int) := by omega
    have hw1 : IntKind.i64.wrap ((j : Int) + 1) = (j : Int) + 1 := by rw [IntKind.wrap_i64]; omega
    obtain ⟨m, hm⟩ : ∃ m, m = wN (ql (es.take j)) := ⟨_, rfl⟩
    rw [← hm] at hw0 ⊢
    have HMM := hid hm
    have hw2 : IntKind.i64.wrap ((m : Int) + (xn : Int)) = (m : Int) + (xn : Int) := by rw [IntKind.wrap_i64]; omega
    have bx := hid (below_box wr (.cells #[.slice xA xn xc, .int .u64 xo] 58))
    obtain ⟨q0, q1, qf⟩ := (Blk.new wr 58 #[.slice xA xn xc, .int .u64 xo]).cells2
    clear hm hc hx hwt hw0 hxn hxk hnq hbh hjl
    rw [hQ]
    go_wp2_with fail
    go_roundw
    case rel => exact ⟨j + 1, by omega, by go_num, by rw [HWT.out, ← HMM.out]; simp, below_then HBW.out bx.out⟩
    case measure => simp [intOf]; omega
set_option maxRecDepth 100000 in
set_option maxHeartbeats 4000000 in
theorem rwaiting_any (s : St) (g : Gr) (es : List Qe) (a : Ra) (w : World) (h : RcR w s g es a) :
    Calls Tryz.prog 22 #[rcv s g a] w fun e w' => e = .returned (.int .i64 (if RcOk s g es then (wN (ql es) : Int) else 0)) ∧ Below w.heap.size w w' := by
  have HR := hid h; have HB := hid (Below.refl w.heap.size w)
  clear h
  have bx := below_box w (.cells (rcells s g a) 30)
  replace HR := hid (HR.out.step bx); replace HB := hid (below_then HB.out bx)
  clear bx
  have PR := hid (Blk.new w 30 (rcells s g a))
  obtain ⟨V, hV⟩ : ∃ V : Int, V = if RcOk s g es then (wN (ql es) : Int) else 0 := ⟨_, rfl⟩
  rw [← hV]
  have HY := hid (fun h : RcOk s g es => show V = (wN (ql es) : Int) by rw [hV]; exact if_pos h); have HN := hid (fun h : ¬ RcOk s g es => show V = 0 by rw [hV]; exact if_neg h)
  have HCY := hid (fun h : RcOk s g es => show rcheckC s g es = 0 from if_pos h); have HCN := hid (fun h : ¬ RcOk s g es => show rcheckC s g es = 240 from if_neg h)
  clear hV
  go_enter Tryz.func22, Tryz.ntmps22
  obtain ⟨y00, y01, y02, y03, y04, y05, y06, y07, yf0⟩ := PR.out.cells8
  go_wp2_with fail
  have hz0 := hid (show (w.alloc (.cells (rcells s g a) 30)).heap.size = w.heap.size + 1 by simp)
  generalize w.alloc (.cells (rcells s g a) 30) = W0 at *
  clear y00 y01 y02 y03 y04 y05 y06 y07 yf0 hz0
  refine (rcheck_any s g es a _ HR.out).mono ?_
  rintro e w1 ⟨rfl, hb⟩
  replace HR := hid (HR.out.step hb); replace PR := hid (PR.out.step hb); replace HB := hid (below_then HB.out hb)
  clear hb
  by_cases hok : RcOk s g es
  ·skip
   rw [HCY.out hok]
   have HV2 := hid (HY.out hok)
   clear hok HCY HCN HY HN
   obtain ⟨y00, y01, y02, y03, y04, y05, y06, y07, yf0⟩ := PR.out.cells8
   go_wp2_with fail
   clear y00 y01 y02 y03 y04 y05 y06 y07 yf0
   refine (waiting_any s g es a _ HR.out).mono ?_
   rintro e w2 ⟨rfl, hb⟩
   replace HR := hid (HR.out.step hb); replace PR := hid (PR.out.step hb); replace HB := hid (below_then HB.out hb)
   clear hb
   go_wp2
   go_ret
   exact ⟨ret_int HV2.out.symm, HB.out⟩
  ·skip
   rw [HCN.out hok]
   have HV2 := hid (HN.out hok)
   clear hok HCY HCN HY HN
   go_wp2
   go_ret
   exact ⟨ret_int HV2.out.symm, HB.out⟩
set_option maxRecDepth 100000 in
set_option maxHeartbeats 4000000 in
theorem rcidle_any (s : St) (g : Gr) (es : List Qe) (a : Ra) (w : World) (h : RcR w s g es a) :
    Calls Tryz.prog 48 #[rcv s g a] w fun e w' => e = .returned (.bool (idleB s g (ql es))) ∧ Below w.heap.size w w' := by
  have HR := hid h; have HB := hid (Below.refl w.heap.size w)
  clear h
  have bx := below_box w (.cells (rcells s g a) 30)
  replace HR := hid (HR.out.step bx); replace HB := hid (below_then HB.out bx)
  clear bx
  have PR := hid (Blk.new w 30 (rcells s g a))
  obtain ⟨V, hV⟩ : ∃ V, V = idleB s g (ql es) := ⟨_, rfl⟩
  obtain ⟨q, hq⟩ : ∃ q, q = quietB s := ⟨_, rfl⟩
  rw [← hV]
  unfold idleB at hV
  rw [← hq] at hV
  have HV := hid hV; have HQ := hid hq
  clear hV hq
  go_enter Tryz.func48, Tryz.ntmps48
  obtain ⟨y00, y01, y02, y03, y04, y05, y06, y07, yf0⟩ := PR.out.cells8
  go_wp2_with fail
  have hz0 := hid (show (w.alloc (.cells (rcells s g a) 30)).heap.size = w.heap.size + 1 by simp)
  generalize w.alloc (.cells (rcells s g a) 30) = W0 at *
  clear y00 y01 y02 y03 y04 y05 y06 y07 yf0 hz0
  refine (rquiet_any s g es a _ HR.out).mono ?_
  rintro e w1 ⟨rfl, hb⟩
  replace HR := hid (HR.out.step hb); replace PR := hid (PR.out.step hb); replace HB := hid (below_then HB.out hb)
  clear hb
  rw [← HQ.out]
  cases q
  ·skip
   have HV2 := hid (show V = false by rw [HV.out]; rfl)
   clear HV
   go_wp2
   go_ret
   exact ⟨ret_bool HV2.out.symm, HB.out⟩
  replace HV := hid (show V = (decide (wN (ql es) = 0) && (!g.on && decide (g.ak = g.dn))) by rw [HV.out, Bool.true_and])
  obtain ⟨y00, y01, y02, y03, y04, y05, y06, y07, yf0⟩ := PR.out.cells8
  go_wp2_with fail
  clear y00 y01 y02 y03 y04 y05 y06 y07 yf0
  refine (waiting_any s g es a _ HR.out).mono ?_
  rintro e w2 ⟨rfl, hb⟩
  replace HR := hid (HR.out.step hb); replace PR := hid (PR.out.step hb); replace HB := hid (below_then HB.out hb)
  clear hb
  obtain ⟨m, hm⟩ : ∃ m, m = wN (ql es) := ⟨_, rfl⟩
  rw [← hm] at HV ⊢
  clear hm
  obtain ⟨on, hon⟩ : ∃ b, b = g.on := ⟨_, rfl⟩
  by_cases h0 : m = 0
  ·skip
   subst h0
   replace HV := hid (show V = (!on && decide (g.ak = g.dn)) by rw [HV.out, hon, decide_eq_true rfl, Bool.true_and])
   obtain ⟨y00, y01, y02, y03, y04, y05, y06, y07, yf0⟩ := PR.out.cells8
   rw [← hon] at y05
   clear hon
   cases on
   ·skip
    have HV2 := hid (show V = decide (g.ak = g.dn) by rw [HV.out]; rfl)
    clear HV
    go_wp2
    go_ret
    exact ⟨ret_bool HV2.out.symm, HB.out⟩
   ·skip
    have HV2 := hid (show V = false by rw [HV.out]; rfl)
    clear HV
    go_wp2
    go_ret
    exact ⟨ret_bool HV2.out.symm, HB.out⟩
  ·skip
   have d1 : ((m : Int) == 0) = false := by simpa using h0
   have HV2 := hid (show V = false by rw [HV.out, decide_eq_false h0]; rfl)
   clear HV h0 hon
   go_wp2
   go_ret
   exact ⟨ret_bool HV2.out.symm, HB.out⟩
set_option maxRecDepth 100000 in
set_option maxHeartbeats 4000000 in
theorem ridle_any (s : St) (g : Gr) (es : List Qe) (a : Ra) (w : World) (h : RcR w s g es a) :
    Calls Tryz.prog 20 #[rcv s g a] w fun e w' => e = .returned (.bool (decide (RcOk s g es) && idleB s g (ql es))) ∧ Below w.heap.size w w' := by
  have HR := hid h; have HB := hid (Below.refl w.heap.size w)
  clear h
  have bx := below_box w (.cells (rcells s g a) 30)
  replace HR := hid (HR.out.step bx); replace HB := hid (below_then HB.out bx)
  clear bx
  have PR := hid (Blk.new w 30 (rcells s g a))
  have HCY := hid (fun h : RcOk s g es => show rcheckC s g es = 0 from if_pos h); have HCN := hid (fun h : ¬ RcOk s g es => show rcheckC s g es = 240 from if_neg h)
  obtain ⟨V, hV⟩ : ∃ V, V = (decide (RcOk s g es) && idleB s g (ql es)) := ⟨_, rfl⟩
  rw [← hV]
  have HY := hid (fun h : RcOk s g es => show V = idleB s g (ql es) by rw [hV, decide_eq_true h, Bool.true_and]); have HN := hid (fun h : ¬ RcOk s g es => show V = false by rw [hV, decide_eq_false h]; rfl)
  clear hV
  go_enter Tryz.func20, Tryz.ntmps20
  obtain ⟨y00, y01, y02, y03, y04, y05, y06, y07, yf0⟩ := PR.out.cells8
  go_wp2_with fail
  have hz0 := hid (show (w.alloc (.cells (rcells s g a) 30)).heap.size = w.heap.size + 1 by simp)
  generalize w.alloc (.cells (rcells s g a) 30) = W0 at *
  clear y00 y01 y02 y03 y04 y05 y06 y07 yf0 hz0
  refine (rcheck_any s g es a _ HR.out).mono ?_
  rintro e w1 ⟨rfl, hb⟩
  replace HR := hid (HR.out.step hb); replace PR := hid (PR.out.step hb); replace HB := hid (below_then HB.out hb)
  clear hb
  by_cases hok : RcOk s g es
  ·skip
   rw [HCY.out hok]
   have HV2 := hid (HY.out hok)
   clear hok HCY HCN HY HN
   obtain ⟨y00, y01, y02, y03, y04, y05, y06, y07, yf0⟩ := PR.out.cells8
   go_wp2_with fail
   clear y00 y01 y02 y03 y04 y05 y06 y07 yf0
   refine (rcidle_any s g es a _ HR.out).mono ?_
   rintro e w2 ⟨rfl, hb⟩
   replace HR := hid (HR.out.step hb); replace PR := hid (PR.out.step hb); replace HB := hid (below_then HB.out hb)
   clear hb
   go_wp2
   go_ret
   exact ⟨ret_bool HV2.out.symm, HB.out⟩
  ·skip
   rw [HCN.out hok]
   have HV2 := hid (HN.out hok)
   clear hok HCY HCN HY HN
   go_wp2
   go_ret
   exact ⟨ret_bool HV2.out.symm, HB.out⟩
end Go.Proofs.YtfipdoofgbjbjaaGreat

/- package rcu: New. No condition but sizes. -/
namespace Go.Proofs.YtfipdoofgbjbjaaGreat
open Go.RowKit
attribute [local go_sem] Oper.semAt_some
/-- the cells of so many queues that hold nothing -/
def zqs (n : Nat) : Array Value := madeCells (Value.agg #[.slice none 0 0, .int .u64 0]).cells (n * 2)
theorem zqs_get {n k : Nat} (h : k < n * 2) : (zqs n)[k]? = some (encQ zQe (k % 2)) := by
  have h3 : k % 2 = 0 ∨ k % 2 = 1 := by omega
  rcases h3 with e | e <;> simp [zqs, madeCells, h, Value.cells, e, encQ, zQe]
theorem zqs_size (n : Nat) : (zqs n).size = n * 2 := by simp [zqs, madeCells]
theorem run_make_que (n : Nat) (hn : n ≤ 1000) (w : World) : (Instr.makeSlice 28 (.int .i64 n) (.int .i64 n)).run Tryz.prog w = .ok (.slice (some ⟨w.heap.size, 0, none⟩) n n) (w.alloc (.cells (zqs n) 58)) := by
  obtain ⟨i, hi, hz, hs, hb⟩ : ∃ i, Tryz.prog.info? 58 = some i ∧ i.zero = some (.agg #[.slice none 0 0, .int .u64 0]) ∧ i.size = 2 ∧ i.bytes = 32 := by
    have h := info_que
    cases hq : Tryz.prog.info? 58 with
    | none => rw [hq] at h; cases h
    | some i =>
      rw [hq] at h
      simp only [Option.map_some, Option.some.injEq, Prod.mk.injEq] at h
      exact ⟨i, rfl, h.1, h.2.1, h.2.2⟩
  have h := run_make (P := Tryz.prog) w 28 58 i _ Tryz.underlying28 hi hz .i64 .i64 n n (by omega) (Int.le_refl _) (by rw [hb]; omega) (by omega)
  rw [Int.toNat_natCast, hs] at h
  exact h
theorem zqs_flat (n : Nat) : (zqs n).toList = flat 2 encQ (List.replicate n zQe) := by
  apply List.ext_getElem?
  intro k
  by_cases h : k < n * 2
  · have e : k = (k / 2) * 2 + k % 2 := by omega
    have hf := flat_get (sz := 2) (enc := encQ) zQe (List.replicate n zQe) (k / 2) (k % 2) (by rw [List.length_replicate]; omega) (by omega)
    rw [← e] at hf
    rw [Array.getElem?_toList, zqs_get h, hf, List.getElem?_replicate, if_pos (by omega)]
    rfl
  · rw [List.getElem?_eq_none (by rw [Array.length_toList, zqs_size]; omega), List.getElem?_eq_none (by rw [flat_length, List.length_replicate]; omega)]
theorem Om.zqs {w : World} {lo g : Nat} (n : Nat) (h : Blk w g 58 (zqs n)) (hlo : lo ≤ g) (hn : n ≤ 1000) : Om 2 encQ w lo 58 (some ⟨g, 0, none⟩) n n (List.replicate n zQe) := by
  refine ⟨by simp, by rw [flat_length, List.length_replicate], .inr ⟨g, n, _, rfl, hlo, h, Nat.le_refl _, by simp [maxLen]; omega, by rw [zqs_size], ?_⟩⟩
  rw [← zqs_flat, List.take_of_length_le (by rw [Array.length_toList, zqs_size]; omega)]
def nSt (n : Nat) : St := (0, List.replicate n 0, List.replicate n 0)
def nQs (n : Nat) : Qs := List.replicate n ([], 0)
theorem ql_rep (n : Nat) : ql (List.replicate n zQe) = nQs n := by simp [ql, nQs, zQe]
def RnwPost (w : World) (n : Nat) (x : Ending) (w' : World) : Prop := ∃ a, x = .returned (.tuple #[rcv (nSt n) (nGr n) a, .int .i64 0]) ∧ a.nq = n ∧ RcT w' w.heap.size (nSt n) (nGr n) (List.replicate n zQe) a ∧ Below w.heap.size w w'
set_option maxRecDepth 100000 in
set_option maxHeartbeats 4000000 in
theorem rnew_ok (n : Nat) (w : World) (h1 : 1 ≤ n) (h8 : n ≤ 8) : Calls Tryz.prog 25 #[.int .i64 n] w (RnwPost w n) := by
  have HB := hid (Below.refl w.heap.size w); have H1 := hid h1; have H8 := hid h8
  clear h1 h8
  have bx := below_box w (.cells #[.int .i64 0, .slice none 0 0, .slice none 0 0, .int .i64 0, .int .i64 0, .bool false, .slice none 0 0, .slice none 0 0] 30)
  replace HB := hid (below_then HB.out bx)
  clear bx
  have ZR := hid (Blk.new w 30 #[.int .i64 0, .slice none 0 0, .slice none 0 0, .int .i64 0, .int .i64 0, .bool false, .slice none 0 0, .slice none 0 0])
  go_enter Tryz.func25, Tryz.ntmps25
  go_wp2_with fail
  have hz0 := hid (show (w.alloc (.cells #[.int .i64 0, .slice none 0 0, .slice none 0 0, .int .i64 0, .int .i64 0, .bool false, .slice none 0 0, .slice none 0 0] 30)).heap.size = w.heap.size + 1 by simp)
  generalize w.alloc (.cells #[.int .i64 0, .slice none 0 0, .slice none 0 0, .int .i64 0, .int .i64 0, .bool false, .slice none 0 0, .slice none 0 0] 30) = W0 at *
  have HZ0 := hid hz0
  clear hz0
  refine (new_ok n W0 H1.out H8.out).mono ?_
  rintro e w1 ⟨A, B, rfl, ho, hb⟩
  replace ZR := hid (ZR.out.step hb); replace HB := hid (below_then HB.out hb)
  have HS1 := hid (show w.heap.size < w1.heap.size by have := HZ0.out.out; have := hb.size; omega)
  have RO := hid ho
  clear ho hb
  have bx := below_box w1 (.cells #[.int .i64 0, .slice A n n, .slice B n n] 24)
  replace ZR := hid (ZR.out.step bx); replace RO := hid (RO.out.step bx); replace HB := hid (below_then HB.out bx)
  clear bx
  have P4 := hid (Blk.new w1 24 #[.int .i64 0, .slice A n n, .slice B n n])
  go_upto_region 4 with fail
  have hz2 := hid (show (w1.alloc (.cells #[.int .i64 0, .slice A n n, .slice B n n] 24)).heap.size = w1.heap.size + 1 by simp)
  generalize w1.alloc (.cells #[.int .i64 0, .slice A n n, .slice B n n] 24) = W2 at *
  have HZ2 := hid hz2
  clear hz2
  go_wp2_with fail
  refine (gnew_ok n W2 H1.out H8.out).mono ?_
  rintro e w3 ⟨D, rfl, ho, hb⟩
  replace ZR := hid (ZR.out.step hb); replace RO := hid (RO.out.step hb); replace P4 := hid (P4.out.step hb); replace HB := hid (below_then HB.out hb)
  have HS3 := hid hb.size
  have DO := hid ho
  clear ho hb
  have bx := below_box w3 (.cells #[.int .i64 (nGr n).dn, .int .i64 (nGr n).ak, .bool (nGr n).on, .slice D n n] 27)
  replace ZR := hid (ZR.out.step bx); replace RO := hid (RO.out.step bx); replace P4 := hid (P4.out.step bx); replace DO := hid (DO.out.step bx); replace HB := hid (below_then HB.out bx)
  clear bx
  have P6 := hid (Blk.new w3 27 #[.int .i64 (nGr n).dn, .int .i64 (nGr n).ak, .bool (nGr n).on, .slice D n n])
  go_upto_region 7 with fail
  have hz4 := hid (show (w3.alloc (.cells #[.int .i64 (nGr n).dn, .int .i64 (nGr n).ak, .bool (nGr n).on, .slice D n n] 27)).heap.size = w3.heap.size + 1 by simp)
  generalize w3.alloc (.cells #[.int .i64 (nGr n).dn, .int .i64 (nGr n).ak, .bool (nGr n).on, .slice D n n] 27) = W4 at *
  have HZ4 := hid hz4
  clear hz4
  have hmk := run_make_que n (by have := H8.out; omega)
  have bx := (Below.refl W4.heap.size W4).drew
  replace ZR := hid (ZR.out.step bx); replace RO := hid (RO.out.step bx); replace P4 := hid (P4.out.step bx); replace DO := hid (DO.out.step bx); replace P6 := hid (P6.out.step bx); replace HB := hid (below_then HB.out bx)
  clear bx
  have hszd := hid (show W4.drew.heap.size = W4.heap.size from rfl)
  refine wp_region_noPanic ?_
  refine wp_region_held_drew (S := (fun W' : World => W'.cell? ⟨w1.heap.size, 0, none⟩ = some (.int .i64 0) ∧ W'.cell? ⟨w1.heap.size, 1, none⟩ = some (.slice A n n) ∧ W'.cell? ⟨w1.heap.size, 2, none⟩ = some (.slice B n n) ∧ W'.cell? ⟨w3.heap.size, 0, none⟩ = some (.int .i64 (nGr n).dn) ∧ W'.cell? ⟨w3.heap.size, 1, none⟩ = some (.int .i64 (nGr n).ak) ∧ W'.cell? ⟨w3.heap.size, 2, none⟩ = some (.bool (nGr n).on) ∧ W'.cell? ⟨w3.heap.size, 3, none⟩ = some (.slice D n n))) (by kernel_rfl) ⟨P4.out.cells3.1, P4.out.cells3.2.1, P4.out.cells3.2.2.1, P6.out.cells4.1, P6.out.cells4.2.1, P6.out.cells4.2.2.1, P6.out.cells4.2.2.2.1⟩ (fun hS => ?_)
  generalize W4.drew = Wd at *
  refine tk 0 hS ?_
  refine tk 1 hS ?_
  refine tk 2 hS ?_
  refine rdy [3] (csy (fun K hK => ?_) AllReadyH.nil)
  go_simp
  clear hmk
  have bx := below_box Wd (.cells (zqs n) 58)
  have QO := hid (show Om 2 encQ (Wd.alloc (.cells (zqs n) 58)) W4.heap.size 58 (some ⟨Wd.heap.size, 0, none⟩) n n (List.replicate n zQe) from Om.zqs n (Blk.new Wd _ _) (by first | exact Nat.le_refl _ | (have := hszd.out; omega)) (by have := H8.out; omega))
  replace ZR := hid (ZR.out.step bx); replace RO := hid (RO.out.step bx); replace P4 := hid (P4.out.step bx); replace DO := hid (DO.out.step bx); replace P6 := hid (P6.out.step bx); replace HB := hid (below_then HB.out bx)
  clear bx
  generalize Wd.alloc (.cells (zqs n) 58) = Wq at *
  clear hS
  refine ky hK ⟨P4.out.cells3.1, P4.out.cells3.2.1, P4.out.cells3.2.2.1, P6.out.cells4.1, P6.out.cells4.2.1, P6.out.cells4.2.2.1, P6.out.cells4.2.2.2.1⟩ fun hS => ?_
  clear hK K
  refine tk 4 hS ?_
  refine rdy [5] (csy (fun K hK => ?_) AllReadyH.nil)
  obtain ⟨y00, y01, y02, y03, y04, y05, y06, y07, yf0⟩ := ZR.out.cells8
  go_simp
  clear y00 y01 y02 y03 y04 y05 y06 y07 yf0
  refine named_store_8_8_0 ZR.out ?_
  intro Ws5 hbk hgr hsz
  have hsz1 := hid hsz
  clear hsz
  replace RO := hid (RO.out.keptR ZR.out (by decide) hgr); replace DO := hid (DO.out.keptR ZR.out (by decide) hgr); replace QO := hid (QO.out.keptR ZR.out (by decide) hgr)
  replace P4 := hid (P4.out.grown hgr (by have := HS1.out; simp; omega)); replace P6 := hid (P6.out.grown hgr (by have := HS1.out; have := HS3.out; have := HZ2.out.out; simp; omega))
  replace HB := hid (HB.out.grown hgr HB.out.size (fun r e => by cases e; omega))
  replace ZR := hid hbk
  clear hbk hgr
  clear hS
  refine ky hK ⟨P4.out.cells3.1, P4.out.cells3.2.1, P4.out.cells3.2.2.1, P6.out.cells4.1, P6.out.cells4.2.1, P6.out.cells4.2.2.1, P6.out.cells4.2.2.2.1⟩ fun hS => ?_
  clear hK K
  refine tk 6 hS ?_
  refine wpAnyH_done (by kernel_rfl) ?_ _
  refine NoPanic.normal ?_
  clear hS
  go_wp2
  obtain ⟨y00, y01, y02, y03, y04, y05, y06, y07, yf0⟩ := ZR.out.cells8
  refine bodyPost_ret (v := .tuple #[rcv (nSt n) (nGr n) ⟨A, n, n, B, n, n, D, n, some ⟨Wd.heap.size, 0, none⟩, n, n⟩, .int .i64 0]) (by simp [results, Tryz.results25, go_sem, nGr, nSt, y00, y01, y02, y03, y04, y05, y06, y07]) rfl ⟨⟨A, n, n, B, n, n, D, n, some ⟨Wd.heap.size, 0, none⟩, n, n⟩, rfl, rfl, ⟨RO.out.mono ?_, ?_, QO.out.mono ?_, ?_⟩, HB.out⟩
  · have := HZ0.out.out; omega
  · show Ow blv _ _ _ D (List.replicate n false).length n (List.replicate n false)
    rw [List.length_replicate]
    exact DO.out.mono (by have := HZ0.out.out; have := HZ2.out.out; have := HS1.out; omega)
  · have := HZ0.out.out; have := HZ2.out.out; have := HS3.out; have := HZ4.out.out; have := HS1.out; omega
  · intro x hx
    obtain rfl := (List.mem_replicate.1 hx).2
    exact ⟨Om.nil _ _ _, by decide⟩
end Go.Proofs.YtfipdoofgbjbjaaGreat
