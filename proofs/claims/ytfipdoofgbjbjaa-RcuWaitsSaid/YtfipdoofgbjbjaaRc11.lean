/- package rcu: does. No condition but sizes. -/
import Derived.Test.YtfipdoofgbjbjaaRc10
import Derived.Test.YtfipdoofgbjbjaaKitA
namespace Go.Proofs.Ytfipdoofgbjbjaa
open Go.RowKit
attribute [local go_sem] Oper.semAt_some
theorem Blk.neT {w : World} {g k : Nat} {t u : TypeId} {cs ds : Array Value} (h : Blk w g t cs) (h2 : Blk w k u ds) (hne : t ≠ u) : g ≠ k := by
  intro e
  subst e
  unfold Blk at h h2
  rw [h] at h2
  simp at h2
  exact hne h2.2
theorem rneed_yesB (e : Int) (w : World) : Calls Try.prog 36 #[.bool true, .int .i64 e] w fun x w' => x = .returned (.tuple #[]) ∧ Below w.heap.size w w' :=
  (rneed_yes e w).mono fun _ _ ⟨h1, h2⟩ => ⟨h1, h2 ▸ Below.refl _ _⟩
section
variable {w w' : World} {l gc : Nat} {s : St} {g : Gr} {es : List Qe} {what : Int} {ran : List Int} {a : Ra} {R : Option Addr} {nr kr cp : Nat}
/-- each kind has its method -/
theorem meth_any {k : Int} (hk : 1 ≤ k ∧ k ≤ 5) (cp : Nat) (what : Int) (nr : Nat) (hnr : nr ≤ 1000000) : ∃ F, (k = 1 ∧ F = 53 ∨ k = 2 ∧ F = 54 ∨ k = 3 ∧ F = 55 ∨ k = 4 ∧ F = 39 ∨ k = 5 ∧ F = 41) ∧ Enters Try.prog F ∧
    ∀ (w : World) (l gc : Nat) (s : St) (g : Gr) (es : List Qe) (ran : List Int) (a : Ra) (R : Option Addr) (kr : Nat), CA w l gc s g es cp what ran a R nr kr → RcGood s g (ql es) → cp < es.length → Calls Try.prog F #[ptr gc] w (MPost l gc s g es ran a nr (k, (cp : Int), what) w) := by
  have h5 : k = 1 ∨ k = 2 ∨ k = 3 ∨ k = 4 ∨ k = 5 := by omega
  rcases h5 with rfl | rfl | rfl | rfl | rfl
  · exact ⟨_, .inl ⟨rfl, rfl⟩, enters_of Try.func53 (by kernel_rfl) rfl, fun w l gc s g es ran a R kr h hg hc => m_reads true _ rfl h hg hc what⟩
  · exact ⟨_, .inr (.inl ⟨rfl, rfl⟩), enters_of Try.func54 (by kernel_rfl) rfl, fun w l gc s g es ran a R kr h hg hc => m_reads false _ rfl h hg hc what⟩
  · exact ⟨_, .inr (.inr (.inl ⟨rfl, rfl⟩)), enters_of Try.func55 (by kernel_rfl) rfl, fun w l gc s g es ran a R kr h hg hc => m_call h hg hc⟩
  · exact ⟨_, .inr (.inr (.inr (.inl ⟨rfl, rfl⟩))), enters_of Try.func39 (by kernel_rfl) rfl, fun w l gc s g es ran a R kr h hg hc => m_pick h hg hc what⟩
  · exact ⟨_, .inr (.inr (.inr (.inr ⟨rfl, rfl⟩))), enters_of Try.func41 (by kernel_rfl) rfl, fun w l gc s g es ran a R kr h hg hc => m_run h hg hc hnr what⟩
end
theorem zfn14 (w : World) : (zeroValue 1).run Try.prog w = .ok .nilFunc w := by kernel_rfl
theorem opF_kind {s : St} {g : Gr} {qs : Qs} {o : Int × Int × Int} (h : o.1 < 1 ∨ 5 < o.1) : opF s g qs o = (242, s, g, qs, []) := if_pos h
theorem opF_cpu {s : St} {g : Gr} {qs : Qs} {o : Int × Int × Int} (hk : 1 ≤ o.1 ∧ o.1 ≤ 5) (h : o.2.1 < 0 ∨ (qs.length : Int) ≤ o.2.1) : opF s g qs o = (2, s, g, qs, []) := by
  unfold opF; rw [if_neg (by omega), if_pos h]
set_option maxRecDepth 100000 in
set_option maxHeartbeats 8000000 in
theorem rdoes_any (l gc : Nat) (s : St) (g : Gr) (es : List Qe) (is0 what0 : Int) (ran : List Int) (a : Ra) (R : Option Addr) (nr kr : Nat) (o : Int × Int × Int) (w : World) (h : CA w l gc s g es is0 what0 ran a R nr kr) (hg : RcGood s g (ql es)) (hnr : nr ≤ 1000000) :
    Calls Try.prog 30 #[ptr gc, .agg #[.int .i64 o.1, .int .i64 o.2.1, .int .u64 o.2.2]] w (MPost l gc s g es ran a nr o w) := by
  obtain ⟨ok, oc, ow⟩ := o
  dsimp only
  have HC := hid h; have HG := hid hg; have HB := hid (Below.refl w.heap.size w); have HNR := hid hnr
  have hl := hid (show es.length = a.nq from h.qs.len)
  clear h hg hnr
  have bx := below_box w (.cells #[.int .i64 ok, .int .i64 oc, .int .u64 ow] 44)
  replace HC := hid (HC.out.step bx); replace HB := hid (below_then HB.out bx)
  clear bx
  have PO := hid (Blk.new w 44 #[.int .i64 ok, .int .i64 oc, .int .u64 ow])
  go_enter Try.func30, Try.ntmps30
  go_upto_region 1 with fail
  generalize w.alloc (.cells #[.int .i64 ok, .int .i64 oc, .int .u64 ow] 44) = W2 at *
  have hmf : ∀ (fn : Fn) (first cap : Array Value) (w : World), (Instr.makeFunc fn first cap).run Try.prog w = .ok (.func fn first cap) w := fun _ _ _ _ => rfl
  have hmk := run_mk_new (P := Try.prog) 98
  have hu0 : (Instr.mapUpdate 98 (.map (some W2.heap.size)) (.int .i64 1) (.func (.func 53) #[ptr gc] #[])).run Try.prog (W2.alloc (.map #[] 0)) = .ok () (W2.alloc (.map #[⟨.int .i64 1, .func (.func 53) #[ptr gc] #[], 0⟩] 1)) := run_upd_new Try.underlying98 Try.underlying3 W2 _ 0 _ _ rfl
  have hu1 : (Instr.mapUpdate 98 (.map (some W2.heap.size)) (.int .i64 2) (.func (.func 54) #[ptr gc] #[])).run Try.prog (W2.alloc (.map #[⟨.int .i64 1, .func (.func 53) #[ptr gc] #[], 0⟩] 1)) = .ok () (W2.alloc (.map #[⟨.int .i64 1, .func (.func 53) #[ptr gc] #[], 0⟩, ⟨.int .i64 2, .func (.func 54) #[ptr gc] #[], 1⟩] 2)) := run_upd_new Try.underlying98 Try.underlying3 W2 _ 1 _ _ rfl
  have hu2 : (Instr.mapUpdate 98 (.map (some W2.heap.size)) (.int .i64 3) (.func (.func 55) #[ptr gc] #[])).run Try.prog (W2.alloc (.map #[⟨.int .i64 1, .func (.func 53) #[ptr gc] #[], 0⟩, ⟨.int .i64 2, .func (.func 54) #[ptr gc] #[], 1⟩] 2)) = .ok () (W2.alloc (.map #[⟨.int .i64 1, .func (.func 53) #[ptr gc] #[], 0⟩, ⟨.int .i64 2, .func (.func 54) #[ptr gc] #[], 1⟩, ⟨.int .i64 3, .func (.func 55) #[ptr gc] #[], 2⟩] 3)) := run_upd_new Try.underlying98 Try.underlying3 W2 _ 2 _ _ rfl
  have hu3 : (Instr.mapUpdate 98 (.map (some W2.heap.size)) (.int .i64 4) (.func (.func 39) #[ptr gc] #[])).run Try.prog (W2.alloc (.map #[⟨.int .i64 1, .func (.func 53) #[ptr gc] #[], 0⟩, ⟨.int .i64 2, .func (.func 54) #[ptr gc] #[], 1⟩, ⟨.int .i64 3, .func (.func 55) #[ptr gc] #[], 2⟩] 3)) = .ok () (W2.alloc (.map #[⟨.int .i64 1, .func (.func 53) #[ptr gc] #[], 0⟩, ⟨.int .i64 2, .func (.func 54) #[ptr gc] #[], 1⟩, ⟨.int .i64 3, .func (.func 55) #[ptr gc] #[], 2⟩, ⟨.int .i64 4, .func (.func 39) #[ptr gc] #[], 3⟩] 4)) := run_upd_new Try.underlying98 Try.underlying3 W2 _ 3 _ _ rfl
  have hu4 : (Instr.mapUpdate 98 (.map (some W2.heap.size)) (.int .i64 5) (.func (.func 41) #[ptr gc] #[])).run Try.prog (W2.alloc (.map #[⟨.int .i64 1, .func (.func 53) #[ptr gc] #[], 0⟩, ⟨.int .i64 2, .func (.func 54) #[ptr gc] #[], 1⟩, ⟨.int .i64 3, .func (.func 55) #[ptr gc] #[], 2⟩, ⟨.int .i64 4, .func (.func 39) #[ptr gc] #[], 3⟩] 4)) = .ok () (W2.alloc (.map #[⟨.int .i64 1, .func (.func 53) #[ptr gc] #[], 0⟩, ⟨.int .i64 2, .func (.func 54) #[ptr gc] #[], 1⟩, ⟨.int .i64 3, .func (.func 55) #[ptr gc] #[], 2⟩, ⟨.int .i64 4, .func (.func 39) #[ptr gc] #[], 3⟩, ⟨.int .i64 5, .func (.func 41) #[ptr gc] #[], 4⟩] 5)) := run_upd_new Try.underlying98 Try.underlying3 W2 _ 4 _ _ rfl
  go_upto_region 2 with fail
  clear hmk hmf hu0 hu1 hu2 hu3 hu4
  have HMP := hid ((MapKept.heap_alloc W2 (.map #[⟨.int .i64 1, .func (.func 53) #[ptr gc] #[], 0⟩, ⟨.int .i64 2, .func (.func 54) #[ptr gc] #[], 1⟩, ⟨.int .i64 3, .func (.func 55) #[ptr gc] #[], 2⟩, ⟨.int .i64 4, .func (.func 39) #[ptr gc] #[], 3⟩, ⟨.int .i64 5, .func (.func 41) #[ptr gc] #[], 4⟩] 5)).1)
  have bx := below_box W2 (.map #[⟨.int .i64 1, .func (.func 53) #[ptr gc] #[], 0⟩, ⟨.int .i64 2, .func (.func 54) #[ptr gc] #[], 1⟩, ⟨.int .i64 3, .func (.func 55) #[ptr gc] #[], 2⟩, ⟨.int .i64 4, .func (.func 39) #[ptr gc] #[], 3⟩, ⟨.int .i64 5, .func (.func 41) #[ptr gc] #[], 4⟩] 5)
  replace HC := hid (HC.out.step bx); replace PO := hid (PO.out.step bx); replace HB := hid (below_then HB.out bx)
  clear bx
  generalize W2.alloc (.map #[⟨.int .i64 1, .func (.func 53) #[ptr gc] #[], 0⟩, ⟨.int .i64 2, .func (.func 54) #[ptr gc] #[], 1⟩, ⟨.int .i64 3, .func (.func 55) #[ptr gc] #[], 2⟩, ⟨.int .i64 4, .func (.func 39) #[ptr gc] #[], 3⟩, ⟨.int .i64 5, .func (.func 41) #[ptr gc] #[], 4⟩] 5) = W3 at *
  by_cases hk : 1 ≤ ok ∧ ok ≤ 5
  rotate_left
  ·skip
   have HOP := hid (opF_kind (s := s) (g := g) (qs := ql es) (o := (ok, oc, ow)) (by show ok < 1 ∨ 5 < ok; omega))
   have hlk := run_look_no (P := Try.prog) Try.underlying98 Try.underlying3 HMP.out ok (zfn14 _) (by show Instr.findNow _ _ [_, _, _, _, _] 0 = _; rw [find_ne (by omega), find_ne (by omega), find_ne (by omega), find_ne (by omega), find_ne (by omega)]; rfl)
   clear hk
   obtain ⟨y00, y01, y02, yf0⟩ := PO.out.cells3
   go_wp2_with fail
   clear hlk y00 y01 y02 yf0
   refine (rneed_no 242 _).mono ?_
   rintro e v1 ⟨rfl, rfl⟩
   unfold leaves
   go_wp2_with fail
   refine ⟨rfl, ?_⟩
   unfold MPost
   rw [HOP.out]
   exact ⟨.ofBelow HB.out, .inr ⟨by simp, rfl⟩⟩
  by_cases hoc : oc < 0 ∨ (es.length : Int) ≤ oc
  ·skip
   have HOP := hid (opF_cpu (s := s) (g := g) (qs := ql es) (o := (ok, oc, ow)) hk (by show oc < 0 ∨ ((ql es).length : Int) ≤ oc; rw [ql_len]; exact hoc))
   obtain ⟨F, hlk, HF, HM⟩ : ∃ F, (Instr.lookup 98 (.map (some W2.heap.size)) (.int .i64 ok) true).run Try.prog W3 = .ok (.tuple #[.func (.func F) #[ptr gc] #[], .bool true]) W3 ∧ Hid (Enters Try.prog F) ∧ Hid (∀ (w : World) (l gc : Nat) (s : St) (g : Gr) (es : List Qe) (ran : List Int) (a : Ra) (R : Option Addr) (kr : Nat), CA w l gc s g es (0 : Nat) ow ran a R nr kr → RcGood s g (ql es) → 0 < es.length → Calls Try.prog F #[ptr gc] w (MPost l gc s g es ran a nr (ok, ((0 : Nat) : Int), ow) w)) := by
     obtain ⟨F, hF, h1, h2⟩ := meth_any hk (0) ow nr HNR.out
     refine ⟨F, ?_, h1, h2⟩
     rcases hF with ⟨rfl, rfl⟩ | ⟨rfl, rfl⟩ | ⟨rfl, rfl⟩ | ⟨rfl, rfl⟩ | ⟨rfl, rfl⟩
     · exact run_look_yes (P := Try.prog) Try.underlying98 Try.underlying3 HMP.out 1 (i := 0) (v := .func (.func 53) #[ptr gc] #[]) rfl
     · exact run_look_yes (P := Try.prog) Try.underlying98 Try.underlying3 HMP.out 2 (i := 1) (v := .func (.func 54) #[ptr gc] #[]) rfl
     · exact run_look_yes (P := Try.prog) Try.underlying98 Try.underlying3 HMP.out 3 (i := 2) (v := .func (.func 55) #[ptr gc] #[]) rfl
     · exact run_look_yes (P := Try.prog) Try.underlying98 Try.underlying3 HMP.out 4 (i := 3) (v := .func (.func 39) #[ptr gc] #[]) rfl
     · exact run_look_yes (P := Try.prog) Try.underlying98 Try.underlying3 HMP.out 5 (i := 4) (v := .func (.func 41) #[ptr gc] #[]) rfl
   obtain ⟨y00, y01, y02, yf0⟩ := PO.out.cells3
   go_upto_region 3 with fail
   clear hlk hk HM HF y00 y01 y02 yf0
   go_wp2_with fail
   refine (rneed_yes 242 _).mono ?_
   rintro e v1 ⟨rfl, rfl⟩
   go_upto_region 4 with fail
   by_cases h0 : 0 ≤ oc
   ·skip
    have d1 : decide (0 ≤ oc) = true := decide_eq_true h0
    have d1' : decide (oc ≥ 0) = true := decide_eq_true h0
    have d2 : decide (oc < (a.nq : Int)) = false := decide_eq_false (by have := hl.out; omega)
    clear h0 hoc
    have bx := (Below.refl v1.heap.size v1).drew
    replace HC := hid (HC.out.step bx); replace PO := hid (PO.out.step bx); replace HB := hid (below_then HB.out bx)
    clear bx
    have hszd := hid (show v1.drew.heap.size = v1.heap.size from rfl)
    refine wp_region_qp ?_
    refine wp_region_held_drew (S := (fun W' : World => W'.cell? ⟨gc, 7, none⟩ = some (.slice a.Q a.nq a.kq) ∧ W'.cell? ⟨w.heap.size, 1, none⟩ = some (.int .i64 oc))) (by kernel_rfl) ⟨(HC.out.box).cells11.2.2.2.2.2.2.2.1, PO.out.cells3.2.1⟩ (fun hS => ?_)
    generalize v1.drew = Wd at *
    refine wpAnyH_take (i := 0) (v := ?_) (by simp only [List.getElem?_toArray, List.getElem?_cons_succ, List.getElem?_cons_zero]; rfl) (by kernel_rfl) (by kernel_rfl) (by kernel_rfl) (fun _ _ _ h => QP.put h) (Or.inl ⟨by rfl, ?_⟩) hS ?_
    rotate_left
    · intro w' hSw; (try dsimp only at hSw); go_split_ands; go_simp; (try with_reducible rfl)
    (try simp only [Act.put, List.setIfInBounds_toArray, List.set_cons_zero, List.set_cons_succ])
    refine wpAnyH_take (i := 1) (v := ?_) (by simp only [List.getElem?_toArray, List.getElem?_cons_succ, List.getElem?_cons_zero]; rfl) (by kernel_rfl) (by kernel_rfl) (by kernel_rfl) (fun _ _ _ h => QP.put h) (Or.inl ⟨by rfl, ?_⟩) hS ?_
    rotate_left
    · intro w' hSw; (try dsimp only at hSw); go_split_ands; go_simp; (try with_reducible rfl)
    (try simp only [Act.put, List.setIfInBounds_toArray, List.set_cons_zero, List.set_cons_succ])
    refine wpAnyH_take (i := 2) (v := ?_) (by simp only [List.getElem?_toArray, List.getElem?_cons_succ, List.getElem?_cons_zero]; rfl) (by kernel_rfl) (by kernel_rfl) (by kernel_rfl) (fun _ _ _ h => QP.put h) (Or.inl ⟨by rfl, ?_⟩) hS ?_
    rotate_left
    · intro w' hSw; (try dsimp only at hSw); go_split_ands; go_simp; (try with_reducible rfl)
    (try simp only [Act.put, List.setIfInBounds_toArray, List.set_cons_zero, List.set_cons_succ])
    refine wpAnyH_take (i := 3) (v := ?_) (by simp only [List.getElem?_toArray, List.getElem?_cons_succ, List.getElem?_cons_zero]; rfl) (by kernel_rfl) (by kernel_rfl) (by kernel_rfl) (fun _ _ _ h => QP.put h) (Or.inl ⟨by rfl, ?_⟩) hS ?_
    rotate_left
    · intro w' hSw; (try dsimp only at hSw); go_split_ands; go_simp; (try with_reducible rfl)
    (try simp only [Act.put, List.setIfInBounds_toArray, List.set_cons_zero, List.set_cons_succ])
    refine wpAnyH_take (i := 4) (v := ?_) (by simp only [List.getElem?_toArray, List.getElem?_cons_succ, List.getElem?_cons_zero]; rfl) (by kernel_rfl) (by kernel_rfl) (by kernel_rfl) (fun _ _ _ h => QP.put h) (Or.inl ⟨by rfl, ?_⟩) hS ?_
    rotate_left
    · intro w' hSw; (try dsimp only at hSw); go_split_ands; go_simp; (try with_reducible rfl)
    (try simp only [Act.put, List.setIfInBounds_toArray, List.set_cons_zero, List.set_cons_succ])
    refine wpAnyH_take (i := 5) (v := ?_) (by simp only [List.getElem?_toArray, List.getElem?_cons_succ, List.getElem?_cons_zero]; rfl) (by kernel_rfl) (by kernel_rfl) (by kernel_rfl) (fun _ _ _ h => QP.put h) (Or.inl ⟨by rfl, ?_⟩) hS ?_
    rotate_left
    · intro w' hSw; (try dsimp only at hSw); go_split_ands; go_simp; (try with_reducible rfl)
    (try simp only [Act.put, List.setIfInBounds_toArray, List.set_cons_zero, List.set_cons_succ])
    refine wpAnyH_take (i := 6) (v := ?_) (by simp only [List.getElem?_toArray, List.getElem?_cons_succ, List.getElem?_cons_zero]; rfl) (by kernel_rfl) (by kernel_rfl) (by kernel_rfl) (fun _ _ _ h => QP.put h) (Or.inl ⟨by rfl, ?_⟩) hS ?_
    rotate_left
    · intro w' hSw; (try dsimp only at hSw); go_split_ands; go_simp; (try with_reducible rfl)
    (try simp only [Act.put, List.setIfInBounds_toArray, List.set_cons_zero, List.set_cons_succ])
    refine wpAnyH_take (i := 7) (v := ?_) (by simp only [List.getElem?_toArray, List.getElem?_cons_succ, List.getElem?_cons_zero]; rfl) (by kernel_rfl) (by kernel_rfl) (by kernel_rfl) (fun _ _ _ h => QP.put h) (Or.inl ⟨by rfl, ?_⟩) hS ?_
    rotate_left
    · intro w' hSw; (try dsimp only at hSw); go_split_ands; go_simp; (try with_reducible rfl)
    (try simp only [Act.put, List.setIfInBounds_toArray, List.set_cons_zero, List.set_cons_succ])
    refine wpAnyH_take (i := 8) (v := ?_) (by simp only [List.getElem?_toArray, List.getElem?_cons_succ, List.getElem?_cons_zero]; rfl) (by kernel_rfl) (by kernel_rfl) (by kernel_rfl) (fun _ _ _ h => QP.put h) (Or.inl ⟨by rfl, ?_⟩) hS ?_
    rotate_left
    · intro w' hSw; (try dsimp only at hSw); go_split_ands; go_simp; (try with_reducible rfl)
    (try simp only [Act.put, List.setIfInBounds_toArray, List.set_cons_zero, List.set_cons_succ])
    refine wpAnyH_take (i := 9) (v := ?_) (by simp only [List.getElem?_toArray, List.getElem?_cons_succ, List.getElem?_cons_zero]; rfl) (by kernel_rfl) (by kernel_rfl) (by kernel_rfl) (fun _ _ _ h => QP.put h) (Or.inl ⟨by rfl, ?_⟩) hS ?_
    rotate_left
    · intro w' hSw; (try dsimp only at hSw); go_split_ands; go_simp; (try with_reducible rfl)
    (try simp only [Act.put, List.setIfInBounds_toArray, List.set_cons_zero, List.set_cons_succ])
    refine wpAnyH_take (i := 10) (v := ?_) (by simp only [List.getElem?_toArray, List.getElem?_cons_succ, List.getElem?_cons_zero]; rfl) (by kernel_rfl) (by kernel_rfl) (by kernel_rfl) (fun _ _ _ h => QP.put h) (Or.inl ⟨by rfl, ?_⟩) hS ?_
    rotate_left
    · intro w' hSw; (try dsimp only at hSw); go_split_ands; go_simp; (try with_reducible rfl)
    (try simp only [Act.put, List.setIfInBounds_toArray, List.set_cons_zero, List.set_cons_succ])
    refine wpAnyH_take (i := 11) (v := ?_) (by simp only [List.getElem?_toArray, List.getElem?_cons_succ, List.getElem?_cons_zero]; rfl) (by kernel_rfl) (by kernel_rfl) (by kernel_rfl) (fun _ _ _ h => QP.put h) (Or.inl ⟨by rfl, ?_⟩) hS ?_
    rotate_left
    · intro w' hSw; (try dsimp only at hSw); go_split_ands; go_simp; (try with_reducible rfl)
    (try simp only [Act.put, List.setIfInBounds_toArray, List.set_cons_zero, List.set_cons_succ])
    refine wpAnyH_take (i := 12) (v := ?_) (by simp only [List.getElem?_toArray, List.getElem?_cons_succ, List.getElem?_cons_zero]; rfl) (by kernel_rfl) (by kernel_rfl) (by kernel_rfl) (fun _ _ _ h => QP.put h) (Or.inl ⟨by rfl, ?_⟩) hS ?_
    rotate_left
    · intro w' hSw; (try dsimp only at hSw); go_split_ands; go_simp; (try with_reducible rfl)
    (try simp only [Act.put, List.setIfInBounds_toArray, List.set_cons_zero, List.set_cons_succ])
    refine wpAnyH_take (i := 13) (v := ?_) (by simp only [List.getElem?_toArray, List.getElem?_cons_succ, List.getElem?_cons_zero]; rfl) (by kernel_rfl) (by kernel_rfl) (by kernel_rfl) (fun _ _ _ h => QP.put h) (Or.inl ⟨by rfl, ?_⟩) hS ?_
    rotate_left
    · intro w' hSw; (try dsimp only at hSw); go_split_ands; go_simp; (try with_reducible rfl)
    (try simp only [Act.put, List.setIfInBounds_toArray, List.set_cons_zero, List.set_cons_succ])
    refine wpAnyH_ready (rs := [14]) (by kernel_rfl) (by simp) ?_
    refine AllReadyH.cons (by simp only [List.getElem?_toArray, List.getElem?_cons_succ, List.getElem?_cons_zero]; rfl) (fun K hK => ?_) ?_
    · skip
      go_simp
      refine (rneed_no 2 Wd).mono ?_
      rintro e Wp ⟨rfl, rfl⟩
      unfold leaves
      intro tm
      have hfin : ({ tmps := tm, defers := [] } : Act).defers = [] ∧ MPost l gc s g es ran a nr (ok, oc, ow) w (leaves 2) Wp := by
        refine ⟨rfl, ?_⟩
        unfold MPost
        rw [HOP.out]
        exact ⟨.ofBelow HB.out, .inr ⟨by simp, rfl⟩⟩
      exact hfin
    exact AllReadyH.nil
   ·skip
    have d1 : decide (0 ≤ oc) = false := decide_eq_false h0
    have d1' : decide (oc ≥ 0) = false := decide_eq_false h0
    clear h0 hoc
    have bx := (Below.refl v1.heap.size v1).drew
    replace HC := hid (HC.out.step bx); replace PO := hid (PO.out.step bx); replace HB := hid (below_then HB.out bx)
    clear bx
    have hszd := hid (show v1.drew.heap.size = v1.heap.size from rfl)
    refine wp_region_qp ?_
    refine wp_region_held_drew (S := (fun W' : World => W'.cell? ⟨gc, 7, none⟩ = some (.slice a.Q a.nq a.kq) ∧ W'.cell? ⟨w.heap.size, 1, none⟩ = some (.int .i64 oc))) (by kernel_rfl) ⟨(HC.out.box).cells11.2.2.2.2.2.2.2.1, PO.out.cells3.2.1⟩ (fun hS => ?_)
    generalize v1.drew = Wd at *
    refine wpAnyH_take (i := 0) (v := ?_) (by simp only [List.getElem?_toArray, List.getElem?_cons_succ, List.getElem?_cons_zero]; rfl) (by kernel_rfl) (by kernel_rfl) (by kernel_rfl) (fun _ _ _ h => QP.put h) (Or.inl ⟨by rfl, ?_⟩) hS ?_
    rotate_left
    · intro w' hSw; (try dsimp only at hSw); go_split_ands; go_simp; (try with_reducible rfl)
    (try simp only [Act.put, List.setIfInBounds_toArray, List.set_cons_zero, List.set_cons_succ])
    refine wpAnyH_take (i := 1) (v := ?_) (by simp only [List.getElem?_toArray, List.getElem?_cons_succ, List.getElem?_cons_zero]; rfl) (by kernel_rfl) (by kernel_rfl) (by kernel_rfl) (fun _ _ _ h => QP.put h) (Or.inl ⟨by rfl, ?_⟩) hS ?_
    rotate_left
    · intro w' hSw; (try dsimp only at hSw); go_split_ands; go_simp; (try with_reducible rfl)
    (try simp only [Act.put, List.setIfInBounds_toArray, List.set_cons_zero, List.set_cons_succ])
    refine wpAnyH_take (i := 2) (v := ?_) (by simp only [List.getElem?_toArray, List.getElem?_cons_succ, List.getElem?_cons_zero]; rfl) (by kernel_rfl) (by kernel_rfl) (by kernel_rfl) (fun _ _ _ h => QP.put h) (Or.inl ⟨by rfl, ?_⟩) hS ?_
    rotate_left
    · intro w' hSw; (try dsimp only at hSw); go_split_ands; go_simp; (try with_reducible rfl)
    (try simp only [Act.put, List.setIfInBounds_toArray, List.set_cons_zero, List.set_cons_succ])
    refine wpAnyH_take (i := 3) (v := ?_) (by simp only [List.getElem?_toArray, List.getElem?_cons_succ, List.getElem?_cons_zero]; rfl) (by kernel_rfl) (by kernel_rfl) (by kernel_rfl) (fun _ _ _ h => QP.put h) (Or.inl ⟨by rfl, ?_⟩) hS ?_
    rotate_left
    · intro w' hSw; (try dsimp only at hSw); go_split_ands; go_simp; (try with_reducible rfl)
    (try simp only [Act.put, List.setIfInBounds_toArray, List.set_cons_zero, List.set_cons_succ])
    refine wpAnyH_take (i := 4) (v := undef) (by simp only [List.getElem?_toArray, List.getElem?_cons_succ, List.getElem?_cons_zero]; rfl) (by kernel_rfl) (by kernel_rfl) (by kernel_rfl) (fun _ _ _ h => QP.put h) (Or.inr ⟨by rfl, rfl⟩) hS ?_
    (try simp only [Act.put, List.setIfInBounds_toArray, List.set_cons_zero, List.set_cons_succ])
    refine wpAnyH_take (i := 5) (v := undef) (by simp only [List.getElem?_toArray, List.getElem?_cons_succ, List.getElem?_cons_zero]; rfl) (by kernel_rfl) (by kernel_rfl) (by kernel_rfl) (fun _ _ _ h => QP.put h) (Or.inr ⟨by rfl, rfl⟩) hS ?_
    (try simp only [Act.put, List.setIfInBounds_toArray, List.set_cons_zero, List.set_cons_succ])
    refine wpAnyH_take (i := 6) (v := undef) (by simp only [List.getElem?_toArray, List.getElem?_cons_succ, List.getElem?_cons_zero]; rfl) (by kernel_rfl) (by kernel_rfl) (by kernel_rfl) (fun _ _ _ h => QP.put h) (Or.inr ⟨by rfl, rfl⟩) hS ?_
    (try simp only [Act.put, List.setIfInBounds_toArray, List.set_cons_zero, List.set_cons_succ])
    refine wpAnyH_take (i := 7) (v := undef) (by simp only [List.getElem?_toArray, List.getElem?_cons_succ, List.getElem?_cons_zero]; rfl) (by kernel_rfl) (by kernel_rfl) (by kernel_rfl) (fun _ _ _ h => QP.put h) (Or.inr ⟨by rfl, rfl⟩) hS ?_
    (try simp only [Act.put, List.setIfInBounds_toArray, List.set_cons_zero, List.set_cons_succ])
    refine wpAnyH_take (i := 8) (v := undef) (by simp only [List.getElem?_toArray, List.getElem?_cons_succ, List.getElem?_cons_zero]; rfl) (by kernel_rfl) (by kernel_rfl) (by kernel_rfl) (fun _ _ _ h => QP.put h) (Or.inr ⟨by rfl, rfl⟩) hS ?_
    (try simp only [Act.put, List.setIfInBounds_toArray, List.set_cons_zero, List.set_cons_succ])
    refine wpAnyH_take (i := 9) (v := undef) (by simp only [List.getElem?_toArray, List.getElem?_cons_succ, List.getElem?_cons_zero]; rfl) (by kernel_rfl) (by kernel_rfl) (by kernel_rfl) (fun _ _ _ h => QP.put h) (Or.inr ⟨by rfl, rfl⟩) hS ?_
    (try simp only [Act.put, List.setIfInBounds_toArray, List.set_cons_zero, List.set_cons_succ])
    refine wpAnyH_take (i := 10) (v := undef) (by simp only [List.getElem?_toArray, List.getElem?_cons_succ, List.getElem?_cons_zero]; rfl) (by kernel_rfl) (by kernel_rfl) (by kernel_rfl) (fun _ _ _ h => QP.put h) (Or.inr ⟨by rfl, rfl⟩) hS ?_
    (try simp only [Act.put, List.setIfInBounds_toArray, List.set_cons_zero, List.set_cons_succ])
    refine wpAnyH_take (i := 11) (v := undef) (by simp only [List.getElem?_toArray, List.getElem?_cons_succ, List.getElem?_cons_zero]; rfl) (by kernel_rfl) (by kernel_rfl) (by kernel_rfl) (fun _ _ _ h => QP.put h) (Or.inr ⟨by rfl, rfl⟩) hS ?_
    (try simp only [Act.put, List.setIfInBounds_toArray, List.set_cons_zero, List.set_cons_succ])
    refine wpAnyH_take (i := 12) (v := undef) (by simp only [List.getElem?_toArray, List.getElem?_cons_succ, List.getElem?_cons_zero]; rfl) (by kernel_rfl) (by kernel_rfl) (by kernel_rfl) (fun _ _ _ h => QP.put h) (Or.inr ⟨by rfl, rfl⟩) hS ?_
    (try simp only [Act.put, List.setIfInBounds_toArray, List.set_cons_zero, List.set_cons_succ])
    refine wpAnyH_take (i := 13) (v := ?_) (by simp only [List.getElem?_toArray, List.getElem?_cons_succ, List.getElem?_cons_zero]; rfl) (by kernel_rfl) (by kernel_rfl) (by kernel_rfl) (fun _ _ _ h => QP.put h) (Or.inl ⟨by rfl, ?_⟩) hS ?_
    rotate_left
    · intro w' hSw; (try dsimp only at hSw); go_split_ands; go_simp; (try with_reducible rfl)
    (try simp only [Act.put, List.setIfInBounds_toArray, List.set_cons_zero, List.set_cons_succ])
    refine wpAnyH_ready (rs := [14]) (by kernel_rfl) (by simp) ?_
    refine AllReadyH.cons (by simp only [List.getElem?_toArray, List.getElem?_cons_succ, List.getElem?_cons_zero]; rfl) (fun K hK => ?_) ?_
    · skip
      go_simp
      refine (rneed_no 2 Wd).mono ?_
      rintro e Wp ⟨rfl, rfl⟩
      unfold leaves
      intro tm
      have hfin : ({ tmps := tm, defers := [] } : Act).defers = [] ∧ MPost l gc s g es ran a nr (ok, oc, ow) w (leaves 2) Wp := by
        refine ⟨rfl, ?_⟩
        unfold MPost
        rw [HOP.out]
        exact ⟨.ofBelow HB.out, .inr ⟨by simp, rfl⟩⟩
      exact hfin
    exact AllReadyH.nil
  obtain ⟨cp, rfl⟩ := Int.eq_ofNat_of_zero_le (show 0 ≤ oc by omega)
  have hcp := hid (show cp < es.length by omega)
  obtain ⟨F, hlk, HF, HM⟩ : ∃ F, (Instr.lookup 98 (.map (some W2.heap.size)) (.int .i64 ok) true).run Try.prog W3 = .ok (.tuple #[.func (.func F) #[ptr gc] #[], .bool true]) W3 ∧ Hid (Enters Try.prog F) ∧ Hid (∀ (w : World) (l gc : Nat) (s : St) (g : Gr) (es : List Qe) (ran : List Int) (a : Ra) (R : Option Addr) (kr : Nat), CA w l gc s g es (cp : Nat) ow ran a R nr kr → RcGood s g (ql es) → cp < es.length → Calls Try.prog F #[ptr gc] w (MPost l gc s g es ran a nr (ok, ((cp : Nat) : Int), ow) w)) := by
    obtain ⟨F, hF, h1, h2⟩ := meth_any hk (cp) ow nr HNR.out
    refine ⟨F, ?_, h1, h2⟩
    rcases hF with ⟨rfl, rfl⟩ | ⟨rfl, rfl⟩ | ⟨rfl, rfl⟩ | ⟨rfl, rfl⟩ | ⟨rfl, rfl⟩
    · exact run_look_yes (P := Try.prog) Try.underlying98 Try.underlying3 HMP.out 1 (i := 0) (v := .func (.func 53) #[ptr gc] #[]) rfl
    · exact run_look_yes (P := Try.prog) Try.underlying98 Try.underlying3 HMP.out 2 (i := 1) (v := .func (.func 54) #[ptr gc] #[]) rfl
    · exact run_look_yes (P := Try.prog) Try.underlying98 Try.underlying3 HMP.out 3 (i := 2) (v := .func (.func 55) #[ptr gc] #[]) rfl
    · exact run_look_yes (P := Try.prog) Try.underlying98 Try.underlying3 HMP.out 4 (i := 3) (v := .func (.func 39) #[ptr gc] #[]) rfl
    · exact run_look_yes (P := Try.prog) Try.underlying98 Try.underlying3 HMP.out 5 (i := 4) (v := .func (.func 41) #[ptr gc] #[]) rfl
  obtain ⟨y00, y01, y02, yf0⟩ := PO.out.cells3
  go_upto_region 3 with fail
  clear hlk hk y00 y01 y02 yf0
  go_wp2_with fail
  refine (rneed_yes 242 _).mono ?_
  rintro e v1 ⟨rfl, rfl⟩
  go_upto_region 4 with fail
  have d1 : decide ((0 : Int) ≤ (cp : Int)) = true := decide_eq_true (by omega)
  have d1' : decide ((cp : Int) ≥ 0) = true := decide_eq_true (by omega)
  have d2 : decide ((cp : Int) < (a.nq : Int)) = true := decide_eq_true (by have := hl.out; have := hcp.out; omega)
  have d2n : decide (cp < a.nq) = true := decide_eq_true (by have := hl.out; have := hcp.out; omega)
  clear hoc
  have bx := (Below.refl v1.heap.size v1).drew
  replace HC := hid (HC.out.step bx); replace PO := hid (PO.out.step bx); replace HB := hid (below_then HB.out bx)
  clear bx
  have hszd := hid (show v1.drew.heap.size = v1.heap.size from rfl)
  refine wp_region_noPanic ?_
  refine wp_region_held_drew (S := (fun W' : World => W'.cell? ⟨gc, 7, none⟩ = some (.slice a.Q a.nq a.kq) ∧ W'.cell? ⟨w.heap.size, 1, none⟩ = some (.int .i64 cp))) (by kernel_rfl) ⟨(HC.out.box).cells11.2.2.2.2.2.2.2.1, PO.out.cells3.2.1⟩ (fun hS => ?_)
  generalize v1.drew = Wd at *
  refine wpAnyH_take (i := 0) (v := ?_) (by simp only [List.getElem?_toArray, List.getElem?_cons_succ, List.getElem?_cons_zero]; rfl) (by kernel_rfl) (by kernel_rfl) (by kernel_rfl) (fun _ _ _ h => h) (Or.inl ⟨by rfl, ?_⟩) hS ?_
  rotate_left
  · intro w' hSw; (try dsimp only at hSw); go_split_ands; go_simp; (try with_reducible rfl)
  (try simp only [Act.put, List.setIfInBounds_toArray, List.set_cons_zero, List.set_cons_succ])
  refine wpAnyH_take (i := 1) (v := ?_) (by simp only [List.getElem?_toArray, List.getElem?_cons_succ, List.getElem?_cons_zero]; rfl) (by kernel_rfl) (by kernel_rfl) (by kernel_rfl) (fun _ _ _ h => h) (Or.inl ⟨by rfl, ?_⟩) hS ?_
  rotate_left
  · intro w' hSw; (try dsimp only at hSw); go_split_ands; go_simp; (try with_reducible rfl)
  (try simp only [Act.put, List.setIfInBounds_toArray, List.set_cons_zero, List.set_cons_succ])
  refine wpAnyH_take (i := 2) (v := ?_) (by simp only [List.getElem?_toArray, List.getElem?_cons_succ, List.getElem?_cons_zero]; rfl) (by kernel_rfl) (by kernel_rfl) (by kernel_rfl) (fun _ _ _ h => h) (Or.inl ⟨by rfl, ?_⟩) hS ?_
  rotate_left
  · intro w' hSw; (try dsimp only at hSw); go_split_ands; go_simp; (try with_reducible rfl)
  (try simp only [Act.put, List.setIfInBounds_toArray, List.set_cons_zero, List.set_cons_succ])
  refine wpAnyH_take (i := 3) (v := ?_) (by simp only [List.getElem?_toArray, List.getElem?_cons_succ, List.getElem?_cons_zero]; rfl) (by kernel_rfl) (by kernel_rfl) (by kernel_rfl) (fun _ _ _ h => h) (Or.inl ⟨by rfl, ?_⟩) hS ?_
  rotate_left
  · intro w' hSw; (try dsimp only at hSw); go_split_ands; go_simp; (try with_reducible rfl)
  (try simp only [Act.put, List.setIfInBounds_toArray, List.set_cons_zero, List.set_cons_succ])
  refine wpAnyH_take (i := 4) (v := ?_) (by simp only [List.getElem?_toArray, List.getElem?_cons_succ, List.getElem?_cons_zero]; rfl) (by kernel_rfl) (by kernel_rfl) (by kernel_rfl) (fun _ _ _ h => h) (Or.inl ⟨by rfl, ?_⟩) hS ?_
  rotate_left
  · intro w' hSw; (try dsimp only at hSw); go_split_ands; go_simp; (try with_reducible rfl)
  (try simp only [Act.put, List.setIfInBounds_toArray, List.set_cons_zero, List.set_cons_succ])
  refine wpAnyH_take (i := 5) (v := ?_) (by simp only [List.getElem?_toArray, List.getElem?_cons_succ, List.getElem?_cons_zero]; rfl) (by kernel_rfl) (by kernel_rfl) (by kernel_rfl) (fun _ _ _ h => h) (Or.inl ⟨by rfl, ?_⟩) hS ?_
  rotate_left
  · intro w' hSw; (try dsimp only at hSw); go_split_ands; go_simp; (try with_reducible rfl)
  (try simp only [Act.put, List.setIfInBounds_toArray, List.set_cons_zero, List.set_cons_succ])
  refine wpAnyH_take (i := 6) (v := ?_) (by simp only [List.getElem?_toArray, List.getElem?_cons_succ, List.getElem?_cons_zero]; rfl) (by kernel_rfl) (by kernel_rfl) (by kernel_rfl) (fun _ _ _ h => h) (Or.inl ⟨by rfl, ?_⟩) hS ?_
  rotate_left
  · intro w' hSw; (try dsimp only at hSw); go_split_ands; go_simp; (try with_reducible rfl)
  (try simp only [Act.put, List.setIfInBounds_toArray, List.set_cons_zero, List.set_cons_succ])
  refine wpAnyH_take (i := 7) (v := ?_) (by simp only [List.getElem?_toArray, List.getElem?_cons_succ, List.getElem?_cons_zero]; rfl) (by kernel_rfl) (by kernel_rfl) (by kernel_rfl) (fun _ _ _ h => h) (Or.inl ⟨by rfl, ?_⟩) hS ?_
  rotate_left
  · intro w' hSw; (try dsimp only at hSw); go_split_ands; go_simp; (try with_reducible rfl)
  (try simp only [Act.put, List.setIfInBounds_toArray, List.set_cons_zero, List.set_cons_succ])
  refine wpAnyH_take (i := 8) (v := ?_) (by simp only [List.getElem?_toArray, List.getElem?_cons_succ, List.getElem?_cons_zero]; rfl) (by kernel_rfl) (by kernel_rfl) (by kernel_rfl) (fun _ _ _ h => h) (Or.inl ⟨by rfl, ?_⟩) hS ?_
  rotate_left
  · intro w' hSw; (try dsimp only at hSw); go_split_ands; go_simp; (try with_reducible rfl)
  (try simp only [Act.put, List.setIfInBounds_toArray, List.set_cons_zero, List.set_cons_succ])
  refine wpAnyH_take (i := 9) (v := ?_) (by simp only [List.getElem?_toArray, List.getElem?_cons_succ, List.getElem?_cons_zero]; rfl) (by kernel_rfl) (by kernel_rfl) (by kernel_rfl) (fun _ _ _ h => h) (Or.inl ⟨by rfl, ?_⟩) hS ?_
  rotate_left
  · intro w' hSw; (try dsimp only at hSw); go_split_ands; go_simp; (try with_reducible rfl)
  (try simp only [Act.put, List.setIfInBounds_toArray, List.set_cons_zero, List.set_cons_succ])
  refine wpAnyH_take (i := 10) (v := ?_) (by simp only [List.getElem?_toArray, List.getElem?_cons_succ, List.getElem?_cons_zero]; rfl) (by kernel_rfl) (by kernel_rfl) (by kernel_rfl) (fun _ _ _ h => h) (Or.inl ⟨by rfl, ?_⟩) hS ?_
  rotate_left
  · intro w' hSw; (try dsimp only at hSw); go_split_ands; go_simp; (try with_reducible rfl)
  (try simp only [Act.put, List.setIfInBounds_toArray, List.set_cons_zero, List.set_cons_succ])
  refine wpAnyH_take (i := 11) (v := ?_) (by simp only [List.getElem?_toArray, List.getElem?_cons_succ, List.getElem?_cons_zero]; rfl) (by kernel_rfl) (by kernel_rfl) (by kernel_rfl) (fun _ _ _ h => h) (Or.inl ⟨by rfl, ?_⟩) hS ?_
  rotate_left
  · intro w' hSw; (try dsimp only at hSw); go_split_ands; go_simp; (try with_reducible rfl)
  (try simp only [Act.put, List.setIfInBounds_toArray, List.set_cons_zero, List.set_cons_succ])
  refine wpAnyH_take (i := 12) (v := ?_) (by simp only [List.getElem?_toArray, List.getElem?_cons_succ, List.getElem?_cons_zero]; rfl) (by kernel_rfl) (by kernel_rfl) (by kernel_rfl) (fun _ _ _ h => h) (Or.inl ⟨by rfl, ?_⟩) hS ?_
  rotate_left
  · intro w' hSw; (try dsimp only at hSw); go_split_ands; go_simp; (try with_reducible rfl)
  (try simp only [Act.put, List.setIfInBounds_toArray, List.set_cons_zero, List.set_cons_succ])
  refine wpAnyH_take (i := 13) (v := ?_) (by simp only [List.getElem?_toArray, List.getElem?_cons_succ, List.getElem?_cons_zero]; rfl) (by kernel_rfl) (by kernel_rfl) (by kernel_rfl) (fun _ _ _ h => h) (Or.inl ⟨by rfl, ?_⟩) hS ?_
  rotate_left
  · intro w' hSw; (try dsimp only at hSw); go_split_ands; go_simp; (try with_reducible rfl)
  (try simp only [Act.put, List.setIfInBounds_toArray, List.set_cons_zero, List.set_cons_succ])
  refine wpAnyH_ready (rs := [14]) (by kernel_rfl) (by simp) ?_
  refine AllReadyH.cons (by simp only [List.getElem?_toArray, List.getElem?_cons_succ, List.getElem?_cons_zero]; rfl) (fun K hK => ?_) ?_
  · skip
    go_simp
    refine (rneed_yesB 2 _).mono ?_
    rintro e w14 ⟨rfl, hb⟩
    have hsz0 := hid (show Wd.heap.size ≤ w14.heap.size from hb.size)
    replace HC := hid (HC.out.step hb); replace PO := hid (PO.out.step hb); replace HB := hid (below_then HB.out hb)
    clear hb
    go_wp2_with fail
    refine hK.out _ _ ⟨(HC.out.box).cells11.2.2.2.2.2.2.2.1, PO.out.cells3.2.1⟩ (fun hS' => ?_)
    clear hK K hS
    have hS := hS'
    clear hS'
    (try simp only [Act.put, List.setIfInBounds_toArray, List.set_cons_zero, List.set_cons_succ])
    refine wpAnyH_done (by kernel_rfl) ?_ _
    refine NoPanic.normal ?_
    clear hS
    clear d1 d1' d2 d2n hszd
    go_upto_region 5 with fail
    have bx := (Below.refl w14.heap.size w14).drew
    replace HC := hid (HC.out.step bx); replace PO := hid (PO.out.step bx); replace HB := hid (below_then HB.out bx)
    clear bx
    have hszd := hid (show w14.drew.heap.size = w14.heap.size from rfl)
    refine wp_region_noPanic ?_
    refine wp_region_held_tail 9 (fun W' : World => W'.cell? ⟨w.heap.size, 1, none⟩ = some (.int .i64 cp) ∧ W'.cell? ⟨w.heap.size, 2, none⟩ = some (.int .u64 ow)) #[false, false, false, false, false, false, false, false, false, false, false, false] (by kernel_rfl) ⟨PO.out.cells3.2.1, PO.out.cells3.2.2.1⟩ (by kernel_rfl) (by kernel_rfl) (fun hS => ?_)
    generalize w14.drew = Wd at *
    refine wpAnyT_take (i := 0) (v := ?_) (by kernel_rfl) (by simp only [List.getElem?_toArray, List.getElem?_cons_succ, List.getElem?_cons_zero]; rfl) (by kernel_rfl) (fun _ _ _ h => h) (Or.inl ⟨by rfl, ?_⟩) hS ?_
    rotate_left
    · intro w' hSw; (try dsimp only at hSw); go_split_ands; go_simp; (try with_reducible rfl)
    (try simp only [Act.put, List.setIfInBounds_toArray, List.set_cons_zero, List.set_cons_succ])
    refine wpAnyT_take (i := 1) (v := ?_) (by kernel_rfl) (by simp only [List.getElem?_toArray, List.getElem?_cons_succ, List.getElem?_cons_zero]; rfl) (by kernel_rfl) (fun _ _ _ h => h) (Or.inl ⟨by rfl, ?_⟩) hS ?_
    rotate_left
    · intro w' hSw; (try dsimp only at hSw); go_split_ands; go_simp; (try with_reducible rfl)
    (try simp only [Act.put, List.setIfInBounds_toArray, List.set_cons_zero, List.set_cons_succ])
    refine wpAnyT_take (i := 2) (v := ?_) (by kernel_rfl) (by simp only [List.getElem?_toArray, List.getElem?_cons_succ, List.getElem?_cons_zero]; rfl) (by kernel_rfl) (fun _ _ _ h => h) (Or.inl ⟨by rfl, ?_⟩) hS ?_
    rotate_left
    · intro w' hSw; (try dsimp only at hSw); go_split_ands; go_simp; (try with_reducible rfl)
    (try simp only [Act.put, List.setIfInBounds_toArray, List.set_cons_zero, List.set_cons_succ])
    refine wpAnyT_take (i := 3) (v := ?_) (by kernel_rfl) (by simp only [List.getElem?_toArray, List.getElem?_cons_succ, List.getElem?_cons_zero]; rfl) (by kernel_rfl) (fun _ _ _ h => h) (Or.inl ⟨by rfl, ?_⟩) hS ?_
    rotate_left
    · intro w' hSw; (try dsimp only at hSw); go_split_ands; go_simp; (try with_reducible rfl)
    (try simp only [Act.put, List.setIfInBounds_toArray, List.set_cons_zero, List.set_cons_succ])
    refine wpAnyT_take (i := 4) (v := ?_) (by kernel_rfl) (by simp only [List.getElem?_toArray, List.getElem?_cons_succ, List.getElem?_cons_zero]; rfl) (by kernel_rfl) (fun _ _ _ h => h) (Or.inl ⟨by rfl, ?_⟩) hS ?_
    rotate_left
    · intro w' hSw; (try dsimp only at hSw); go_split_ands; go_simp; (try with_reducible rfl)
    (try simp only [Act.put, List.setIfInBounds_toArray, List.set_cons_zero, List.set_cons_succ])
    refine wpAnyT_take (i := 5) (v := ?_) (by kernel_rfl) (by simp only [List.getElem?_toArray, List.getElem?_cons_succ, List.getElem?_cons_zero]; rfl) (by kernel_rfl) (fun _ _ _ h => h) (Or.inl ⟨by rfl, ?_⟩) hS ?_
    rotate_left
    · intro w' hSw; (try dsimp only at hSw); go_split_ands; go_simp; (try with_reducible rfl)
    (try simp only [Act.put, List.setIfInBounds_toArray, List.set_cons_zero, List.set_cons_succ])
    refine wpAnyT_take (i := 6) (v := ?_) (by kernel_rfl) (by simp only [List.getElem?_toArray, List.getElem?_cons_succ, List.getElem?_cons_zero]; rfl) (by kernel_rfl) (fun _ _ _ h => h) (Or.inl ⟨by rfl, ?_⟩) hS ?_
    rotate_left
    · intro w' hSw; (try dsimp only at hSw); go_split_ands; go_simp; (try with_reducible rfl)
    (try simp only [Act.put, List.setIfInBounds_toArray, List.set_cons_zero, List.set_cons_succ])
    refine wpAnyT_take (i := 7) (v := ?_) (by kernel_rfl) (by simp only [List.getElem?_toArray, List.getElem?_cons_succ, List.getElem?_cons_zero]; rfl) (by kernel_rfl) (fun _ _ _ h => h) (Or.inl ⟨by rfl, ?_⟩) hS ?_
    rotate_left
    · intro w' hSw; (try dsimp only at hSw); go_split_ands; go_simp; (try with_reducible rfl)
    (try simp only [Act.put, List.setIfInBounds_toArray, List.set_cons_zero, List.set_cons_succ])
    refine wpAnyT_ready [8] (by kernel_rfl) (by simp) ?_
    refine AllReadyT.cons (by simp only [List.getElem?_toArray, List.getElem?_cons_succ, List.getElem?_cons_zero]; rfl) rfl (fun K hK => ?_) ?_
    · skip
      obtain ⟨y0, y1, y2, y3, y4, y5, y6, y7, y8, y9, y10, yf⟩ := HC.out.box.cells11
      go_simp
      clear y0 y1 y2 y3 y4 y5 y6 y7 y8 y9 y10 yf
      have hgr := grown_set (World.grownBy.refl Wd (some gc)) 8 (.int .i64 cp)
      have HG2 := hid ((GrownP.ofBelow (p := fun i => l ≤ i) HB.out).thenG hgr (fun r e => by cases e; exact .inr HC.out.lg))
      replace PO := hid (PO.out.grown hgr (by intro e; have := HC.out.box.neT PO.out (by decide); exact this (Option.some.inj e).symm))
      replace HC := hid (show CA (Wd.setCell ⟨gc, 8, none⟩ (.int .i64 cp)) l gc s g es cp what0 ran a R nr kr from (HC.out.cx.boxed HC.out.box hgr).ca (HC.out.box.setCell 8 _))
      clear hgr HB
      generalize Wd.setCell ⟨gc, 8, none⟩ (.int .i64 cp) = Wc8 at *
      have hS' : (fun W' : World => W'.cell? ⟨w.heap.size, 1, none⟩ = some (.int .i64 cp) ∧ W'.cell? ⟨w.heap.size, 2, none⟩ = some (.int .u64 ow)) _ := ⟨PO.out.cells3.2.1, PO.out.cells3.2.2.1⟩
      refine hK.out _ _ hS' ?_
      clear hK K hS
      have hS := hS'
      clear hS'
      (try simp only [Act.put, List.setIfInBounds_toArray, List.set_cons_zero, List.set_cons_succ])
      refine wpAnyT_done (by kernel_rfl) ?_
      simp only [List.drop_succ_cons, List.drop_zero]
      clear hS
      obtain ⟨y0, y1, y2, y3, y4, y5, y6, y7, y8, y9, y10, yf⟩ := HC.out.box.cells11
      go_wp2_with fail
      refine NoPanic.normal ?_
      clear y0 y1 y2 y3 y4 y5 y6 y7 y8 y9 y10 yf
      have hgr := grown_set (World.grownBy.refl Wc8 (some gc)) 9 (.int .u64 ow)
      replace HG2 := hid (HG2.out.thenG hgr (fun r e => by cases e; exact .inr HC.out.lg))
      replace HC := hid (show CA (Wc8.setCell ⟨gc, 9, none⟩ (.int .u64 ow)) l gc s g es cp ow ran a R nr kr from (HC.out.cx.boxed HC.out.box hgr).ca (HC.out.box.setCell 9 _))
      clear hgr PO
      generalize Wc8.setCell ⟨gc, 9, none⟩ (.int .u64 ow) = W6 at *
      have hEn := HF.out
      go_wp2_with fail
      rw [HF.out #[ptr gc] W6]
      rw [Oper.upon_enter]
      clear hEn
      refine (HM.out W6 l gc s g es ran a R kr HC.out HG.out hcp.out).mono ?_
      rintro x W7 ⟨hg7, ⟨h0, rfl, hx⟩ | ⟨h0, rfl⟩⟩
      ·have HX := hid hx; have HG7 := hid hg7; have H0 := hid h0
       clear hx hg7 h0
       go_wp2
       (try go_end0)
       refine ⟨HG2.out.trans HG7.out, .inl ⟨H0.out, rfl, HX.out⟩⟩
      ·have HG7 := hid hg7; have H0 := hid h0
       clear hg7 h0
       unfold leaves
       go_wp2_with fail
       exact ⟨rfl, HG2.out.trans HG7.out, .inr ⟨H0.out, rfl⟩⟩
    exact AllReadyT.nil
  exact AllReadyH.nil
end Go.Proofs.Ytfipdoofgbjbjaa
