/- package seq: a read's phases. No condition but sizes. -/
import Derived.Test.YtnkaajkdjbdpaaaSq8
import Derived.Test.YtnkaajkdjbdpaaaKitA
import Derived.OwnWalk
namespace Go.Proofs.Ytnkaajkdjbdpaaa
open Go.RowKit
/-- a read -/
structure Srd where
  a : Int
  f : Int
  m : Int
  ph : Int
  bg : Int
  vs : List Int
  tr : Int
@[reducible] def rdrc (a f m ph bg : Int) (V : Option Addr) (n c : Nat) (tr : Int) (C : Nat) : Array Value := #[.int .i64 a, .int .i64 f, .int .i64 m, .int .i64 ph, .int .u64 bg, .slice V n c, .int .i64 tr, ptr C]
def VFar (A V : Option Addr) : Prop := ∀ a v, A = some a → V = some v → a.block ≠ v.block
/-- a read that goes on, at a CPU -/
structure Rdm (W : World) (R C lo : Nat) (m : MSt) (l : Bool) (s : Srd) : Prop where
  box : ∃ A n c B k d V vn vc, Blk W C 102 (cpuc A n c B k d m.2.2 l) ∧ Mown W lo A n c B k d m.1 m.2.1 ∧ Blk W R 104 (rdrc s.a s.f s.m s.ph s.bg V vn vc s.tr C) ∧ Ow u64v W lo 27 V vn vc s.vs ∧ VFar A V
  le : lo ≤ W.heap.size
def RbPost (w : World) (R C lo : Nat) (r : MSt × Bool × Srd) (e : Ending) (w' : World) : Prop := e = .returned (.tuple #[]) ∧ Rdm w' R C lo r.1 r.2.1 r.2.2 ∧ GrownP (fun i => i = R ∨ i = C) w w'
def rbegin (m : MSt) (s : Srd) : MSt × Bool × Srd :=
  if (stepM m (1, s.a, 0, 0)).2.2 = true ∧ (stepM m (1, s.a, 0, 0)).2.1 % 2 = 0 then ((stepM m (1, s.a, 0, 0)).1, false, ⟨s.a, s.f, s.m, if s.m = 0 then 3 else 2, (stepM m (1, s.a, 0, 0)).2.1, [], s.tr⟩)
  else ((stepM m (1, s.a, 0, 0)).1, !(stepM m (1, s.a, 0, 0)).2.2, s)
def rdata (m : MSt) (s : Srd) : MSt × Bool × Srd :=
  if (stepM m (1, s.f + s.vs.length, 0, 0)).2.2 = true then ((stepM m (1, s.f + s.vs.length, 0, 0)).1, false, ⟨s.a, s.f, s.m, if (s.vs.length : Int) + 1 = s.m then 3 else s.ph, s.bg, s.vs ++ [(stepM m (1, s.f + s.vs.length, 0, 0)).2.1], s.tr⟩)
  else ((stepM m (1, s.f + s.vs.length, 0, 0)).1, true, s)
def rclose (m : MSt) (s : Srd) : MSt × Bool × Srd :=
  if (stepM m (1, s.a, 0, 0)).2.2 = true then ((stepM m (1, s.a, 0, 0)).1, false, if (stepM m (1, s.a, 0, 0)).2.1 = s.bg then ⟨s.a, s.f, s.m, 4, s.bg, s.vs, s.tr⟩ else ⟨s.a, s.f, s.m, 0, s.bg, s.vs, min (s.tr + 1) 1073741824⟩)
  else ((stepM m (1, s.a, 0, 0)).1, true, s)
theorem tr1 : (104 : TypeId) ≠ 27 := by decide
theorem tr2 : (104 : TypeId) ≠ 4 := by decide
theorem tr3 : (104 : TypeId) ≠ 102 := by decide
set_option maxRecDepth 100000 in
set_option maxHeartbeats 8000000 in
theorem rbegin_any (R C lo : Nat) (m : MSt) (l : Bool) (s : Srd) (w : World) (h : Rdm w R C lo m l s) (hg : MGood m.1 m.2.1) :
    Calls Try.prog 61 #[ptr R] w (RbPost w R C lo (rbegin m s)) := by
  obtain ⟨⟨A, n, c, B, k, d, V, vn, vc, hc, hm, hr, hv, hfar⟩, hle⟩ := h
  obtain ⟨a, f, mn, ph, bg, vs, tr⟩ := s
  dsimp only at hc hm hr hv
  obtain ⟨⟨m2, ⟨x, y⟩⟩, hst⟩ : ∃ r, r = stepM m (1, a, 0, 0) := ⟨_, rfl⟩
  obtain ⟨res, hres⟩ : ∃ res, res = rbegin m ⟨a, f, mn, ph, bg, vs, tr⟩ := ⟨_, rfl⟩
  rw [← hres]
  unfold rbegin at hres
  dsimp only at hres
  rw [← hst] at hres
  dsimp only at hres
  have HRES := hid hres; have HB := hid (Below.refl w.heap.size w)
  clear hres
  have HST := hid hst; have HR := hid hr; have HV := hid hv; have HG := hid hg; have HLV := hid hv.len; have HVL := hid (fun v (e : V = some v) => (hv.blk v e).2.choose_spec.lt)
  have HCM := hid (show Cpm w C lo m l from ⟨_, _, _, _, _, _, hc, hm⟩)
  have HNE := hid (hr.ne hc tr3); have HCB := hid hc
  have hcl := hid hc.lt
  clear hst hc hm hr hv hfar hg
  go_enter Try.func61, Try.ntmps61
  go_upto_region 0 with fail
  have bx := (Below.refl w.heap.size w).drew
  replace HR := hid (HR.out.step bx); replace HV := hid (HV.out.step bx); replace HCM := hid (HCM.out.step bx); replace HCB := hid (HCB.out.step bx); replace HB := hid (below_then HB.out bx)
  clear bx
  have hszd := hid (show w.drew.heap.size = w.heap.size from rfl)
  refine wp_region_noPanic ?_
  refine wp_region_held_drew (S := (fun W' : World => W'.cell? ⟨R, 0, none⟩ = some (.int .i64 a) ∧ W'.cell? ⟨R, 1, none⟩ = some (.int .i64 f) ∧ W'.cell? ⟨R, 2, none⟩ = some (.int .i64 mn) ∧ W'.cell? ⟨R, 3, none⟩ = some (.int .i64 ph) ∧ W'.cell? ⟨R, 4, none⟩ = some (.int .u64 bg) ∧ W'.cell? ⟨R, 5, none⟩ = some (.slice V vn vc) ∧ W'.cell? ⟨R, 6, none⟩ = some (.int .i64 tr) ∧ W'.cell? ⟨R, 7, none⟩ = some (ptr C))) (by kernel_rfl) ⟨HR.out.cells8.1, HR.out.cells8.2.1, HR.out.cells8.2.2.1, HR.out.cells8.2.2.2.1, HR.out.cells8.2.2.2.2.1, HR.out.cells8.2.2.2.2.2.1, HR.out.cells8.2.2.2.2.2.2.1, HR.out.cells8.2.2.2.2.2.2.2.1⟩ (fun hS => ?_)
  generalize w.drew = Wd at *
  refine wpAnyH_take (i := 0) (v := ?_) (by simp only [List.getElem?_toArray, List.getElem?_cons_succ, List.getElem?_cons_zero]; rfl) (by kernel_rfl) (by kernel_rfl) (by kernel_rfl) (fun _ _ _ h => h) (Or.inl ⟨by rfl, ?_⟩) hS ?_
  rotate_left
  · intro w' hSw; (try dsimp only at hSw); go_split_ands; go_simp; (try with_reducible rfl)
  (try simp only [Act.put, List.setIfInBounds_toArray, List.set_cons_zero, List.set_cons_succ])
  refine wpAnyH_take (i := 1) (v := ?_) (by simp only [List.getElem?_toArray, List.getElem?_cons_succ, List.getElem?_cons_zero]; rfl) (by kernel_rfl) (by kernel_rfl) (by kernel_rfl) (fun _ _ _ h => h) (Or.inl ⟨by rfl, ?_⟩) hS ?_
  rotate_left
  · intro w' hSw; (try dsimp only at hSw); go_split_ands; go_simp; (try with_reducible rfl)
  (try simp only [Act.put, List.setIfInBounds_toArray, List.set_cons_zero, List.set_cons_succ])
  refine wpAnyH_take (i := 2) (v := ?_) (by simp only [List.getElem?_toArray, List.getElem?_cons_succ, List.getElem?_cons_zero]; rfl) (by kernel_rfl) (by kernel_rfl) (by kernel_rfl) (fun _ _ _ h => h) (Or.inl ⟨by rfl, ?_⟩) hS ?_
  rotate_left
  · intro w' hSw; (try dsimp only at hSw); go_split_ands; go_simp; (try with_reducible rfl)
  (try simp only [Act.put, List.setIfInBounds_toArray, List.set_cons_zero, List.set_cons_succ])
  refine wpAnyH_take (i := 3) (v := ?_) (by simp only [List.getElem?_toArray, List.getElem?_cons_succ, List.getElem?_cons_zero]; rfl) (by kernel_rfl) (by kernel_rfl) (by kernel_rfl) (fun _ _ _ h => h) (Or.inl ⟨by rfl, ?_⟩) hS ?_
  rotate_left
  · intro w' hSw; (try dsimp only at hSw); go_split_ands; go_simp; (try with_reducible rfl)
  (try simp only [Act.put, List.setIfInBounds_toArray, List.set_cons_zero, List.set_cons_succ])
  refine wpAnyH_take (i := 4) (v := ?_) (by simp only [List.getElem?_toArray, List.getElem?_cons_succ, List.getElem?_cons_zero]; rfl) (by kernel_rfl) (by kernel_rfl) (by kernel_rfl) (fun _ _ _ h => h) (Or.inl ⟨by rfl, ?_⟩) hS ?_
  rotate_left
  · intro w' hSw; (try dsimp only at hSw); go_split_ands; go_simp; (try with_reducible rfl)
  (try simp only [Act.put, List.setIfInBounds_toArray, List.set_cons_zero, List.set_cons_succ])
  refine wpAnyH_take (i := 5) (v := ?_) (by simp only [List.getElem?_toArray, List.getElem?_cons_succ, List.getElem?_cons_zero]; rfl) (by kernel_rfl) (by kernel_rfl) (by kernel_rfl) (fun _ _ _ h => h) (Or.inl ⟨by rfl, ?_⟩) hS ?_
  rotate_left
  · intro w' hSw; (try dsimp only at hSw); go_split_ands; go_simp; (try with_reducible rfl)
  (try simp only [Act.put, List.setIfInBounds_toArray, List.set_cons_zero, List.set_cons_succ])
  refine wpAnyH_take (i := 6) (v := ?_) (by simp only [List.getElem?_toArray, List.getElem?_cons_succ, List.getElem?_cons_zero]; rfl) (by kernel_rfl) (by kernel_rfl) (by kernel_rfl) (fun _ _ _ h => h) (Or.inl ⟨by rfl, ?_⟩) hS ?_
  rotate_left
  · intro w' hSw; (try dsimp only at hSw); go_split_ands; go_simp; (try with_reducible rfl)
  (try simp only [Act.put, List.setIfInBounds_toArray, List.set_cons_zero, List.set_cons_succ])
  refine wpAnyH_take (i := 7) (v := ?_) (by simp only [List.getElem?_toArray, List.getElem?_cons_succ, List.getElem?_cons_zero]; rfl) (by kernel_rfl) (by kernel_rfl) (by kernel_rfl) (fun _ _ _ h => h) (Or.inl ⟨by rfl, ?_⟩) hS ?_
  rotate_left
  · intro w' hSw; (try dsimp only at hSw); go_split_ands; go_simp; (try with_reducible rfl)
  (try simp only [Act.put, List.setIfInBounds_toArray, List.set_cons_zero, List.set_cons_succ])
  refine wpAnyH_take (i := 8) (v := ?_) (by simp only [List.getElem?_toArray, List.getElem?_cons_succ, List.getElem?_cons_zero]; rfl) (by kernel_rfl) (by kernel_rfl) (by kernel_rfl) (fun _ _ _ h => h) (Or.inl ⟨by rfl, ?_⟩) hS ?_
  rotate_left
  · intro w' hSw; (try dsimp only at hSw); go_split_ands; go_simp; (try with_reducible rfl)
  (try simp only [Act.put, List.setIfInBounds_toArray, List.set_cons_zero, List.set_cons_succ])
  refine wpAnyH_ready (rs := [9]) (by kernel_rfl) (by simp) ?_
  refine AllReadyH.cons (by simp only [List.getElem?_toArray, List.getElem?_cons_succ, List.getElem?_cons_zero]; rfl) (fun K hK => ?_) ?_
  · skip
    go_simp
    refine (load_any C lo m l a _ HCM.out HG.out).mono ?_
    rintro e Wc9 ⟨rfl, h1, hgr⟩
    rw [← HST.out] at h1 ⊢
    dsimp only at h1 ⊢
    have hsz9 := hid hgr.size
    replace HR := hid (HR.out.grown hgr (fun e => HNE.out (by simpa using e)))
    replace HV := hid (HV.out.keptG hgr (fun v hv e => HV.out.ne_blk HCB.out tc1 v hv (by simpa using e)))
    have HGP := hid ((GrownP.ofBelow (p := fun i => i = R ∨ i = C) HB.out).trans (GrownP.ofGrown hgr (.inr rfl)))
    have H1 := hid h1
    clear h1 hgr HCM
    go_wp2_with fail
    refine hK.out _ _ ⟨HR.out.cells8.1, HR.out.cells8.2.1, HR.out.cells8.2.2.1, HR.out.cells8.2.2.2.1, HR.out.cells8.2.2.2.2.1, HR.out.cells8.2.2.2.2.2.1, HR.out.cells8.2.2.2.2.2.2.1, HR.out.cells8.2.2.2.2.2.2.2.1⟩ (fun hS' => ?_)
    clear hK K hS
    have hS := hS'
    clear hS'
    (try simp only [Act.put, List.setIfInBounds_toArray, List.set_cons_zero, List.set_cons_succ])
    refine wpAnyH_take (i := 10) (v := ?_) (by simp only [List.getElem?_toArray, List.getElem?_cons_succ, List.getElem?_cons_zero]; rfl) (by kernel_rfl) (by kernel_rfl) (by kernel_rfl) (fun _ _ _ h => h) (Or.inl ⟨by rfl, ?_⟩) hS ?_
    rotate_left
    · intro w' hSw; (try dsimp only at hSw); go_split_ands; go_simp; (try with_reducible rfl)
    (try simp only [Act.put, List.setIfInBounds_toArray, List.set_cons_zero, List.set_cons_succ])
    refine wpAnyH_done (by kernel_rfl) ?_ _
    refine NoPanic.normal ?_
    clear hS
    obtain ⟨A1, n1, c1, B1, k1, d1, hc1, ho1⟩ := H1.out.box
    have C1 := hid hc1; have O1 := hid ho1
    clear hc1 ho1
    obtain ⟨y00, y01, y02, y03, y04, y05, y06, y07, yf0⟩ := HR.out.cells8
    obtain ⟨y10, y11, y12, y13, yf1⟩ := C1.out.cells4
    rcases y with _ | _
    · skip
      go_wp2
      go_end0
      rw [HRES.out, if_neg (fun h => by cases h.1)]
      exact ⟨rfl, ⟨⟨_, _, _, _, _, _, _, _, _, C1.out, O1.out.mono (by have := hszd.out; omega), HR.out, HV.out, (fun a' v' ha hv' => by have h1 := (O1.out.oa.blk a' ha).1; have h2 := HVL.out v' hv'; have := hszd.out; omega)⟩, by have := hszd.out; have := HGP.out.size; omega⟩, HGP.out⟩
    go_wp2_with fail
    refine (even_any x _).mono ?_
    rintro e w' ⟨rfl, rfl⟩
    by_cases hx : x % 2 = 0
    rotate_left
    · rw [decide_eq_false hx]
      have HX := hid hx
      clear hx
      go_wp2
      go_end0
      rw [HRES.out, if_neg (fun h => HX.out h.2)]
      exact ⟨rfl, ⟨⟨_, _, _, _, _, _, _, _, _, C1.out, O1.out.mono (by have := hszd.out; omega), HR.out, HV.out, (fun a' v' ha hv' => by have h1 := (O1.out.oa.blk a' ha).1; have h2 := HVL.out v' hv'; have := hszd.out; omega)⟩, by have := hszd.out; have := HGP.out.size; omega⟩, HGP.out⟩
    rw [decide_eq_true hx]
    have HX := hid hx
    clear hx
    by_cases h0 : mn = 0
    · subst h0
      go_wp2
      have HRO := HR
      clear y00 y01 y02 y03 y04 y05 y06 y07 yf0 y10 y11 y12 y13 yf1 HV
      have hbk0 : Blk (Wc9.setCell ⟨R, 4, none⟩ (.int .u64 x)) (R) 104 #[.int .i64 a, .int .i64 f, .int .i64 0, .int .i64 ph, .int .u64 x, .slice V vn vc, .int .i64 tr, ptr C] := HR.out.setCell 4 (.int .u64 x)
      have hbk1 : Blk ((Wc9.setCell ⟨R, 4, none⟩ (.int .u64 x)).setCell ⟨R, 5, none⟩ (.slice none 0 0)) (R) 104 #[.int .i64 a, .int .i64 f, .int .i64 0, .int .i64 ph, .int .u64 x, .slice none 0 0, .int .i64 tr, ptr C] := hbk0.setCell 5 (.slice none 0 0)
      have hbk2 : Blk (((Wc9.setCell ⟨R, 4, none⟩ (.int .u64 x)).setCell ⟨R, 5, none⟩ (.slice none 0 0)).setCell ⟨R, 3, none⟩ (.int .i64 2)) (R) 104 #[.int .i64 a, .int .i64 f, .int .i64 0, .int .i64 2, .int .u64 x, .slice none 0 0, .int .i64 tr, ptr C] := hbk1.setCell 3 (.int .i64 2)
      have hbk3 : Blk ((((Wc9.setCell ⟨R, 4, none⟩ (.int .u64 x)).setCell ⟨R, 5, none⟩ (.slice none 0 0)).setCell ⟨R, 3, none⟩ (.int .i64 2)).setCell ⟨R, 3, none⟩ (.int .i64 3)) (R) 104 #[.int .i64 a, .int .i64 f, .int .i64 0, .int .i64 3, .int .u64 x, .slice none 0 0, .int .i64 tr, ptr C] := hbk2.setCell 3 (.int .i64 3)
      have hgr : Wc9.grownBy ((((Wc9.setCell ⟨R, 4, none⟩ (.int .u64 x)).setCell ⟨R, 5, none⟩ (.slice none 0 0)).setCell ⟨R, 3, none⟩ (.int .i64 2)).setCell ⟨R, 3, none⟩ (.int .i64 3)) (some (R)) := (grown_set (grown_set (grown_set (grown_set (World.grownBy.refl Wc9 (some (R))) 4 (.int .u64 x)) 5 (.slice none 0 0)) 3 (.int .i64 2)) 3 (.int .i64 3))
      replace HR := hid hbk3
      clear hbk0 hbk1 hbk2 hbk3
      generalize (((Wc9.setCell ⟨R, 4, none⟩ (.int .u64 x)).setCell ⟨R, 5, none⟩ (.slice none 0 0)).setCell ⟨R, 3, none⟩ (.int .i64 2)).setCell ⟨R, 3, none⟩ (.int .i64 3) = Wf at *
      replace C1 := hid (C1.out.grown hgr (fun e => HNE.out (by simpa using e.symm)))
      replace O1 := hid (mown_kept O1.out HRO.out tr1 tr2 hgr)
      replace HGP := hid (HGP.out.trans (GrownP.ofGrown hgr (.inl rfl)))
      clear hgr HRO
      have HV := hid (show Ow u64v Wf lo 27 none 0 0 [] from Ow.nil _ _ _)
      go_end0
      rw [HRES.out, if_pos ⟨(by trivial), HX.out⟩, if_pos (by trivial)]
      exact ⟨rfl, ⟨⟨_, _, _, _, _, _, _, _, _, C1.out, O1.out.mono (by have := hszd.out; omega), HR.out, HV.out, (fun a' v' ha hv' => by cases hv')⟩, by have := hszd.out; have := HGP.out.size; omega⟩, HGP.out⟩
    · have H0 := hid h0
      have d0 : (mn == 0) = false := by simpa using h0
      clear h0
      go_wp2
      have HRO := HR
      clear y00 y01 y02 y03 y04 y05 y06 y07 yf0 y10 y11 y12 y13 yf1 HV
      have hbk0 : Blk (Wc9.setCell ⟨R, 4, none⟩ (.int .u64 x)) (R) 104 #[.int .i64 a, .int .i64 f, .int .i64 mn, .int .i64 ph, .int .u64 x, .slice V vn vc, .int .i64 tr, ptr C] := HR.out.setCell 4 (.int .u64 x)
      have hbk1 : Blk ((Wc9.setCell ⟨R, 4, none⟩ (.int .u64 x)).setCell ⟨R, 5, none⟩ (.slice none 0 0)) (R) 104 #[.int .i64 a, .int .i64 f, .int .i64 mn, .int .i64 ph, .int .u64 x, .slice none 0 0, .int .i64 tr, ptr C] := hbk0.setCell 5 (.slice none 0 0)
      have hbk2 : Blk (((Wc9.setCell ⟨R, 4, none⟩ (.int .u64 x)).setCell ⟨R, 5, none⟩ (.slice none 0 0)).setCell ⟨R, 3, none⟩ (.int .i64 2)) (R) 104 #[.int .i64 a, .int .i64 f, .int .i64 mn, .int .i64 2, .int .u64 x, .slice none 0 0, .int .i64 tr, ptr C] := hbk1.setCell 3 (.int .i64 2)
      have hgr : Wc9.grownBy (((Wc9.setCell ⟨R, 4, none⟩ (.int .u64 x)).setCell ⟨R, 5, none⟩ (.slice none 0 0)).setCell ⟨R, 3, none⟩ (.int .i64 2)) (some (R)) := (grown_set (grown_set (grown_set (World.grownBy.refl Wc9 (some (R))) 4 (.int .u64 x)) 5 (.slice none 0 0)) 3 (.int .i64 2))
      replace HR := hid hbk2
      clear hbk0 hbk1 hbk2
      generalize ((Wc9.setCell ⟨R, 4, none⟩ (.int .u64 x)).setCell ⟨R, 5, none⟩ (.slice none 0 0)).setCell ⟨R, 3, none⟩ (.int .i64 2) = Wf at *
      replace C1 := hid (C1.out.grown hgr (fun e => HNE.out (by simpa using e.symm)))
      replace O1 := hid (mown_kept O1.out HRO.out tr1 tr2 hgr)
      replace HGP := hid (HGP.out.trans (GrownP.ofGrown hgr (.inl rfl)))
      clear hgr HRO
      have HV := hid (show Ow u64v Wf lo 27 none 0 0 [] from Ow.nil _ _ _)
      go_end0
      rw [HRES.out, if_pos ⟨(by trivial), HX.out⟩, if_neg H0.out]
      exact ⟨rfl, ⟨⟨_, _, _, _, _, _, _, _, _, C1.out, O1.out.mono (by have := hszd.out; omega), HR.out, HV.out, (fun a' v' ha hv' => by cases hv')⟩, by have := hszd.out; have := HGP.out.size; omega⟩, HGP.out⟩
  exact AllReadyH.nil
set_option maxRecDepth 100000 in
set_option maxHeartbeats 8000000 in
theorem rdata_any (R C lo : Nat) (m : MSt) (l : Bool) (s : Srd) (w : World) (h : Rdm w R C lo m l s) (hg : MGood m.1 m.2.1) (hb : 0 ≤ s.f ∧ s.f ≤ 4096 ∧ s.vs.length ≤ 16) :
    Calls Try.prog 62 #[ptr R] w (RbPost w R C lo (rdata m s)) := by
  obtain ⟨⟨A, n, c, B, k, d, V, vn, vc, hc, hm, hr, hv, hfar⟩, hle⟩ := h
  obtain ⟨a, f, mn, ph, bg, vs, tr⟩ := s
  dsimp only at hc hm hr hv
  obtain ⟨⟨m2, ⟨x, y⟩⟩, hst⟩ : ∃ r, r = stepM m (1, (f + (vs.length : Int)), 0, 0) := ⟨_, rfl⟩
  obtain ⟨res, hres⟩ : ∃ res, res = rdata m ⟨a, f, mn, ph, bg, vs, tr⟩ := ⟨_, rfl⟩
  rw [← hres]
  unfold rdata at hres
  dsimp only at hres
  rw [← hst] at hres
  dsimp only at hres
  have HRES := hid hres; have HB := hid (Below.refl w.heap.size w)
  clear hres
  have HST := hid hst; have HR := hid hr; have HV := hid hv; have HG := hid hg; have HLV := hid hv.len; have HVL := hid (fun v (e : V = some v) => (hv.blk v e).2.choose_spec.lt)
  have HCM := hid (show Cpm w C lo m l from ⟨_, _, _, _, _, _, hc, hm⟩)
  have HNE := hid (hr.ne hc tr3); have HCB := hid hc
  have hcl := hid hc.lt
  clear hst hc hm hr hv hfar hg
  obtain ⟨hf0, hf1, hvn⟩ := hb
  dsimp only at hf0 hf1 hvn
  rw [HLV.out] at hvn
  have HRES2 := HRES.out
  rw [HLV.out] at HRES2
  replace HRES := hid HRES2
  have HST2 := HST.out
  rw [HLV.out] at HST2
  replace HST := hid HST2
  clear HRES2 HST2
  have hw1 : IntKind.i64.wrap (f + (vn : Int)) = f + (vn : Int) := by rw [IntKind.wrap_i64]; omega
  go_enter Try.func62, Try.ntmps62
  go_upto_region 0 with fail
  have bx := (Below.refl w.heap.size w).drew
  replace HR := hid (HR.out.step bx); replace HV := hid (HV.out.step bx); replace HCM := hid (HCM.out.step bx); replace HCB := hid (HCB.out.step bx); replace HB := hid (below_then HB.out bx)
  clear bx
  have hszd := hid (show w.drew.heap.size = w.heap.size from rfl)
  refine wp_region_noPanic ?_
  refine wp_region_held_drew (S := (fun W' : World => W'.cell? ⟨R, 0, none⟩ = some (.int .i64 a) ∧ W'.cell? ⟨R, 1, none⟩ = some (.int .i64 f) ∧ W'.cell? ⟨R, 2, none⟩ = some (.int .i64 mn) ∧ W'.cell? ⟨R, 3, none⟩ = some (.int .i64 ph) ∧ W'.cell? ⟨R, 4, none⟩ = some (.int .u64 bg) ∧ W'.cell? ⟨R, 5, none⟩ = some (.slice V vn vc) ∧ W'.cell? ⟨R, 6, none⟩ = some (.int .i64 tr) ∧ W'.cell? ⟨R, 7, none⟩ = some (ptr C))) (by kernel_rfl) ⟨HR.out.cells8.1, HR.out.cells8.2.1, HR.out.cells8.2.2.1, HR.out.cells8.2.2.2.1, HR.out.cells8.2.2.2.2.1, HR.out.cells8.2.2.2.2.2.1, HR.out.cells8.2.2.2.2.2.2.1, HR.out.cells8.2.2.2.2.2.2.2.1⟩ (fun hS => ?_)
  generalize w.drew = Wd at *
  refine wpAnyH_take (i := 0) (v := ?_) (by simp only [List.getElem?_toArray, List.getElem?_cons_succ, List.getElem?_cons_zero]; rfl) (by kernel_rfl) (by kernel_rfl) (by kernel_rfl) (fun _ _ _ h => h) (Or.inl ⟨by rfl, ?_⟩) hS ?_
  rotate_left
  · intro w' hSw; (try dsimp only at hSw); go_split_ands; go_simp; (try with_reducible rfl)
  (try simp only [Act.put, List.setIfInBounds_toArray, List.set_cons_zero, List.set_cons_succ])
  refine wpAnyH_take (i := 1) (v := ?_) (by simp only [List.getElem?_toArray, List.getElem?_cons_succ, List.getElem?_cons_zero]; rfl) (by kernel_rfl) (by kernel_rfl) (by kernel_rfl) (fun _ _ _ h => h) (Or.inl ⟨by rfl, ?_⟩) hS ?_
  rotate_left
  · intro w' hSw; (try dsimp only at hSw); go_split_ands; go_simp; (try with_reducible rfl)
  (try simp only [Act.put, List.setIfInBounds_toArray, List.set_cons_zero, List.set_cons_succ])
  refine wpAnyH_take (i := 2) (v := ?_) (by simp only [List.getElem?_toArray, List.getElem?_cons_succ, List.getElem?_cons_zero]; rfl) (by kernel_rfl) (by kernel_rfl) (by kernel_rfl) (fun _ _ _ h => h) (Or.inl ⟨by rfl, ?_⟩) hS ?_
  rotate_left
  · intro w' hSw; (try dsimp only at hSw); go_split_ands; go_simp; (try with_reducible rfl)
  (try simp only [Act.put, List.setIfInBounds_toArray, List.set_cons_zero, List.set_cons_succ])
  refine wpAnyH_take (i := 3) (v := ?_) (by simp only [List.getElem?_toArray, List.getElem?_cons_succ, List.getElem?_cons_zero]; rfl) (by kernel_rfl) (by kernel_rfl) (by kernel_rfl) (fun _ _ _ h => h) (Or.inl ⟨by rfl, ?_⟩) hS ?_
  rotate_left
  · intro w' hSw; (try dsimp only at hSw); go_split_ands; go_simp; (try with_reducible rfl)
  (try simp only [Act.put, List.setIfInBounds_toArray, List.set_cons_zero, List.set_cons_succ])
  refine wpAnyH_take (i := 4) (v := ?_) (by simp only [List.getElem?_toArray, List.getElem?_cons_succ, List.getElem?_cons_zero]; rfl) (by kernel_rfl) (by kernel_rfl) (by kernel_rfl) (fun _ _ _ h => h) (Or.inl ⟨by rfl, ?_⟩) hS ?_
  rotate_left
  · intro w' hSw; (try dsimp only at hSw); go_split_ands; go_simp; (try with_reducible rfl)
  (try simp only [Act.put, List.setIfInBounds_toArray, List.set_cons_zero, List.set_cons_succ])
  refine wpAnyH_take (i := 5) (v := ?_) (by simp only [List.getElem?_toArray, List.getElem?_cons_succ, List.getElem?_cons_zero]; rfl) (by kernel_rfl) (by kernel_rfl) (by kernel_rfl) (fun _ _ _ h => h) (Or.inl ⟨by rfl, ?_⟩) hS ?_
  rotate_left
  · intro w' hSw; (try dsimp only at hSw); go_split_ands; go_simp; (try with_reducible rfl)
  (try simp only [Act.put, List.setIfInBounds_toArray, List.set_cons_zero, List.set_cons_succ])
  refine wpAnyH_take (i := 6) (v := ?_) (by simp only [List.getElem?_toArray, List.getElem?_cons_succ, List.getElem?_cons_zero]; rfl) (by kernel_rfl) (by kernel_rfl) (by kernel_rfl) (fun _ _ _ h => h) (Or.inl ⟨by rfl, ?_⟩) hS ?_
  rotate_left
  · intro w' hSw; (try dsimp only at hSw); go_split_ands; go_simp; (try with_reducible rfl)
  (try simp only [Act.put, List.setIfInBounds_toArray, List.set_cons_zero, List.set_cons_succ])
  refine wpAnyH_take (i := 7) (v := ?_) (by simp only [List.getElem?_toArray, List.getElem?_cons_succ, List.getElem?_cons_zero]; rfl) (by kernel_rfl) (by kernel_rfl) (by kernel_rfl) (fun _ _ _ h => h) (Or.inl ⟨by rfl, ?_⟩) hS ?_
  rotate_left
  · intro w' hSw; (try dsimp only at hSw); go_split_ands; go_simp; (try with_reducible rfl)
  (try simp only [Act.put, List.setIfInBounds_toArray, List.set_cons_zero, List.set_cons_succ])
  refine wpAnyH_take (i := 8) (v := ?_) (by simp only [List.getElem?_toArray, List.getElem?_cons_succ, List.getElem?_cons_zero]; rfl) (by kernel_rfl) (by kernel_rfl) (by kernel_rfl) (fun _ _ _ h => h) (Or.inl ⟨by rfl, ?_⟩) hS ?_
  rotate_left
  · intro w' hSw; (try dsimp only at hSw); go_split_ands; go_simp; (try with_reducible rfl)
  (try simp only [Act.put, List.setIfInBounds_toArray, List.set_cons_zero, List.set_cons_succ])
  refine wpAnyH_take (i := 9) (v := ?_) (by simp only [List.getElem?_toArray, List.getElem?_cons_succ, List.getElem?_cons_zero]; rfl) (by kernel_rfl) (by kernel_rfl) (by kernel_rfl) (fun _ _ _ h => h) (Or.inl ⟨by rfl, ?_⟩) hS ?_
  rotate_left
  · intro w' hSw; (try dsimp only at hSw); go_split_ands; go_simp; (try with_reducible rfl)
  (try simp only [Act.put, List.setIfInBounds_toArray, List.set_cons_zero, List.set_cons_succ])
  refine wpAnyH_take (i := 10) (v := ?_) (by simp only [List.getElem?_toArray, List.getElem?_cons_succ, List.getElem?_cons_zero]; rfl) (by kernel_rfl) (by kernel_rfl) (by kernel_rfl) (fun _ _ _ h => h) (Or.inl ⟨by rfl, ?_⟩) hS ?_
  rotate_left
  · intro w' hSw; (try dsimp only at hSw); go_split_ands; go_simp; (try with_reducible rfl)
  (try simp only [Act.put, List.setIfInBounds_toArray, List.set_cons_zero, List.set_cons_succ])
  refine wpAnyH_take (i := 11) (v := ?_) (by simp only [List.getElem?_toArray, List.getElem?_cons_succ, List.getElem?_cons_zero]; rfl) (by kernel_rfl) (by kernel_rfl) (by kernel_rfl) (fun _ _ _ h => h) (Or.inl ⟨by rfl, ?_⟩) hS ?_
  rotate_left
  · intro w' hSw; (try dsimp only at hSw); go_split_ands; go_simp; (try with_reducible rfl)
  (try simp only [Act.put, List.setIfInBounds_toArray, List.set_cons_zero, List.set_cons_succ])
  refine wpAnyH_take (i := 12) (v := ?_) (by simp only [List.getElem?_toArray, List.getElem?_cons_succ, List.getElem?_cons_zero]; rfl) (by kernel_rfl) (by kernel_rfl) (by kernel_rfl) (fun _ _ _ h => h) (Or.inl ⟨by rfl, ?_⟩) hS ?_
  rotate_left
  · intro w' hSw; (try dsimp only at hSw); go_split_ands; go_simp; (try with_reducible rfl)
  (try simp only [Act.put, List.setIfInBounds_toArray, List.set_cons_zero, List.set_cons_succ])
  refine wpAnyH_take (i := 13) (v := ?_) (by simp only [List.getElem?_toArray, List.getElem?_cons_succ, List.getElem?_cons_zero]; rfl) (by kernel_rfl) (by kernel_rfl) (by kernel_rfl) (fun _ _ _ h => h) (Or.inl ⟨by rfl, ?_⟩) hS ?_
  rotate_left
  · intro w' hSw; (try dsimp only at hSw); go_split_ands; go_simp; (try with_reducible rfl)
  (try simp only [Act.put, List.setIfInBounds_toArray, List.set_cons_zero, List.set_cons_succ])
  refine wpAnyH_take (i := 14) (v := ?_) (by simp only [List.getElem?_toArray, List.getElem?_cons_succ, List.getElem?_cons_zero]; rfl) (by kernel_rfl) (by kernel_rfl) (by kernel_rfl) (fun _ _ _ h => h) (Or.inl ⟨by rfl, ?_⟩) hS ?_
  rotate_left
  · intro w' hSw; (try dsimp only at hSw); go_split_ands; go_simp; (try with_reducible rfl)
  (try simp only [Act.put, List.setIfInBounds_toArray, List.set_cons_zero, List.set_cons_succ])
  refine wpAnyH_take (i := 15) (v := ?_) (by simp only [List.getElem?_toArray, List.getElem?_cons_succ, List.getElem?_cons_zero]; rfl) (by kernel_rfl) (by kernel_rfl) (by kernel_rfl) (fun _ _ _ h => h) (Or.inl ⟨by rfl, ?_⟩) hS ?_
  rotate_left
  · intro w' hSw; (try dsimp only at hSw); go_split_ands; go_simp; (try with_reducible rfl)
  (try simp only [Act.put, List.setIfInBounds_toArray, List.set_cons_zero, List.set_cons_succ])
  refine wpAnyH_ready (rs := [16]) (by kernel_rfl) (by simp) ?_
  refine AllReadyH.cons (by simp only [List.getElem?_toArray, List.getElem?_cons_succ, List.getElem?_cons_zero]; rfl) (fun K hK => ?_) ?_
  · skip
    go_simp
    refine (load_any C lo m l (f + (vn : Int)) _ HCM.out HG.out).mono ?_
    rintro e Wc16 ⟨rfl, h1, hgr⟩
    rw [← HST.out] at h1 ⊢
    dsimp only at h1 ⊢
    have hsz9 := hid hgr.size
    replace HR := hid (HR.out.grown hgr (fun e => HNE.out (by simpa using e)))
    replace HV := hid (HV.out.keptG hgr (fun v hv e => HV.out.ne_blk HCB.out tc1 v hv (by simpa using e)))
    have HGP := hid ((GrownP.ofBelow (p := fun i => i = R ∨ i = C) HB.out).trans (GrownP.ofGrown hgr (.inr rfl)))
    have H1 := hid h1
    clear h1 hgr HCM
    go_wp2_with fail
    refine hK.out _ _ ⟨HR.out.cells8.1, HR.out.cells8.2.1, HR.out.cells8.2.2.1, HR.out.cells8.2.2.2.1, HR.out.cells8.2.2.2.2.1, HR.out.cells8.2.2.2.2.2.1, HR.out.cells8.2.2.2.2.2.2.1, HR.out.cells8.2.2.2.2.2.2.2.1⟩ (fun hS' => ?_)
    clear hK K hS
    have hS := hS'
    clear hS'
    (try simp only [Act.put, List.setIfInBounds_toArray, List.set_cons_zero, List.set_cons_succ])
    refine wpAnyH_take (i := 17) (v := ?_) (by simp only [List.getElem?_toArray, List.getElem?_cons_succ, List.getElem?_cons_zero]; rfl) (by kernel_rfl) (by kernel_rfl) (by kernel_rfl) (fun _ _ _ h => h) (Or.inl ⟨by rfl, ?_⟩) hS ?_
    rotate_left
    · intro w' hSw; (try dsimp only at hSw); go_split_ands; go_simp; (try with_reducible rfl)
    (try simp only [Act.put, List.setIfInBounds_toArray, List.set_cons_zero, List.set_cons_succ])
    refine wpAnyH_done (by kernel_rfl) ?_ _
    refine NoPanic.normal ?_
    clear hS
    obtain ⟨A1, n1, c1, B1, k1, d1, hc1, ho1⟩ := H1.out.box
    have C1 := hid hc1; have O1 := hid ho1
    clear hc1 ho1
    have HAL := hid (fun a' (ha : A1 = some a') => (O1.out.oa.blk a' ha).2.choose_spec.lt)
    obtain ⟨y00, y01, y02, y03, y04, y05, y06, y07, yf0⟩ := HR.out.cells8
    obtain ⟨y10, y11, y12, y13, yf1⟩ := C1.out.cells4
    rcases y with _ | _
    · skip
      go_wp2
      go_end0
      rw [HRES.out, if_neg (by decide)]
      exact ⟨rfl, ⟨⟨_, _, _, _, _, _, _, _, _, C1.out, O1.out.mono (by have := hszd.out; omega), HR.out, HV.out, (fun a' v' ha hv' => by have h1 := (O1.out.oa.blk a' ha).1; have h2 := HVL.out v' hv'; have := hszd.out; omega)⟩, by have := hszd.out; have := HGP.out.size; omega⟩, HGP.out⟩
    clear hw1
    go_upto_region 3 with fail
    obtain ⟨i0, hi0, hz00, hz01, hz02⟩ := info_parts info_u64
    have bx := below_box Wc16 (.cells #[.int .u64 x] 27)
    have hnn0 : (0 : Int) ≤ (vn : Int) := by omega
    have hvc := HV.out.cap.1
    have hvc1 : (vn : Int) ≤ (vc : Int) := by omega
    obtain ⟨z0, z1, z2, z3, z4, z5, z6, z7, zf⟩ := (HR.out.step bx).cells8
    have hx1 := hid ((HV.out.sl (d := 0)).step bx)
    go_wp2_with (at_builtin; refine wpList_appf u64v 0 _ rfl _ _ 24 rfl 27 i0 _ 8 Try.underlying24 hi0 hz00 hz01 hz02 rfl _ _ V vn vn vs rfl hx1.out _ _ _ 1 1 [x] rfl (Sl.one' (enc := u64v) (d := 0) (by simp)) (by omega) (fun _ => rfl) (by omega) (by simp only [maxLen]; omega) (by omega) (by omega) lo (by have := hszd.out; have := hsz9.out; simp; omega) ?_; intro ca wA ownA bA sA; have bW := below_then bx bA; obtain ⟨s0, s1, s2, s3, s4, s5, s6, s7, sf⟩ := (HR.out.step bW).cells8)
    clear s0 s1 s2 s3 s4 s5 s6 s7 sf z0 z1 z2 z3 z4 z5 z6 z7 zf hx1 hi0 hz00 hz01 hz02 hvc hvc1 y00 y01 y02 y03 y04 y05 y06 y07 yf0 y10 y11 y12 y13 yf1 bx bA
    replace HR := hid (HR.out.step bW); replace C1 := hid (C1.out.step bW); replace O1 := hid ((O1.out.step bW).mono (show lo ≤ _ by have := hszd.out; omega)); replace HGP := hid (HGP.out.trans (GrownP.ofBelow bW))
    rw [show (Wc16.alloc (.cells #[.int .u64 x] 27)).heap.size = Wc16.heap.size + 1 by simp] at ownA sA
    have HV2 := hid ownA
    have hsA := hid (show lo ≤ wA.heap.size by have := hszd.out; have := hsz9.out; omega)
    have HFAR := hid (show VFar A1 (some ⟨Wc16.heap.size + 1, 0, none⟩) from fun a' v' ha hv' => by cases hv'; have := HAL.out a' ha; show a'.block ≠ Wc16.heap.size + 1; omega)
    clear HV HAL ownA bW sA
    have HRO := HR
    have hbk0 : Blk (wA.setCell ⟨R, 5, none⟩ (.slice (some ⟨Wc16.heap.size + 1, 0, none⟩) (vn + 1) ca)) (R) 104 #[.int .i64 a, .int .i64 f, .int .i64 mn, .int .i64 ph, .int .u64 bg, .slice (some ⟨Wc16.heap.size + 1, 0, none⟩) (vn + 1) ca, .int .i64 tr, ptr C] := HR.out.setCell 5 (.slice (some ⟨Wc16.heap.size + 1, 0, none⟩) (vn + 1) ca)
    have hgr : wA.grownBy (wA.setCell ⟨R, 5, none⟩ (.slice (some ⟨Wc16.heap.size + 1, 0, none⟩) (vn + 1) ca)) (some (R)) := (grown_set (World.grownBy.refl wA (some (R))) 5 (.slice (some ⟨Wc16.heap.size + 1, 0, none⟩) (vn + 1) ca))
    replace HR := hid hbk0
    clear hbk0
    generalize wA.setCell ⟨R, 5, none⟩ (.slice (some ⟨Wc16.heap.size + 1, 0, none⟩) (vn + 1) ca) = Wf at *
    replace C1 := hid (C1.out.grown hgr (fun e => HNE.out (by simpa using e.symm)))
    replace O1 := hid (mown_kept O1.out HRO.out tr1 tr2 hgr)
    replace HGP := hid (HGP.out.trans (GrownP.ofGrown hgr (.inl rfl)))
    replace HV2 := hid (HV2.out.keptG hgr (fun v hv e => HV2.out.ne_blk HRO.out tr1 v hv (by simpa using e)))
    replace hsA := hid (Nat.le_trans hsA.out hgr.size)
    clear hgr HRO hszd hsz9 HCB HLV HVL
    have HBF := hid (Below.refl Wf.heap.size Wf)
    have hmm : ((vn : Int) + 1 == mn) = decide ((vn : Int) + 1 = mn) := rfl
    obtain ⟨q, hq⟩ : ∃ q, q = decide ((vn : Int) + 1 = mn) := ⟨_, rfl⟩
    rw [← hq] at hmm
    have HQ := hid hq
    clear hq
    have bx := (Below.refl Wf.heap.size Wf).drew
    replace HR := hid (HR.out.step bx); replace C1 := hid (C1.out.step bx); replace O1 := hid (O1.out.step bx); replace HV2 := hid (HV2.out.step bx); replace HBF := hid (below_then HBF.out bx)
    clear bx
    have hszd := hid (show Wf.drew.heap.size = Wf.heap.size from rfl)
    refine wp_region_noPanic ?_
    refine wp_region_held_drew (S := (fun W' : World => W'.cell? ⟨R, 0, none⟩ = some (.int .i64 a) ∧ W'.cell? ⟨R, 1, none⟩ = some (.int .i64 f) ∧ W'.cell? ⟨R, 2, none⟩ = some (.int .i64 mn) ∧ W'.cell? ⟨R, 3, none⟩ = some (.int .i64 ph) ∧ W'.cell? ⟨R, 4, none⟩ = some (.int .u64 bg) ∧ W'.cell? ⟨R, 5, none⟩ = some (.slice (some ⟨Wc16.heap.size + 1, 0, none⟩) (vn + 1) ca) ∧ W'.cell? ⟨R, 6, none⟩ = some (.int .i64 tr) ∧ W'.cell? ⟨R, 7, none⟩ = some (ptr C))) (by kernel_rfl) ⟨HR.out.cells8.1, HR.out.cells8.2.1, HR.out.cells8.2.2.1, HR.out.cells8.2.2.2.1, HR.out.cells8.2.2.2.2.1, HR.out.cells8.2.2.2.2.2.1, HR.out.cells8.2.2.2.2.2.2.1, HR.out.cells8.2.2.2.2.2.2.2.1⟩ (fun hS => ?_)
    generalize Wf.drew = Wd at *
    refine wpAnyH_take (i := 0) (v := ?_) (by simp only [List.getElem?_toArray, List.getElem?_cons_succ, List.getElem?_cons_zero]; rfl) (by kernel_rfl) (by kernel_rfl) (by kernel_rfl) (fun _ _ _ h => h) (Or.inl ⟨by rfl, ?_⟩) hS ?_
    rotate_left
    · intro w' hSw; (try dsimp only at hSw); go_split_ands; go_simp; (try with_reducible rfl)
    (try simp only [Act.put, List.setIfInBounds_toArray, List.set_cons_zero, List.set_cons_succ])
    refine wpAnyH_take (i := 1) (v := ?_) (by simp only [List.getElem?_toArray, List.getElem?_cons_succ, List.getElem?_cons_zero]; rfl) (by kernel_rfl) (by kernel_rfl) (by kernel_rfl) (fun _ _ _ h => h) (Or.inl ⟨by rfl, ?_⟩) hS ?_
    rotate_left
    · intro w' hSw; (try dsimp only at hSw); go_split_ands; go_simp; (try with_reducible rfl)
    (try simp only [Act.put, List.setIfInBounds_toArray, List.set_cons_zero, List.set_cons_succ])
    refine wpAnyH_take (i := 2) (v := ?_) (by simp only [List.getElem?_toArray, List.getElem?_cons_succ, List.getElem?_cons_zero]; rfl) (by kernel_rfl) (by kernel_rfl) (by kernel_rfl) (fun _ _ _ h => h) (Or.inl ⟨by rfl, ?_⟩) hS ?_
    rotate_left
    · intro w' hSw; (try dsimp only at hSw); go_split_ands; go_simp; (try with_reducible rfl)
    (try simp only [Act.put, List.setIfInBounds_toArray, List.set_cons_zero, List.set_cons_succ])
    refine wpAnyH_take (i := 3) (v := ?_) (by simp only [List.getElem?_toArray, List.getElem?_cons_succ, List.getElem?_cons_zero]; rfl) (by kernel_rfl) (by kernel_rfl) (by kernel_rfl) (fun _ _ _ h => h) (Or.inl ⟨by rfl, ?_⟩) hS ?_
    rotate_left
    · intro w' hSw; (try dsimp only at hSw); go_split_ands; go_simp; (try with_reducible rfl)
    (try simp only [Act.put, List.setIfInBounds_toArray, List.set_cons_zero, List.set_cons_succ])
    refine wpAnyH_take (i := 4) (v := ?_) (by simp only [List.getElem?_toArray, List.getElem?_cons_succ, List.getElem?_cons_zero]; rfl) (by kernel_rfl) (by kernel_rfl) (by kernel_rfl) (fun _ _ _ h => h) (Or.inl ⟨by rfl, ?_⟩) hS ?_
    rotate_left
    · intro w' hSw; (try dsimp only at hSw); go_split_ands; go_simp; (try with_reducible rfl)
    (try simp only [Act.put, List.setIfInBounds_toArray, List.set_cons_zero, List.set_cons_succ])
    refine wpAnyH_take (i := 5) (v := ?_) (by simp only [List.getElem?_toArray, List.getElem?_cons_succ, List.getElem?_cons_zero]; rfl) (by kernel_rfl) (by kernel_rfl) (by kernel_rfl) (fun _ _ _ h => h) (Or.inl ⟨by rfl, ?_⟩) hS ?_
    rotate_left
    · intro w' hSw; (try dsimp only at hSw); go_split_ands; go_simp; (try with_reducible rfl)
    (try simp only [Act.put, List.setIfInBounds_toArray, List.set_cons_zero, List.set_cons_succ])
    refine wpAnyH_take (i := 6) (v := ?_) (by simp only [List.getElem?_toArray, List.getElem?_cons_succ, List.getElem?_cons_zero]; rfl) (by kernel_rfl) (by kernel_rfl) (by kernel_rfl) (fun _ _ _ h => h) (Or.inl ⟨by rfl, ?_⟩) hS ?_
    rotate_left
    · intro w' hSw; (try dsimp only at hSw); go_split_ands; go_simp; (try with_reducible rfl)
    (try simp only [Act.put, List.setIfInBounds_toArray, List.set_cons_zero, List.set_cons_succ])
    refine wpAnyH_take (i := 7) (v := ?_) (by simp only [List.getElem?_toArray, List.getElem?_cons_succ, List.getElem?_cons_zero]; rfl) (by kernel_rfl) (by kernel_rfl) (by kernel_rfl) (fun _ _ _ h => h) (Or.inl ⟨by rfl, ?_⟩) hS ?_
    rotate_left
    · intro w' hSw; (try dsimp only at hSw); go_split_ands; go_simp; (try with_reducible rfl)
    (try simp only [Act.put, List.setIfInBounds_toArray, List.set_cons_zero, List.set_cons_succ])
    refine wpAnyH_take (i := 8) (v := ?_) (by simp only [List.getElem?_toArray, List.getElem?_cons_succ, List.getElem?_cons_zero]; rfl) (by kernel_rfl) (by kernel_rfl) (by kernel_rfl) (fun _ _ _ h => h) (Or.inl ⟨by rfl, ?_⟩) hS ?_
    rotate_left
    · intro w' hSw; (try dsimp only at hSw); go_split_ands; go_simp; (try with_reducible rfl)
    (try simp only [Act.put, List.setIfInBounds_toArray, List.set_cons_zero, List.set_cons_succ])
    refine wpAnyH_take (i := 9) (v := ?_) (by simp only [List.getElem?_toArray, List.getElem?_cons_succ, List.getElem?_cons_zero]; rfl) (by kernel_rfl) (by kernel_rfl) (by kernel_rfl) (fun _ _ _ h => h) (Or.inl ⟨by rfl, ?_⟩) hS ?_
    rotate_left
    · intro w' hSw; (try dsimp only at hSw); go_split_ands; go_simp; (try with_reducible rfl)
    (try simp only [Act.put, List.setIfInBounds_toArray, List.set_cons_zero, List.set_cons_succ])
    refine wpAnyH_take (i := 10) (v := ?_) (by simp only [List.getElem?_toArray, List.getElem?_cons_succ, List.getElem?_cons_zero]; rfl) (by kernel_rfl) (by kernel_rfl) (by kernel_rfl) (fun _ _ _ h => h) (Or.inl ⟨by rfl, ?_⟩) hS ?_
    rotate_left
    · intro w' hSw; (try dsimp only at hSw); go_split_ands; go_simp; (try with_reducible rfl)
    (try simp only [Act.put, List.setIfInBounds_toArray, List.set_cons_zero, List.set_cons_succ])
    refine wpAnyH_take (i := 11) (v := ?_) (by simp only [List.getElem?_toArray, List.getElem?_cons_succ, List.getElem?_cons_zero]; rfl) (by kernel_rfl) (by kernel_rfl) (by kernel_rfl) (fun _ _ _ h => h) (Or.inl ⟨by rfl, ?_⟩) hS ?_
    rotate_left
    · intro w' hSw; (try dsimp only at hSw); go_split_ands; go_simp; (try with_reducible rfl)
    (try simp only [Act.put, List.setIfInBounds_toArray, List.set_cons_zero, List.set_cons_succ])
    refine wpAnyH_done (by kernel_rfl) ?_ _
    refine NoPanic.normal ?_
    clear hS
    rcases q with _ | _
    · have HN := hid (of_decide_eq_false HQ.out.symm)
      have HL := hid (Nat.le_trans hsA.out HBF.out.size); have HG2 := hid (HGP.out.trans (GrownP.ofBelow HBF.out))
      obtain ⟨y00, y01, y02, y03, y04, y05, y06, y07, yf0⟩ := HR.out.cells8
      go_wp2
      go_end0
      rw [HRES.out, if_pos (by trivial), if_neg HN.out]
      exact ⟨rfl, ⟨⟨_, _, _, _, _, _, _, _, _, C1.out, O1.out, HR.out, HV2.out, HFAR.out⟩, HL.out⟩, HG2.out⟩
    have HN := hid (of_decide_eq_true HQ.out.symm)
    obtain ⟨y00, y01, y02, y03, y04, y05, y06, y07, yf0⟩ := HR.out.cells8
    go_wp2
    have HRO := HR
    clear y00 y01 y02 y03 y04 y05 y06 y07 yf0
    have hbk0 : Blk (Wd.setCell ⟨R, 3, none⟩ (.int .i64 3)) (R) 104 #[.int .i64 a, .int .i64 f, .int .i64 mn, .int .i64 3, .int .u64 bg, .slice (some ⟨Wc16.heap.size + 1, 0, none⟩) (vn + 1) ca, .int .i64 tr, ptr C] := HR.out.setCell 3 (.int .i64 3)
    have hgr : Wd.grownBy (Wd.setCell ⟨R, 3, none⟩ (.int .i64 3)) (some (R)) := (grown_set (World.grownBy.refl Wd (some (R))) 3 (.int .i64 3))
    replace HR := hid hbk0
    clear hbk0
    generalize Wd.setCell ⟨R, 3, none⟩ (.int .i64 3) = Wg at *
    replace C1 := hid (C1.out.grown hgr (fun e => HNE.out (by simpa using e.symm)))
    replace O1 := hid (mown_kept O1.out HRO.out tr1 tr2 hgr)
    replace HV2 := hid (HV2.out.keptG hgr (fun v hv e => HV2.out.ne_blk HRO.out tr1 v hv (by simpa using e)))
    have HG2 := hid ((HGP.out.trans (GrownP.ofBelow HBF.out)).trans (GrownP.ofGrown hgr (.inl rfl)))
    have HL := hid (Nat.le_trans hsA.out (Nat.le_trans HBF.out.size hgr.size))
    go_end0
    rw [HRES.out, if_pos (by trivial), if_pos HN.out]
    exact ⟨rfl, ⟨⟨_, _, _, _, _, _, _, _, _, C1.out, O1.out, HR.out, HV2.out, HFAR.out⟩, HL.out⟩, HG2.out⟩
  exact AllReadyH.nil
set_option maxRecDepth 100000 in
set_option maxHeartbeats 8000000 in
theorem rclose_any (R C lo : Nat) (m : MSt) (l : Bool) (s : Srd) (w : World) (h : Rdm w R C lo m l s) (hg : MGood m.1 m.2.1) (hb : 0 ≤ s.tr ∧ s.tr ≤ 1073741824) :
    Calls Try.prog 63 #[ptr R] w (RbPost w R C lo (rclose m s)) := by
  obtain ⟨⟨A, n, c, B, k, d, V, vn, vc, hc, hm, hr, hv, hfar⟩, hle⟩ := h
  obtain ⟨a, f, mn, ph, bg, vs, tr⟩ := s
  dsimp only at hc hm hr hv
  obtain ⟨⟨m2, ⟨x, y⟩⟩, hst⟩ : ∃ r, r = stepM m (1, a, 0, 0) := ⟨_, rfl⟩
  obtain ⟨res, hres⟩ : ∃ res, res = rclose m ⟨a, f, mn, ph, bg, vs, tr⟩ := ⟨_, rfl⟩
  rw [← hres]
  unfold rclose at hres
  dsimp only at hres
  rw [← hst] at hres
  dsimp only at hres
  have HRES := hid hres; have HB := hid (Below.refl w.heap.size w)
  clear hres
  have HST := hid hst; have HR := hid hr; have HV := hid hv; have HG := hid hg; have HLV := hid hv.len; have HVL := hid (fun v (e : V = some v) => (hv.blk v e).2.choose_spec.lt)
  have HCM := hid (show Cpm w C lo m l from ⟨_, _, _, _, _, _, hc, hm⟩)
  have HNE := hid (hr.ne hc tr3); have HCB := hid hc
  have hcl := hid hc.lt
  clear hst hc hm hr hv hfar hg
  obtain ⟨ht0, ht1⟩ := hb
  dsimp only at ht0 ht1
  go_enter Try.func63, Try.ntmps63
  go_upto_region 0 with fail
  have bx := (Below.refl w.heap.size w).drew
  replace HR := hid (HR.out.step bx); replace HV := hid (HV.out.step bx); replace HCM := hid (HCM.out.step bx); replace HCB := hid (HCB.out.step bx); replace HB := hid (below_then HB.out bx)
  clear bx
  have hszd := hid (show w.drew.heap.size = w.heap.size from rfl)
  refine wp_region_noPanic ?_
  refine wp_region_held_drew (S := (fun W' : World => W'.cell? ⟨R, 0, none⟩ = some (.int .i64 a) ∧ W'.cell? ⟨R, 1, none⟩ = some (.int .i64 f) ∧ W'.cell? ⟨R, 2, none⟩ = some (.int .i64 mn) ∧ W'.cell? ⟨R, 3, none⟩ = some (.int .i64 ph) ∧ W'.cell? ⟨R, 4, none⟩ = some (.int .u64 bg) ∧ W'.cell? ⟨R, 5, none⟩ = some (.slice V vn vc) ∧ W'.cell? ⟨R, 6, none⟩ = some (.int .i64 tr) ∧ W'.cell? ⟨R, 7, none⟩ = some (ptr C))) (by kernel_rfl) ⟨HR.out.cells8.1, HR.out.cells8.2.1, HR.out.cells8.2.2.1, HR.out.cells8.2.2.2.1, HR.out.cells8.2.2.2.2.1, HR.out.cells8.2.2.2.2.2.1, HR.out.cells8.2.2.2.2.2.2.1, HR.out.cells8.2.2.2.2.2.2.2.1⟩ (fun hS => ?_)
  generalize w.drew = Wd at *
  refine wpAnyH_take (i := 0) (v := ?_) (by simp only [List.getElem?_toArray, List.getElem?_cons_succ, List.getElem?_cons_zero]; rfl) (by kernel_rfl) (by kernel_rfl) (by kernel_rfl) (fun _ _ _ h => h) (Or.inl ⟨by rfl, ?_⟩) hS ?_
  rotate_left
  · intro w' hSw; (try dsimp only at hSw); go_split_ands; go_simp; (try with_reducible rfl)
  (try simp only [Act.put, List.setIfInBounds_toArray, List.set_cons_zero, List.set_cons_succ])
  refine wpAnyH_take (i := 1) (v := ?_) (by simp only [List.getElem?_toArray, List.getElem?_cons_succ, List.getElem?_cons_zero]; rfl) (by kernel_rfl) (by kernel_rfl) (by kernel_rfl) (fun _ _ _ h => h) (Or.inl ⟨by rfl, ?_⟩) hS ?_
  rotate_left
  · intro w' hSw; (try dsimp only at hSw); go_split_ands; go_simp; (try with_reducible rfl)
  (try simp only [Act.put, List.setIfInBounds_toArray, List.set_cons_zero, List.set_cons_succ])
  refine wpAnyH_take (i := 2) (v := ?_) (by simp only [List.getElem?_toArray, List.getElem?_cons_succ, List.getElem?_cons_zero]; rfl) (by kernel_rfl) (by kernel_rfl) (by kernel_rfl) (fun _ _ _ h => h) (Or.inl ⟨by rfl, ?_⟩) hS ?_
  rotate_left
  · intro w' hSw; (try dsimp only at hSw); go_split_ands; go_simp; (try with_reducible rfl)
  (try simp only [Act.put, List.setIfInBounds_toArray, List.set_cons_zero, List.set_cons_succ])
  refine wpAnyH_take (i := 3) (v := ?_) (by simp only [List.getElem?_toArray, List.getElem?_cons_succ, List.getElem?_cons_zero]; rfl) (by kernel_rfl) (by kernel_rfl) (by kernel_rfl) (fun _ _ _ h => h) (Or.inl ⟨by rfl, ?_⟩) hS ?_
  rotate_left
  · intro w' hSw; (try dsimp only at hSw); go_split_ands; go_simp; (try with_reducible rfl)
  (try simp only [Act.put, List.setIfInBounds_toArray, List.set_cons_zero, List.set_cons_succ])
  refine wpAnyH_take (i := 4) (v := ?_) (by simp only [List.getElem?_toArray, List.getElem?_cons_succ, List.getElem?_cons_zero]; rfl) (by kernel_rfl) (by kernel_rfl) (by kernel_rfl) (fun _ _ _ h => h) (Or.inl ⟨by rfl, ?_⟩) hS ?_
  rotate_left
  · intro w' hSw; (try dsimp only at hSw); go_split_ands; go_simp; (try with_reducible rfl)
  (try simp only [Act.put, List.setIfInBounds_toArray, List.set_cons_zero, List.set_cons_succ])
  refine wpAnyH_take (i := 5) (v := ?_) (by simp only [List.getElem?_toArray, List.getElem?_cons_succ, List.getElem?_cons_zero]; rfl) (by kernel_rfl) (by kernel_rfl) (by kernel_rfl) (fun _ _ _ h => h) (Or.inl ⟨by rfl, ?_⟩) hS ?_
  rotate_left
  · intro w' hSw; (try dsimp only at hSw); go_split_ands; go_simp; (try with_reducible rfl)
  (try simp only [Act.put, List.setIfInBounds_toArray, List.set_cons_zero, List.set_cons_succ])
  refine wpAnyH_take (i := 6) (v := ?_) (by simp only [List.getElem?_toArray, List.getElem?_cons_succ, List.getElem?_cons_zero]; rfl) (by kernel_rfl) (by kernel_rfl) (by kernel_rfl) (fun _ _ _ h => h) (Or.inl ⟨by rfl, ?_⟩) hS ?_
  rotate_left
  · intro w' hSw; (try dsimp only at hSw); go_split_ands; go_simp; (try with_reducible rfl)
  (try simp only [Act.put, List.setIfInBounds_toArray, List.set_cons_zero, List.set_cons_succ])
  refine wpAnyH_take (i := 7) (v := ?_) (by simp only [List.getElem?_toArray, List.getElem?_cons_succ, List.getElem?_cons_zero]; rfl) (by kernel_rfl) (by kernel_rfl) (by kernel_rfl) (fun _ _ _ h => h) (Or.inl ⟨by rfl, ?_⟩) hS ?_
  rotate_left
  · intro w' hSw; (try dsimp only at hSw); go_split_ands; go_simp; (try with_reducible rfl)
  (try simp only [Act.put, List.setIfInBounds_toArray, List.set_cons_zero, List.set_cons_succ])
  refine wpAnyH_take (i := 8) (v := ?_) (by simp only [List.getElem?_toArray, List.getElem?_cons_succ, List.getElem?_cons_zero]; rfl) (by kernel_rfl) (by kernel_rfl) (by kernel_rfl) (fun _ _ _ h => h) (Or.inl ⟨by rfl, ?_⟩) hS ?_
  rotate_left
  · intro w' hSw; (try dsimp only at hSw); go_split_ands; go_simp; (try with_reducible rfl)
  (try simp only [Act.put, List.setIfInBounds_toArray, List.set_cons_zero, List.set_cons_succ])
  refine wpAnyH_ready (rs := [9]) (by kernel_rfl) (by simp) ?_
  refine AllReadyH.cons (by simp only [List.getElem?_toArray, List.getElem?_cons_succ, List.getElem?_cons_zero]; rfl) (fun K hK => ?_) ?_
  · skip
    go_simp
    refine (load_any C lo m l a _ HCM.out HG.out).mono ?_
    rintro e Wc9 ⟨rfl, h1, hgr⟩
    rw [← HST.out] at h1 ⊢
    dsimp only at h1 ⊢
    have hsz9 := hid hgr.size
    replace HR := hid (HR.out.grown hgr (fun e => HNE.out (by simpa using e)))
    replace HV := hid (HV.out.keptG hgr (fun v hv e => HV.out.ne_blk HCB.out tc1 v hv (by simpa using e)))
    have HGP := hid ((GrownP.ofBelow (p := fun i => i = R ∨ i = C) HB.out).trans (GrownP.ofGrown hgr (.inr rfl)))
    have H1 := hid h1
    clear h1 hgr HCM
    go_wp2_with fail
    refine hK.out _ _ ⟨HR.out.cells8.1, HR.out.cells8.2.1, HR.out.cells8.2.2.1, HR.out.cells8.2.2.2.1, HR.out.cells8.2.2.2.2.1, HR.out.cells8.2.2.2.2.2.1, HR.out.cells8.2.2.2.2.2.2.1, HR.out.cells8.2.2.2.2.2.2.2.1⟩ (fun hS' => ?_)
    clear hK K hS
    have hS := hS'
    clear hS'
    (try simp only [Act.put, List.setIfInBounds_toArray, List.set_cons_zero, List.set_cons_succ])
    refine wpAnyH_take (i := 10) (v := ?_) (by simp only [List.getElem?_toArray, List.getElem?_cons_succ, List.getElem?_cons_zero]; rfl) (by kernel_rfl) (by kernel_rfl) (by kernel_rfl) (fun _ _ _ h => h) (Or.inl ⟨by rfl, ?_⟩) hS ?_
    rotate_left
    · intro w' hSw; (try dsimp only at hSw); go_split_ands; go_simp; (try with_reducible rfl)
    (try simp only [Act.put, List.setIfInBounds_toArray, List.set_cons_zero, List.set_cons_succ])
    refine wpAnyH_done (by kernel_rfl) ?_ _
    refine NoPanic.normal ?_
    clear hS
    obtain ⟨A1, n1, c1, B1, k1, d1, hc1, ho1⟩ := H1.out.box
    have C1 := hid hc1; have O1 := hid ho1
    clear hc1 ho1
    obtain ⟨y00, y01, y02, y03, y04, y05, y06, y07, yf0⟩ := HR.out.cells8
    obtain ⟨y10, y11, y12, y13, yf1⟩ := C1.out.cells4
    rcases y with _ | _
    · skip
      go_wp2
      go_end0
      rw [HRES.out, if_neg (by decide)]
      exact ⟨rfl, ⟨⟨_, _, _, _, _, _, _, _, _, C1.out, O1.out.mono (by have := hszd.out; omega), HR.out, HV.out, (fun a' v' ha hv' => by have h1 := (O1.out.oa.blk a' ha).1; have h2 := HVL.out v' hv'; have := hszd.out; omega)⟩, by have := hszd.out; have := HGP.out.size; omega⟩, HGP.out⟩
    by_cases hx : x = bg
    · have hxb : (x == bg) = true := by simpa using hx
      have HX := hid hx
      clear hx
      go_wp2
      have HRO := HR
      clear y00 y01 y02 y03 y04 y05 y06 y07 yf0 y10 y11 y12 y13 yf1
      have hbk0 : Blk (Wc9.setCell ⟨R, 3, none⟩ (.int .i64 4)) (R) 104 #[.int .i64 a, .int .i64 f, .int .i64 mn, .int .i64 4, .int .u64 bg, .slice V vn vc, .int .i64 tr, ptr C] := HR.out.setCell 3 (.int .i64 4)
      have hgr : Wc9.grownBy (Wc9.setCell ⟨R, 3, none⟩ (.int .i64 4)) (some (R)) := (grown_set (World.grownBy.refl Wc9 (some (R))) 3 (.int .i64 4))
      replace HR := hid hbk0
      clear hbk0
      generalize Wc9.setCell ⟨R, 3, none⟩ (.int .i64 4) = Wf at *
      replace C1 := hid (C1.out.grown hgr (fun e => HNE.out (by simpa using e.symm)))
      replace O1 := hid (mown_kept O1.out HRO.out tr1 tr2 hgr)
      replace HGP := hid (HGP.out.trans (GrownP.ofGrown hgr (.inl rfl)))
      replace HV := hid (HV.out.keptG hgr (fun v hv e => HV.out.ne_blk HRO.out tr1 v hv (by simpa using e)))
      clear hgr HRO
      go_end0
      rw [HRES.out, if_pos (by trivial), if_pos HX.out]
      exact ⟨rfl, ⟨⟨_, _, _, _, _, _, _, _, _, C1.out, O1.out.mono (by have := hszd.out; omega), HR.out, HV.out, (fun a' v' ha hv' => by have h1 := (O1.out.oa.blk a' ha).1; have h2 := HVL.out v' hv'; have := hszd.out; omega)⟩, by have := hszd.out; have := HGP.out.size; omega⟩, HGP.out⟩
    have hxb : (x == bg) = false := by simpa using hx
    have HX := hid hx
    clear hx
    have hw1 : IntKind.i64.wrap (tr + 1) = tr + 1 := by rw [IntKind.wrap_i64]; omega
    go_wp2
    · skip
      have HMN := hid (show min (tr + 1) 1073741824 = 1073741824 by omega)
      have HRO := HR
      clear y00 y01 y02 y03 y04 y05 y06 y07 yf0 y10 y11 y12 y13 yf1
      have hbk0 : Blk (Wc9.setCell ⟨R, 3, none⟩ (.int .i64 0)) (R) 104 #[.int .i64 a, .int .i64 f, .int .i64 mn, .int .i64 0, .int .u64 bg, .slice V vn vc, .int .i64 tr, ptr C] := HR.out.setCell 3 (.int .i64 0)
      have hbk1 : Blk ((Wc9.setCell ⟨R, 3, none⟩ (.int .i64 0)).setCell ⟨R, 6, none⟩ (.int .i64 1073741824)) (R) 104 #[.int .i64 a, .int .i64 f, .int .i64 mn, .int .i64 0, .int .u64 bg, .slice V vn vc, .int .i64 1073741824, ptr C] := hbk0.setCell 6 (.int .i64 1073741824)
      have hgr : Wc9.grownBy ((Wc9.setCell ⟨R, 3, none⟩ (.int .i64 0)).setCell ⟨R, 6, none⟩ (.int .i64 1073741824)) (some (R)) := (grown_set (grown_set (World.grownBy.refl Wc9 (some (R))) 3 (.int .i64 0)) 6 (.int .i64 1073741824))
      replace HR := hid hbk1
      clear hbk0 hbk1
      generalize (Wc9.setCell ⟨R, 3, none⟩ (.int .i64 0)).setCell ⟨R, 6, none⟩ (.int .i64 1073741824) = Wf at *
      replace C1 := hid (C1.out.grown hgr (fun e => HNE.out (by simpa using e.symm)))
      replace O1 := hid (mown_kept O1.out HRO.out tr1 tr2 hgr)
      replace HGP := hid (HGP.out.trans (GrownP.ofGrown hgr (.inl rfl)))
      replace HV := hid (HV.out.keptG hgr (fun v hv e => HV.out.ne_blk HRO.out tr1 v hv (by simpa using e)))
      clear hgr HRO
      go_end0
      rw [HRES.out, if_pos (by trivial), if_neg HX.out, HMN.out]
      exact ⟨rfl, ⟨⟨_, _, _, _, _, _, _, _, _, C1.out, O1.out.mono (by have := hszd.out; omega), HR.out, HV.out, (fun a' v' ha hv' => by have h1 := (O1.out.oa.blk a' ha).1; have h2 := HVL.out v' hv'; have := hszd.out; omega)⟩, by have := hszd.out; have := HGP.out.size; omega⟩, HGP.out⟩
    · skip
      have HMN := hid (show min (tr + 1) 1073741824 = (tr + 1) by omega)
      have HRO := HR
      clear y00 y01 y02 y03 y04 y05 y06 y07 yf0 y10 y11 y12 y13 yf1
      have hbk0 : Blk (Wc9.setCell ⟨R, 3, none⟩ (.int .i64 0)) (R) 104 #[.int .i64 a, .int .i64 f, .int .i64 mn, .int .i64 0, .int .u64 bg, .slice V vn vc, .int .i64 tr, ptr C] := HR.out.setCell 3 (.int .i64 0)
      have hbk1 : Blk ((Wc9.setCell ⟨R, 3, none⟩ (.int .i64 0)).setCell ⟨R, 6, none⟩ (.int .i64 (tr + 1))) (R) 104 #[.int .i64 a, .int .i64 f, .int .i64 mn, .int .i64 0, .int .u64 bg, .slice V vn vc, .int .i64 (tr + 1), ptr C] := hbk0.setCell 6 (.int .i64 (tr + 1))
      have hgr : Wc9.grownBy ((Wc9.setCell ⟨R, 3, none⟩ (.int .i64 0)).setCell ⟨R, 6, none⟩ (.int .i64 (tr + 1))) (some (R)) := (grown_set (grown_set (World.grownBy.refl Wc9 (some (R))) 3 (.int .i64 0)) 6 (.int .i64 (tr + 1)))
      replace HR := hid hbk1
      clear hbk0 hbk1
      generalize (Wc9.setCell ⟨R, 3, none⟩ (.int .i64 0)).setCell ⟨R, 6, none⟩ (.int .i64 (tr + 1)) = Wf at *
      replace C1 := hid (C1.out.grown hgr (fun e => HNE.out (by simpa using e.symm)))
      replace O1 := hid (mown_kept O1.out HRO.out tr1 tr2 hgr)
      replace HGP := hid (HGP.out.trans (GrownP.ofGrown hgr (.inl rfl)))
      replace HV := hid (HV.out.keptG hgr (fun v hv e => HV.out.ne_blk HRO.out tr1 v hv (by simpa using e)))
      clear hgr HRO
      go_end0
      rw [HRES.out, if_pos (by trivial), if_neg HX.out, HMN.out]
      exact ⟨rfl, ⟨⟨_, _, _, _, _, _, _, _, _, C1.out, O1.out.mono (by have := hszd.out; omega), HR.out, HV.out, (fun a' v' ha hv' => by have h1 := (O1.out.oa.blk a' ha).1; have h2 := HVL.out v' hv'; have := hszd.out; omega)⟩, by have := hszd.out; have := HGP.out.size; omega⟩, HGP.out⟩
  exact AllReadyH.nil
end Go.Proofs.Ytnkaajkdjbdpaaa
