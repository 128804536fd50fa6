/- package seq: a write's phases. No condition but sizes. -/
import Derived.Test.YtnkaajkdjbdpaaaSq9
namespace Go.Proofs.Ytnkaajkdjbdpaaa
open Go.RowKit
/-- a write -/
structure Swr where
  a : Int
  f : Int
  vs : List Int
  ph : Int
  bg : Int
  wr : Int
@[reducible] def wrrc (a f : Int) (V : Option Addr) (n c : Nat) (ph bg wr : Int) (C : Nat) : Array Value := #[.int .i64 a, .int .i64 f, .slice V n c, .int .i64 ph, .int .u64 bg, .int .i64 wr, ptr C]
/-- a write that goes on, at a CPU -/
structure Wrm (W : World) (R C lo : Nat) (m : MSt) (l : Bool) (s : Swr) : Prop where
  box : ∃ A n c B k d V vn vc, Blk W C 102 (cpuc A n c B k d m.2.2 l) ∧ Mown W lo A n c B k d m.1 m.2.1 ∧ Blk W R 109 (wrrc s.a s.f V vn vc s.ph s.bg s.wr C) ∧ Ow u64v W lo 27 V vn vc s.vs ∧ VFar A V
  le : lo ≤ W.heap.size
def WbPost (w : World) (R C lo : Nat) (r : MSt × Bool × Swr) (e : Ending) (w' : World) : Prop := e = .returned (.tuple #[]) ∧ Wrm w' R C lo r.1 r.2.1 r.2.2 ∧ GrownP (fun i => i = R ∨ i = C) w w'
def wbegin (m : MSt) (s : Swr) : MSt × Bool × Swr :=
  if (stepM m (1, s.a, 0, 0)).2.2 = true ∧ (stepM m (1, s.a, 0, 0)).2.1 % 2 = 0 then ((stepM m (1, s.a, 0, 0)).1, false, ⟨s.a, s.f, s.vs, 1, (stepM m (1, s.a, 0, 0)).2.1, s.wr⟩)
  else ((stepM m (1, s.a, 0, 0)).1, !(stepM m (1, s.a, 0, 0)).2.2, s)
def wopen (m : MSt) (s : Swr) : MSt × Bool × Swr :=
  ((stepM m (2, s.a, 0, IntKind.u64.wrap (s.bg + 1))).1, !(stepM m (2, s.a, 0, IntKind.u64.wrap (s.bg + 1))).2.2, ⟨s.a, s.f, s.vs, 2, s.bg, s.wr⟩)
def wdata (m : MSt) (s : Swr) : MSt × Bool × Swr :=
  if (stepM m (2, s.f + s.wr, 0, s.vs[s.wr.toNat]?.getD 0)).2.2 = true then ((stepM m (2, s.f + s.wr, 0, s.vs[s.wr.toNat]?.getD 0)).1, false, ⟨s.a, s.f, s.vs, if s.wr + 1 = s.vs.length then 3 else s.ph, s.bg, s.wr + 1⟩)
  else ((stepM m (2, s.f + s.wr, 0, s.vs[s.wr.toNat]?.getD 0)).1, true, s)
def wclose (m : MSt) (s : Swr) : MSt × Bool × Swr :=
  ((stepM m (2, s.a, 0, IntKind.u64.wrap (s.bg + 2))).1, !(stepM m (2, s.a, 0, IntKind.u64.wrap (s.bg + 2))).2.2, ⟨s.a, s.f, s.vs, 4, s.bg, s.wr⟩)
theorem row_at {W : World} {lo g n c k : Nat} {xs : List Int} {x : Int} (h : Ow u64v W lo 27 (some ⟨g, 0, none⟩) n c xs) (hk : k < n) (hx : x = xs[k]?.getD 0) : W.cell? ⟨g, k, none⟩ = some (.int .u64 x) := by
  obtain ⟨g', e, _, _, hc, _⟩ := h.at_ 0 hk
  obtain rfl : g = g' := by simpa using e
  rw [hc, ← hx]
theorem tw1 : (109 : TypeId) ≠ 27 := by decide
theorem tw2 : (109 : TypeId) ≠ 4 := by decide
theorem tw3 : (109 : TypeId) ≠ 102 := by decide
set_option maxRecDepth 100000 in
set_option maxHeartbeats 8000000 in
theorem wbegin_any (R C lo : Nat) (m : MSt) (l : Bool) (s : Swr) (w : World) (h : Wrm w R C lo m l s) (hg : MGood m.1 m.2.1) :
    Calls Try.prog 64 #[ptr R] w (WbPost w R C lo (wbegin m s)) := by
  obtain ⟨⟨A, n, c, B, k, d, V, vn, vc, hc, hm, hr, hv, hfar⟩, hle⟩ := h
  obtain ⟨a, f, vs, ph, bg, wr⟩ := s
  dsimp only at hc hm hr hv
  obtain ⟨⟨m2, ⟨x, y⟩⟩, hst⟩ : ∃ r, r = stepM m (1, a, 0, 0) := ⟨_, rfl⟩
  obtain ⟨res, hres⟩ : ∃ res, res = wbegin m ⟨a, f, vs, ph, bg, wr⟩ := ⟨_, rfl⟩
  rw [← hres]
  unfold wbegin at hres
  dsimp only at hres
  rw [← hst] at hres
  dsimp only at hres
  have HRES := hid hres; have HB := hid (Below.refl w.heap.size w)
  clear hres
  have HST := hid hst; have HR := hid hr; have HV := hid hv; have HG := hid hg; have HLV := hid hv.len; have HVL := hid (fun v (e : V = some v) => (hv.blk v e).2.choose_spec.lt)
  have HCM := hid (show Cpm w C lo m l from ⟨_, _, _, _, _, _, hc, hm⟩)
  have HNE := hid (hr.ne hc tw3); have HCB := hid hc
  have hcl := hid hc.lt
  clear hst hc hm hr hv hfar hg
  go_enter Try.func64, Try.ntmps64
  go_upto_region 0 with fail
  have bx := (Below.refl w.heap.size w).drew
  replace HR := hid (HR.out.step bx); replace HV := hid (HV.out.step bx); replace HCM := hid (HCM.out.step bx); replace HCB := hid (HCB.out.step bx); replace HB := hid (below_then HB.out bx)
  clear bx
  have hszd := hid (show w.drew.heap.size = w.heap.size from rfl)
  refine wp_region_noPanic ?_
  refine wp_region_held_drew (S := (fun W' : World => W'.cell? ⟨R, 0, none⟩ = some (.int .i64 a) ∧ W'.cell? ⟨R, 1, none⟩ = some (.int .i64 f) ∧ W'.cell? ⟨R, 2, none⟩ = some (.slice V vn vc) ∧ W'.cell? ⟨R, 3, none⟩ = some (.int .i64 ph) ∧ W'.cell? ⟨R, 4, none⟩ = some (.int .u64 bg) ∧ W'.cell? ⟨R, 5, none⟩ = some (.int .i64 wr) ∧ W'.cell? ⟨R, 6, none⟩ = some (ptr C))) (by kernel_rfl) ⟨HR.out.cells7.1, HR.out.cells7.2.1, HR.out.cells7.2.2.1, HR.out.cells7.2.2.2.1, HR.out.cells7.2.2.2.2.1, HR.out.cells7.2.2.2.2.2.1, HR.out.cells7.2.2.2.2.2.2.1⟩ (fun hS => ?_)
  generalize w.drew = Wd at *
  refine wpAnyH_take (i := 0) (v := ?_) (by simp only [List.getElem?_toArray, List.getElem?_cons_succ, List.getElem?_cons_zero]; rfl) (by kernel_rfl) (by kernel_rfl) (by kernel_rfl) (fun _ _ _ h => h) (Or.inl ⟨by rfl, ?_⟩) hS ?_
  rotate_left
  · intro w' hSw; (try dsimp only at hSw); go_split_ands; go_simp; (try with_reducible rfl)
  (try simp only [Act.put, List.setIfInBounds_toArray, List.set_cons_zero, List.set_cons_succ])
  refine wpAnyH_take (i := 1) (v := ?_) (by simp only [List.getElem?_toArray, List.getElem?_cons_succ, List.getElem?_cons_zero]; rfl) (by kernel_rfl) (by kernel_rfl) (by kernel_rfl) (fun _ _ _ h => h) (Or.inl ⟨by rfl, ?_⟩) hS ?_
  rotate_left
  · intro w' hSw; (try dsimp only at hSw); go_split_ands; go_simp; (try with_reducible rfl)
  (try simp only [Act.put, List.setIfInBounds_toArray, List.set_cons_zero, List.set_cons_succ])
  refine wpAnyH_take (i := 2) (v := ?_) (by simp only [List.getElem?_toArray, List.getElem?_cons_succ, List.getElem?_cons_zero]; rfl) (by kernel_rfl) (by kernel_rfl) (by kernel_rfl) (fun _ _ _ h => h) (Or.inl ⟨by rfl, ?_⟩) hS ?_
  rotate_left
  · intro w' hSw; (try dsimp only at hSw); go_split_ands; go_simp; (try with_reducible rfl)
  (try simp only [Act.put, List.setIfInBounds_toArray, List.set_cons_zero, List.set_cons_succ])
  refine wpAnyH_take (i := 3) (v := ?_) (by simp only [List.getElem?_toArray, List.getElem?_cons_succ, List.getElem?_cons_zero]; rfl) (by kernel_rfl) (by kernel_rfl) (by kernel_rfl) (fun _ _ _ h => h) (Or.inl ⟨by rfl, ?_⟩) hS ?_
  rotate_left
  · intro w' hSw; (try dsimp only at hSw); go_split_ands; go_simp; (try with_reducible rfl)
  (try simp only [Act.put, List.setIfInBounds_toArray, List.set_cons_zero, List.set_cons_succ])
  refine wpAnyH_take (i := 4) (v := ?_) (by simp only [List.getElem?_toArray, List.getElem?_cons_succ, List.getElem?_cons_zero]; rfl) (by kernel_rfl) (by kernel_rfl) (by kernel_rfl) (fun _ _ _ h => h) (Or.inl ⟨by rfl, ?_⟩) hS ?_
  rotate_left
  · intro w' hSw; (try dsimp only at hSw); go_split_ands; go_simp; (try with_reducible rfl)
  (try simp only [Act.put, List.setIfInBounds_toArray, List.set_cons_zero, List.set_cons_succ])
  refine wpAnyH_take (i := 5) (v := ?_) (by simp only [List.getElem?_toArray, List.getElem?_cons_succ, List.getElem?_cons_zero]; rfl) (by kernel_rfl) (by kernel_rfl) (by kernel_rfl) (fun _ _ _ h => h) (Or.inl ⟨by rfl, ?_⟩) hS ?_
  rotate_left
  · intro w' hSw; (try dsimp only at hSw); go_split_ands; go_simp; (try with_reducible rfl)
  (try simp only [Act.put, List.setIfInBounds_toArray, List.set_cons_zero, List.set_cons_succ])
  refine wpAnyH_take (i := 6) (v := ?_) (by simp only [List.getElem?_toArray, List.getElem?_cons_succ, List.getElem?_cons_zero]; rfl) (by kernel_rfl) (by kernel_rfl) (by kernel_rfl) (fun _ _ _ h => h) (Or.inl ⟨by rfl, ?_⟩) hS ?_
  rotate_left
  · intro w' hSw; (try dsimp only at hSw); go_split_ands; go_simp; (try with_reducible rfl)
  (try simp only [Act.put, List.setIfInBounds_toArray, List.set_cons_zero, List.set_cons_succ])
  refine wpAnyH_take (i := 7) (v := ?_) (by simp only [List.getElem?_toArray, List.getElem?_cons_succ, List.getElem?_cons_zero]; rfl) (by kernel_rfl) (by kernel_rfl) (by kernel_rfl) (fun _ _ _ h => h) (Or.inl ⟨by rfl, ?_⟩) hS ?_
  rotate_left
  · intro w' hSw; (try dsimp only at hSw); go_split_ands; go_simp; (try with_reducible rfl)
  (try simp only [Act.put, List.setIfInBounds_toArray, List.set_cons_zero, List.set_cons_succ])
  refine wpAnyH_take (i := 8) (v := ?_) (by simp only [List.getElem?_toArray, List.getElem?_cons_succ, List.getElem?_cons_zero]; rfl) (by kernel_rfl) (by kernel_rfl) (by kernel_rfl) (fun _ _ _ h => h) (Or.inl ⟨by rfl, ?_⟩) hS ?_
  rotate_left
  · intro w' hSw; (try dsimp only at hSw); go_split_ands; go_simp; (try with_reducible rfl)
  (try simp only [Act.put, List.setIfInBounds_toArray, List.set_cons_zero, List.set_cons_succ])
  refine wpAnyH_ready (rs := [9]) (by kernel_rfl) (by simp) ?_
  refine AllReadyH.cons (by simp only [List.getElem?_toArray, List.getElem?_cons_succ, List.getElem?_cons_zero]; rfl) (fun K hK => ?_) ?_
  · skip
    go_simp
    refine (load_any C lo m l a _ HCM.out HG.out).mono ?_
    rintro e Wc9 ⟨rfl, h1, hgr⟩
    rw [← HST.out] at h1 ⊢
    dsimp only at h1 ⊢
    have hsz9 := hid hgr.size
    replace HR := hid (HR.out.grown hgr (fun e => HNE.out (by simpa using e)))
    replace HV := hid (HV.out.keptG hgr (fun v hv e => HV.out.ne_blk HCB.out tc1 v hv (by simpa using e)))
    have HGP := hid ((GrownP.ofBelow (p := fun i => i = R ∨ i = C) HB.out).trans (GrownP.ofGrown hgr (.inr rfl)))
    have H1 := hid h1
    clear h1 hgr HCM
    go_wp2_with fail
    refine hK.out _ _ ⟨HR.out.cells7.1, HR.out.cells7.2.1, HR.out.cells7.2.2.1, HR.out.cells7.2.2.2.1, HR.out.cells7.2.2.2.2.1, HR.out.cells7.2.2.2.2.2.1, HR.out.cells7.2.2.2.2.2.2.1⟩ (fun hS' => ?_)
    clear hK K hS
    have hS := hS'
    clear hS'
    (try simp only [Act.put, List.setIfInBounds_toArray, List.set_cons_zero, List.set_cons_succ])
    refine wpAnyH_take (i := 10) (v := ?_) (by simp only [List.getElem?_toArray, List.getElem?_cons_succ, List.getElem?_cons_zero]; rfl) (by kernel_rfl) (by kernel_rfl) (by kernel_rfl) (fun _ _ _ h => h) (Or.inl ⟨by rfl, ?_⟩) hS ?_
    rotate_left
    · intro w' hSw; (try dsimp only at hSw); go_split_ands; go_simp; (try with_reducible rfl)
    (try simp only [Act.put, List.setIfInBounds_toArray, List.set_cons_zero, List.set_cons_succ])
    refine wpAnyH_done (by kernel_rfl) ?_ _
    refine NoPanic.normal ?_
    clear hS
    obtain ⟨A1, n1, c1, B1, k1, d1, hc1, ho1⟩ := H1.out.box
    have C1 := hid hc1; have O1 := hid ho1
    clear hc1 ho1
    obtain ⟨y00, y01, y02, y03, y04, y05, y06, yf0⟩ := HR.out.cells7
    obtain ⟨y10, y11, y12, y13, yf1⟩ := C1.out.cells4
    rcases y with _ | _
    · skip
      go_wp2
      go_end0
      rw [HRES.out, if_neg (fun h => by cases h.1)]
      exact ⟨rfl, ⟨⟨_, _, _, _, _, _, _, _, _, C1.out, O1.out.mono (by have := hszd.out; omega), HR.out, HV.out, (fun a' v' ha hv' => by have h1 := (O1.out.oa.blk a' ha).1; have h2 := HVL.out v' hv'; have := hszd.out; omega)⟩, by have := hszd.out; have := HGP.out.size; omega⟩, HGP.out⟩
    go_wp2_with fail
    refine (even_any x _).mono ?_
    rintro e w' ⟨rfl, rfl⟩
    by_cases hx : x % 2 = 0
    rotate_left
    · rw [decide_eq_false hx]
      have HX := hid hx
      clear hx
      go_wp2
      go_end0
      rw [HRES.out, if_neg (fun h => HX.out h.2)]
      exact ⟨rfl, ⟨⟨_, _, _, _, _, _, _, _, _, C1.out, O1.out.mono (by have := hszd.out; omega), HR.out, HV.out, (fun a' v' ha hv' => by have h1 := (O1.out.oa.blk a' ha).1; have h2 := HVL.out v' hv'; have := hszd.out; omega)⟩, by have := hszd.out; have := HGP.out.size; omega⟩, HGP.out⟩
    rw [decide_eq_true hx]
    have HX := hid hx
    clear hx
    go_wp2
    clear y00 y01 y02 y03 y04 y05 y06 yf0 y10 y11 y12 y13 yf1
    have HRO := HR
    have hbk0 : Blk (Wc9.setCell ⟨R, 4, none⟩ (.int .u64 x)) (R) 109 #[.int .i64 a, .int .i64 f, .slice V vn vc, .int .i64 ph, .int .u64 x, .int .i64 wr, ptr C] := HR.out.setCell 4 (.int .u64 x)
    have hbk1 : Blk ((Wc9.setCell ⟨R, 4, none⟩ (.int .u64 x)).setCell ⟨R, 3, none⟩ (.int .i64 1)) (R) 109 #[.int .i64 a, .int .i64 f, .slice V vn vc, .int .i64 1, .int .u64 x, .int .i64 wr, ptr C] := hbk0.setCell 3 (.int .i64 1)
    have hgr : Wc9.grownBy ((Wc9.setCell ⟨R, 4, none⟩ (.int .u64 x)).setCell ⟨R, 3, none⟩ (.int .i64 1)) (some (R)) := (grown_set (grown_set (World.grownBy.refl Wc9 (some (R))) 4 (.int .u64 x)) 3 (.int .i64 1))
    replace HR := hid hbk1
    clear hbk0 hbk1
    generalize (Wc9.setCell ⟨R, 4, none⟩ (.int .u64 x)).setCell ⟨R, 3, none⟩ (.int .i64 1) = Wf at *
    replace C1 := hid (C1.out.grown hgr (fun e => HNE.out (by simpa using e.symm)))
    replace O1 := hid (mown_kept O1.out HRO.out tw1 tw2 hgr)
    replace HGP := hid (HGP.out.trans (GrownP.ofGrown hgr (.inl rfl)))
    replace HV := hid (HV.out.keptG hgr (fun v hv e => HV.out.ne_blk HRO.out tw1 v hv (by simpa using e)))
    clear hgr HRO
    go_end0
    rw [HRES.out, if_pos ⟨(by trivial), HX.out⟩]
    exact ⟨rfl, ⟨⟨_, _, _, _, _, _, _, _, _, C1.out, O1.out.mono (by have := hszd.out; omega), HR.out, HV.out, (fun a' v' ha hv' => by have h1 := (O1.out.oa.blk a' ha).1; have h2 := HVL.out v' hv'; have := hszd.out; omega)⟩, by have := hszd.out; have := HGP.out.size; omega⟩, HGP.out⟩
  exact AllReadyH.nil
set_option maxRecDepth 100000 in
set_option maxHeartbeats 8000000 in
theorem wopen_any (R C lo : Nat) (m : MSt) (l : Bool) (s : Swr) (w : World) (h : Wrm w R C lo m l s) (hg : MGood m.1 m.2.1) :
    Calls Try.prog 65 #[ptr R] w (WbPost w R C lo (wopen m s)) := by
  obtain ⟨⟨A, n, c, B, k, d, V, vn, vc, hc, hm, hr, hv, hfar⟩, hle⟩ := h
  obtain ⟨a, f, vs, ph, bg, wr⟩ := s
  dsimp only at hc hm hr hv
  obtain ⟨⟨m2, ⟨x, y⟩⟩, hst⟩ : ∃ r, r = stepM m (2, a, 0, IntKind.u64.wrap (bg + 1)) := ⟨_, rfl⟩
  obtain ⟨res, hres⟩ : ∃ res, res = wopen m ⟨a, f, vs, ph, bg, wr⟩ := ⟨_, rfl⟩
  rw [← hres]
  unfold wopen at hres
  dsimp only at hres
  rw [← hst] at hres
  dsimp only at hres
  have HRES := hid hres; have HB := hid (Below.refl w.heap.size w)
  clear hres
  have HST := hid hst; have HR := hid hr; have HV := hid hv; have HG := hid hg; have HLV := hid hv.len; have HVL := hid (fun v (e : V = some v) => (hv.blk v e).2.choose_spec.lt)
  have HCM := hid (show Cpm w C lo m l from ⟨_, _, _, _, _, _, hc, hm⟩)
  have HNE := hid (hr.ne hc tw3); have HCB := hid hc
  have hcl := hid hc.lt
  clear hst hc hm hr hv hfar hg
  obtain ⟨b2, hb2⟩ : ∃ b2, b2 = IntKind.u64.wrap (bg + 1) := ⟨_, rfl⟩
  have hst := HST.out
  rw [← hb2] at hst
  replace HST := hid hst
  have hwb := hb2.symm
  clear hst hb2
  go_enter Try.func65, Try.ntmps65
  go_upto_region 0 with fail
  have bx := (Below.refl w.heap.size w).drew
  replace HR := hid (HR.out.step bx); replace HV := hid (HV.out.step bx); replace HCM := hid (HCM.out.step bx); replace HCB := hid (HCB.out.step bx); replace HB := hid (below_then HB.out bx)
  clear bx
  have hszd := hid (show w.drew.heap.size = w.heap.size from rfl)
  refine wp_region_noPanic ?_
  refine wp_region_held_drew (S := (fun W' : World => W'.cell? ⟨R, 0, none⟩ = some (.int .i64 a) ∧ W'.cell? ⟨R, 1, none⟩ = some (.int .i64 f) ∧ W'.cell? ⟨R, 2, none⟩ = some (.slice V vn vc) ∧ W'.cell? ⟨R, 3, none⟩ = some (.int .i64 ph) ∧ W'.cell? ⟨R, 4, none⟩ = some (.int .u64 bg) ∧ W'.cell? ⟨R, 5, none⟩ = some (.int .i64 wr) ∧ W'.cell? ⟨R, 6, none⟩ = some (ptr C))) (by kernel_rfl) ⟨HR.out.cells7.1, HR.out.cells7.2.1, HR.out.cells7.2.2.1, HR.out.cells7.2.2.2.1, HR.out.cells7.2.2.2.2.1, HR.out.cells7.2.2.2.2.2.1, HR.out.cells7.2.2.2.2.2.2.1⟩ (fun hS => ?_)
  generalize w.drew = Wd at *
  refine wpAnyH_take (i := 0) (v := ?_) (by simp only [List.getElem?_toArray, List.getElem?_cons_succ, List.getElem?_cons_zero]; rfl) (by kernel_rfl) (by kernel_rfl) (by kernel_rfl) (fun _ _ _ h => h) (Or.inl ⟨by rfl, ?_⟩) hS ?_
  rotate_left
  · intro w' hSw; (try dsimp only at hSw); go_split_ands; go_simp; (try with_reducible rfl)
  (try simp only [Act.put, List.setIfInBounds_toArray, List.set_cons_zero, List.set_cons_succ])
  refine wpAnyH_take (i := 1) (v := ?_) (by simp only [List.getElem?_toArray, List.getElem?_cons_succ, List.getElem?_cons_zero]; rfl) (by kernel_rfl) (by kernel_rfl) (by kernel_rfl) (fun _ _ _ h => h) (Or.inl ⟨by rfl, ?_⟩) hS ?_
  rotate_left
  · intro w' hSw; (try dsimp only at hSw); go_split_ands; go_simp; (try with_reducible rfl)
  (try simp only [Act.put, List.setIfInBounds_toArray, List.set_cons_zero, List.set_cons_succ])
  refine wpAnyH_take (i := 2) (v := ?_) (by simp only [List.getElem?_toArray, List.getElem?_cons_succ, List.getElem?_cons_zero]; rfl) (by kernel_rfl) (by kernel_rfl) (by kernel_rfl) (fun _ _ _ h => h) (Or.inl ⟨by rfl, ?_⟩) hS ?_
  rotate_left
  · intro w' hSw; (try dsimp only at hSw); go_split_ands; go_simp; (try with_reducible rfl)
  (try simp only [Act.put, List.setIfInBounds_toArray, List.set_cons_zero, List.set_cons_succ])
  refine wpAnyH_take (i := 3) (v := ?_) (by simp only [List.getElem?_toArray, List.getElem?_cons_succ, List.getElem?_cons_zero]; rfl) (by kernel_rfl) (by kernel_rfl) (by kernel_rfl) (fun _ _ _ h => h) (Or.inl ⟨by rfl, ?_⟩) hS ?_
  rotate_left
  · intro w' hSw; (try dsimp only at hSw); go_split_ands; go_simp; (try with_reducible rfl)
  (try simp only [Act.put, List.setIfInBounds_toArray, List.set_cons_zero, List.set_cons_succ])
  refine wpAnyH_take (i := 4) (v := ?_) (by simp only [List.getElem?_toArray, List.getElem?_cons_succ, List.getElem?_cons_zero]; rfl) (by kernel_rfl) (by kernel_rfl) (by kernel_rfl) (fun _ _ _ h => h) (Or.inl ⟨by rfl, ?_⟩) hS ?_
  rotate_left
  · intro w' hSw; (try dsimp only at hSw); go_split_ands; go_simp; (try with_reducible rfl)
  (try simp only [Act.put, List.setIfInBounds_toArray, List.set_cons_zero, List.set_cons_succ])
  refine wpAnyH_take (i := 5) (v := ?_) (by simp only [List.getElem?_toArray, List.getElem?_cons_succ, List.getElem?_cons_zero]; rfl) (by kernel_rfl) (by kernel_rfl) (by kernel_rfl) (fun _ _ _ h => h) (Or.inl ⟨by rfl, ?_⟩) hS ?_
  rotate_left
  · intro w' hSw; (try dsimp only at hSw); go_split_ands; go_simp; (try with_reducible rfl)
  (try simp only [Act.put, List.setIfInBounds_toArray, List.set_cons_zero, List.set_cons_succ])
  refine wpAnyH_take (i := 6) (v := ?_) (by simp only [List.getElem?_toArray, List.getElem?_cons_succ, List.getElem?_cons_zero]; rfl) (by kernel_rfl) (by kernel_rfl) (by kernel_rfl) (fun _ _ _ h => h) (Or.inl ⟨by rfl, ?_⟩) hS ?_
  rotate_left
  · intro w' hSw; (try dsimp only at hSw); go_split_ands; go_simp; (try with_reducible rfl)
  (try simp only [Act.put, List.setIfInBounds_toArray, List.set_cons_zero, List.set_cons_succ])
  refine wpAnyH_take (i := 7) (v := ?_) (by simp only [List.getElem?_toArray, List.getElem?_cons_succ, List.getElem?_cons_zero]; rfl) (by kernel_rfl) (by kernel_rfl) (by kernel_rfl) (fun _ _ _ h => h) (Or.inl ⟨by rfl, ?_⟩) hS ?_
  rotate_left
  · intro w' hSw; (try dsimp only at hSw); go_split_ands; go_simp; (try with_reducible rfl)
  (try simp only [Act.put, List.setIfInBounds_toArray, List.set_cons_zero, List.set_cons_succ])
  refine wpAnyH_take (i := 8) (v := ?_) (by simp only [List.getElem?_toArray, List.getElem?_cons_succ, List.getElem?_cons_zero]; rfl) (by kernel_rfl) (by kernel_rfl) (by kernel_rfl) (fun _ _ _ h => h) (Or.inl ⟨by rfl, ?_⟩) hS ?_
  rotate_left
  · intro w' hSw; (try dsimp only at hSw); go_split_ands; go_simp; (try with_reducible rfl)
  (try simp only [Act.put, List.setIfInBounds_toArray, List.set_cons_zero, List.set_cons_succ])
  refine wpAnyH_take (i := 9) (v := ?_) (by simp only [List.getElem?_toArray, List.getElem?_cons_succ, List.getElem?_cons_zero]; rfl) (by kernel_rfl) (by kernel_rfl) (by kernel_rfl) (fun _ _ _ h => h) (Or.inl ⟨by rfl, ?_⟩) hS ?_
  rotate_left
  · intro w' hSw; (try dsimp only at hSw); go_split_ands; go_simp; (try with_reducible rfl)
  (try simp only [Act.put, List.setIfInBounds_toArray, List.set_cons_zero, List.set_cons_succ])
  refine wpAnyH_take (i := 10) (v := ?_) (by simp only [List.getElem?_toArray, List.getElem?_cons_succ, List.getElem?_cons_zero]; rfl) (by kernel_rfl) (by kernel_rfl) (by kernel_rfl) (fun _ _ _ h => h) (Or.inl ⟨by rfl, ?_⟩) hS ?_
  rotate_left
  · intro w' hSw; (try dsimp only at hSw); go_split_ands; go_simp; (try with_reducible rfl)
  (try simp only [Act.put, List.setIfInBounds_toArray, List.set_cons_zero, List.set_cons_succ])
  refine wpAnyH_take (i := 11) (v := ?_) (by simp only [List.getElem?_toArray, List.getElem?_cons_succ, List.getElem?_cons_zero]; rfl) (by kernel_rfl) (by kernel_rfl) (by kernel_rfl) (fun _ _ _ h => h) (Or.inl ⟨by rfl, ?_⟩) hS ?_
  rotate_left
  · intro w' hSw; (try dsimp only at hSw); go_split_ands; go_simp; (try with_reducible rfl)
  (try simp only [Act.put, List.setIfInBounds_toArray, List.set_cons_zero, List.set_cons_succ])
  refine wpAnyH_take (i := 12) (v := ?_) (by simp only [List.getElem?_toArray, List.getElem?_cons_succ, List.getElem?_cons_zero]; rfl) (by kernel_rfl) (by kernel_rfl) (by kernel_rfl) (fun _ _ _ h => h) (Or.inl ⟨by rfl, ?_⟩) hS ?_
  rotate_left
  · intro w' hSw; (try dsimp only at hSw); go_split_ands; go_simp; (try with_reducible rfl)
  (try simp only [Act.put, List.setIfInBounds_toArray, List.set_cons_zero, List.set_cons_succ])
  refine wpAnyH_take (i := 13) (v := ?_) (by simp only [List.getElem?_toArray, List.getElem?_cons_succ, List.getElem?_cons_zero]; rfl) (by kernel_rfl) (by kernel_rfl) (by kernel_rfl) (fun _ _ _ h => h) (Or.inl ⟨by rfl, ?_⟩) hS ?_
  rotate_left
  · intro w' hSw; (try dsimp only at hSw); go_split_ands; go_simp; (try with_reducible rfl)
  (try simp only [Act.put, List.setIfInBounds_toArray, List.set_cons_zero, List.set_cons_succ])
  refine wpAnyH_take (i := 14) (v := ?_) (by simp only [List.getElem?_toArray, List.getElem?_cons_succ, List.getElem?_cons_zero]; rfl) (by kernel_rfl) (by kernel_rfl) (by kernel_rfl) (fun _ _ _ h => h) (Or.inl ⟨by rfl, ?_⟩) hS ?_
  rotate_left
  · intro w' hSw; (try dsimp only at hSw); go_split_ands; go_simp; (try with_reducible rfl)
  (try simp only [Act.put, List.setIfInBounds_toArray, List.set_cons_zero, List.set_cons_succ])
  refine wpAnyH_ready (rs := [15]) (by kernel_rfl) (by simp) ?_
  refine AllReadyH.cons (by simp only [List.getElem?_toArray, List.getElem?_cons_succ, List.getElem?_cons_zero]; rfl) (fun K hK => ?_) ?_
  · skip
    go_simp
    refine (store_any C lo m l a b2 _ HCM.out HG.out).mono ?_
    rintro e Wc15 ⟨rfl, h1, hgr⟩
    rw [← HST.out] at h1
    dsimp only at h1
    have hsz9 := hid hgr.size
    replace HR := hid (HR.out.grown hgr (fun e => HNE.out (by simpa using e)))
    replace HV := hid (HV.out.keptG hgr (fun v hv e => HV.out.ne_blk HCB.out tc1 v hv (by simpa using e)))
    have HGP := hid ((GrownP.ofBelow (p := fun i => i = R ∨ i = C) HB.out).trans (GrownP.ofGrown hgr (.inr rfl)))
    have H1 := hid h1
    clear h1 hgr HCM
    go_wp2_with fail
    refine hK.out _ _ ⟨HR.out.cells7.1, HR.out.cells7.2.1, HR.out.cells7.2.2.1, HR.out.cells7.2.2.2.1, HR.out.cells7.2.2.2.2.1, HR.out.cells7.2.2.2.2.2.1, HR.out.cells7.2.2.2.2.2.2.1⟩ (fun hS' => ?_)
    clear hK K hS
    have hS := hS'
    clear hS'
    (try simp only [Act.put, List.setIfInBounds_toArray, List.set_cons_zero, List.set_cons_succ])
    refine wpAnyH_done (by kernel_rfl) ?_ _
    refine NoPanic.normal ?_
    clear hS
    obtain ⟨A1, n1, c1, B1, k1, d1, hc1, ho1⟩ := H1.out.box
    have C1 := hid hc1; have O1 := hid ho1
    clear hc1 ho1
    obtain ⟨y00, y01, y02, y03, y04, y05, y06, yf0⟩ := HR.out.cells7
    obtain ⟨y10, y11, y12, y13, yf1⟩ := C1.out.cells4
    go_wp2
    clear y00 y01 y02 y03 y04 y05 y06 yf0 y10 y11 y12 y13 yf1
    have HRO := HR
    have hbk0 : Blk (Wc15.setCell ⟨R, 3, none⟩ (.int .i64 2)) (R) 109 #[.int .i64 a, .int .i64 f, .slice V vn vc, .int .i64 2, .int .u64 bg, .int .i64 wr, ptr C] := HR.out.setCell 3 (.int .i64 2)
    have hgr : Wc15.grownBy (Wc15.setCell ⟨R, 3, none⟩ (.int .i64 2)) (some (R)) := (grown_set (World.grownBy.refl Wc15 (some (R))) 3 (.int .i64 2))
    replace HR := hid hbk0
    clear hbk0
    generalize Wc15.setCell ⟨R, 3, none⟩ (.int .i64 2) = Wf at *
    replace C1 := hid (C1.out.grown hgr (fun e => HNE.out (by simpa using e.symm)))
    replace O1 := hid (mown_kept O1.out HRO.out tw1 tw2 hgr)
    replace HGP := hid (HGP.out.trans (GrownP.ofGrown hgr (.inl rfl)))
    replace HV := hid (HV.out.keptG hgr (fun v hv e => HV.out.ne_blk HRO.out tw1 v hv (by simpa using e)))
    clear hgr HRO
    go_end0
    rw [HRES.out]
    exact ⟨rfl, ⟨⟨_, _, _, _, _, _, _, _, _, C1.out, O1.out.mono (by have := hszd.out; omega), HR.out, HV.out, (fun a' v' ha hv' => by have h1 := (O1.out.oa.blk a' ha).1; have h2 := HVL.out v' hv'; have := hszd.out; omega)⟩, by have := hszd.out; have := HGP.out.size; omega⟩, HGP.out⟩
  exact AllReadyH.nil
set_option maxRecDepth 100000 in
set_option maxHeartbeats 8000000 in
theorem wclose_any (R C lo : Nat) (m : MSt) (l : Bool) (s : Swr) (w : World) (h : Wrm w R C lo m l s) (hg : MGood m.1 m.2.1) :
    Calls Try.prog 67 #[ptr R] w (WbPost w R C lo (wclose m s)) := by
  obtain ⟨⟨A, n, c, B, k, d, V, vn, vc, hc, hm, hr, hv, hfar⟩, hle⟩ := h
  obtain ⟨a, f, vs, ph, bg, wr⟩ := s
  dsimp only at hc hm hr hv
  obtain ⟨⟨m2, ⟨x, y⟩⟩, hst⟩ : ∃ r, r = stepM m (2, a, 0, IntKind.u64.wrap (bg + 2)) := ⟨_, rfl⟩
  obtain ⟨res, hres⟩ : ∃ res, res = wclose m ⟨a, f, vs, ph, bg, wr⟩ := ⟨_, rfl⟩
  rw [← hres]
  unfold wclose at hres
  dsimp only at hres
  rw [← hst] at hres
  dsimp only at hres
  have HRES := hid hres; have HB := hid (Below.refl w.heap.size w)
  clear hres
  have HST := hid hst; have HR := hid hr; have HV := hid hv; have HG := hid hg; have HLV := hid hv.len; have HVL := hid (fun v (e : V = some v) => (hv.blk v e).2.choose_spec.lt)
  have HCM := hid (show Cpm w C lo m l from ⟨_, _, _, _, _, _, hc, hm⟩)
  have HNE := hid (hr.ne hc tw3); have HCB := hid hc
  have hcl := hid hc.lt
  clear hst hc hm hr hv hfar hg
  obtain ⟨b2, hb2⟩ : ∃ b2, b2 = IntKind.u64.wrap (bg + 2) := ⟨_, rfl⟩
  have hst := HST.out
  rw [← hb2] at hst
  replace HST := hid hst
  have hwb := hb2.symm
  clear hst hb2
  go_enter Try.func67, Try.ntmps67
  go_upto_region 0 with fail
  have bx := (Below.refl w.heap.size w).drew
  replace HR := hid (HR.out.step bx); replace HV := hid (HV.out.step bx); replace HCM := hid (HCM.out.step bx); replace HCB := hid (HCB.out.step bx); replace HB := hid (below_then HB.out bx)
  clear bx
  have hszd := hid (show w.drew.heap.size = w.heap.size from rfl)
  refine wp_region_noPanic ?_
  refine wp_region_held_drew (S := (fun W' : World => W'.cell? ⟨R, 0, none⟩ = some (.int .i64 a) ∧ W'.cell? ⟨R, 1, none⟩ = some (.int .i64 f) ∧ W'.cell? ⟨R, 2, none⟩ = some (.slice V vn vc) ∧ W'.cell? ⟨R, 3, none⟩ = some (.int .i64 ph) ∧ W'.cell? ⟨R, 4, none⟩ = some (.int .u64 bg) ∧ W'.cell? ⟨R, 5, none⟩ = some (.int .i64 wr) ∧ W'.cell? ⟨R, 6, none⟩ = some (ptr C))) (by kernel_rfl) ⟨HR.out.cells7.1, HR.out.cells7.2.1, HR.out.cells7.2.2.1, HR.out.cells7.2.2.2.1, HR.out.cells7.2.2.2.2.1, HR.out.cells7.2.2.2.2.2.1, HR.out.cells7.2.2.2.2.2.2.1⟩ (fun hS => ?_)
  generalize w.drew = Wd at *
  refine wpAnyH_take (i := 0) (v := ?_) (by simp only [List.getElem?_toArray, List.getElem?_cons_succ, List.getElem?_cons_zero]; rfl) (by kernel_rfl) (by kernel_rfl) (by kernel_rfl) (fun _ _ _ h => h) (Or.inl ⟨by rfl, ?_⟩) hS ?_
  rotate_left
  · intro w' hSw; (try dsimp only at hSw); go_split_ands; go_simp; (try with_reducible rfl)
  (try simp only [Act.put, List.setIfInBounds_toArray, List.set_cons_zero, List.set_cons_succ])
  refine wpAnyH_take (i := 1) (v := ?_) (by simp only [List.getElem?_toArray, List.getElem?_cons_succ, List.getElem?_cons_zero]; rfl) (by kernel_rfl) (by kernel_rfl) (by kernel_rfl) (fun _ _ _ h => h) (Or.inl ⟨by rfl, ?_⟩) hS ?_
  rotate_left
  · intro w' hSw; (try dsimp only at hSw); go_split_ands; go_simp; (try with_reducible rfl)
  (try simp only [Act.put, List.setIfInBounds_toArray, List.set_cons_zero, List.set_cons_succ])
  refine wpAnyH_take (i := 2) (v := ?_) (by simp only [List.getElem?_toArray, List.getElem?_cons_succ, List.getElem?_cons_zero]; rfl) (by kernel_rfl) (by kernel_rfl) (by kernel_rfl) (fun _ _ _ h => h) (Or.inl ⟨by rfl, ?_⟩) hS ?_
  rotate_left
  · intro w' hSw; (try dsimp only at hSw); go_split_ands; go_simp; (try with_reducible rfl)
  (try simp only [Act.put, List.setIfInBounds_toArray, List.set_cons_zero, List.set_cons_succ])
  refine wpAnyH_take (i := 3) (v := ?_) (by simp only [List.getElem?_toArray, List.getElem?_cons_succ, List.getElem?_cons_zero]; rfl) (by kernel_rfl) (by kernel_rfl) (by kernel_rfl) (fun _ _ _ h => h) (Or.inl ⟨by rfl, ?_⟩) hS ?_
  rotate_left
  · intro w' hSw; (try dsimp only at hSw); go_split_ands; go_simp; (try with_reducible rfl)
  (try simp only [Act.put, List.setIfInBounds_toArray, List.set_cons_zero, List.set_cons_succ])
  refine wpAnyH_take (i := 4) (v := ?_) (by simp only [List.getElem?_toArray, List.getElem?_cons_succ, List.getElem?_cons_zero]; rfl) (by kernel_rfl) (by kernel_rfl) (by kernel_rfl) (fun _ _ _ h => h) (Or.inl ⟨by rfl, ?_⟩) hS ?_
  rotate_left
  · intro w' hSw; (try dsimp only at hSw); go_split_ands; go_simp; (try with_reducible rfl)
  (try simp only [Act.put, List.setIfInBounds_toArray, List.set_cons_zero, List.set_cons_succ])
  refine wpAnyH_take (i := 5) (v := ?_) (by simp only [List.getElem?_toArray, List.getElem?_cons_succ, List.getElem?_cons_zero]; rfl) (by kernel_rfl) (by kernel_rfl) (by kernel_rfl) (fun _ _ _ h => h) (Or.inl ⟨by rfl, ?_⟩) hS ?_
  rotate_left
  · intro w' hSw; (try dsimp only at hSw); go_split_ands; go_simp; (try with_reducible rfl)
  (try simp only [Act.put, List.setIfInBounds_toArray, List.set_cons_zero, List.set_cons_succ])
  refine wpAnyH_take (i := 6) (v := ?_) (by simp only [List.getElem?_toArray, List.getElem?_cons_succ, List.getElem?_cons_zero]; rfl) (by kernel_rfl) (by kernel_rfl) (by kernel_rfl) (fun _ _ _ h => h) (Or.inl ⟨by rfl, ?_⟩) hS ?_
  rotate_left
  · intro w' hSw; (try dsimp only at hSw); go_split_ands; go_simp; (try with_reducible rfl)
  (try simp only [Act.put, List.setIfInBounds_toArray, List.set_cons_zero, List.set_cons_succ])
  refine wpAnyH_take (i := 7) (v := ?_) (by simp only [List.getElem?_toArray, List.getElem?_cons_succ, List.getElem?_cons_zero]; rfl) (by kernel_rfl) (by kernel_rfl) (by kernel_rfl) (fun _ _ _ h => h) (Or.inl ⟨by rfl, ?_⟩) hS ?_
  rotate_left
  · intro w' hSw; (try dsimp only at hSw); go_split_ands; go_simp; (try with_reducible rfl)
  (try simp only [Act.put, List.setIfInBounds_toArray, List.set_cons_zero, List.set_cons_succ])
  refine wpAnyH_take (i := 8) (v := ?_) (by simp only [List.getElem?_toArray, List.getElem?_cons_succ, List.getElem?_cons_zero]; rfl) (by kernel_rfl) (by kernel_rfl) (by kernel_rfl) (fun _ _ _ h => h) (Or.inl ⟨by rfl, ?_⟩) hS ?_
  rotate_left
  · intro w' hSw; (try dsimp only at hSw); go_split_ands; go_simp; (try with_reducible rfl)
  (try simp only [Act.put, List.setIfInBounds_toArray, List.set_cons_zero, List.set_cons_succ])
  refine wpAnyH_take (i := 9) (v := ?_) (by simp only [List.getElem?_toArray, List.getElem?_cons_succ, List.getElem?_cons_zero]; rfl) (by kernel_rfl) (by kernel_rfl) (by kernel_rfl) (fun _ _ _ h => h) (Or.inl ⟨by rfl, ?_⟩) hS ?_
  rotate_left
  · intro w' hSw; (try dsimp only at hSw); go_split_ands; go_simp; (try with_reducible rfl)
  (try simp only [Act.put, List.setIfInBounds_toArray, List.set_cons_zero, List.set_cons_succ])
  refine wpAnyH_take (i := 10) (v := ?_) (by simp only [List.getElem?_toArray, List.getElem?_cons_succ, List.getElem?_cons_zero]; rfl) (by kernel_rfl) (by kernel_rfl) (by kernel_rfl) (fun _ _ _ h => h) (Or.inl ⟨by rfl, ?_⟩) hS ?_
  rotate_left
  · intro w' hSw; (try dsimp only at hSw); go_split_ands; go_simp; (try with_reducible rfl)
  (try simp only [Act.put, List.setIfInBounds_toArray, List.set_cons_zero, List.set_cons_succ])
  refine wpAnyH_take (i := 11) (v := ?_) (by simp only [List.getElem?_toArray, List.getElem?_cons_succ, List.getElem?_cons_zero]; rfl) (by kernel_rfl) (by kernel_rfl) (by kernel_rfl) (fun _ _ _ h => h) (Or.inl ⟨by rfl, ?_⟩) hS ?_
  rotate_left
  · intro w' hSw; (try dsimp only at hSw); go_split_ands; go_simp; (try with_reducible rfl)
  (try simp only [Act.put, List.setIfInBounds_toArray, List.set_cons_zero, List.set_cons_succ])
  refine wpAnyH_take (i := 12) (v := ?_) (by simp only [List.getElem?_toArray, List.getElem?_cons_succ, List.getElem?_cons_zero]; rfl) (by kernel_rfl) (by kernel_rfl) (by kernel_rfl) (fun _ _ _ h => h) (Or.inl ⟨by rfl, ?_⟩) hS ?_
  rotate_left
  · intro w' hSw; (try dsimp only at hSw); go_split_ands; go_simp; (try with_reducible rfl)
  (try simp only [Act.put, List.setIfInBounds_toArray, List.set_cons_zero, List.set_cons_succ])
  refine wpAnyH_take (i := 13) (v := ?_) (by simp only [List.getElem?_toArray, List.getElem?_cons_succ, List.getElem?_cons_zero]; rfl) (by kernel_rfl) (by kernel_rfl) (by kernel_rfl) (fun _ _ _ h => h) (Or.inl ⟨by rfl, ?_⟩) hS ?_
  rotate_left
  · intro w' hSw; (try dsimp only at hSw); go_split_ands; go_simp; (try with_reducible rfl)
  (try simp only [Act.put, List.setIfInBounds_toArray, List.set_cons_zero, List.set_cons_succ])
  refine wpAnyH_take (i := 14) (v := ?_) (by simp only [List.getElem?_toArray, List.getElem?_cons_succ, List.getElem?_cons_zero]; rfl) (by kernel_rfl) (by kernel_rfl) (by kernel_rfl) (fun _ _ _ h => h) (Or.inl ⟨by rfl, ?_⟩) hS ?_
  rotate_left
  · intro w' hSw; (try dsimp only at hSw); go_split_ands; go_simp; (try with_reducible rfl)
  (try simp only [Act.put, List.setIfInBounds_toArray, List.set_cons_zero, List.set_cons_succ])
  refine wpAnyH_ready (rs := [15]) (by kernel_rfl) (by simp) ?_
  refine AllReadyH.cons (by simp only [List.getElem?_toArray, List.getElem?_cons_succ, List.getElem?_cons_zero]; rfl) (fun K hK => ?_) ?_
  · skip
    go_simp
    refine (store_any C lo m l a b2 _ HCM.out HG.out).mono ?_
    rintro e Wc15 ⟨rfl, h1, hgr⟩
    rw [← HST.out] at h1
    dsimp only at h1
    have hsz9 := hid hgr.size
    replace HR := hid (HR.out.grown hgr (fun e => HNE.out (by simpa using e)))
    replace HV := hid (HV.out.keptG hgr (fun v hv e => HV.out.ne_blk HCB.out tc1 v hv (by simpa using e)))
    have HGP := hid ((GrownP.ofBelow (p := fun i => i = R ∨ i = C) HB.out).trans (GrownP.ofGrown hgr (.inr rfl)))
    have H1 := hid h1
    clear h1 hgr HCM
    go_wp2_with fail
    refine hK.out _ _ ⟨HR.out.cells7.1, HR.out.cells7.2.1, HR.out.cells7.2.2.1, HR.out.cells7.2.2.2.1, HR.out.cells7.2.2.2.2.1, HR.out.cells7.2.2.2.2.2.1, HR.out.cells7.2.2.2.2.2.2.1⟩ (fun hS' => ?_)
    clear hK K hS
    have hS := hS'
    clear hS'
    (try simp only [Act.put, List.setIfInBounds_toArray, List.set_cons_zero, List.set_cons_succ])
    refine wpAnyH_done (by kernel_rfl) ?_ _
    refine NoPanic.normal ?_
    clear hS
    obtain ⟨A1, n1, c1, B1, k1, d1, hc1, ho1⟩ := H1.out.box
    have C1 := hid hc1; have O1 := hid ho1
    clear hc1 ho1
    obtain ⟨y00, y01, y02, y03, y04, y05, y06, yf0⟩ := HR.out.cells7
    obtain ⟨y10, y11, y12, y13, yf1⟩ := C1.out.cells4
    go_wp2
    clear y00 y01 y02 y03 y04 y05 y06 yf0 y10 y11 y12 y13 yf1
    have HRO := HR
    have hbk0 : Blk (Wc15.setCell ⟨R, 3, none⟩ (.int .i64 4)) (R) 109 #[.int .i64 a, .int .i64 f, .slice V vn vc, .int .i64 4, .int .u64 bg, .int .i64 wr, ptr C] := HR.out.setCell 3 (.int .i64 4)
    have hgr : Wc15.grownBy (Wc15.setCell ⟨R, 3, none⟩ (.int .i64 4)) (some (R)) := (grown_set (World.grownBy.refl Wc15 (some (R))) 3 (.int .i64 4))
    replace HR := hid hbk0
    clear hbk0
    generalize Wc15.setCell ⟨R, 3, none⟩ (.int .i64 4) = Wf at *
    replace C1 := hid (C1.out.grown hgr (fun e => HNE.out (by simpa using e.symm)))
    replace O1 := hid (mown_kept O1.out HRO.out tw1 tw2 hgr)
    replace HGP := hid (HGP.out.trans (GrownP.ofGrown hgr (.inl rfl)))
    replace HV := hid (HV.out.keptG hgr (fun v hv e => HV.out.ne_blk HRO.out tw1 v hv (by simpa using e)))
    clear hgr HRO
    go_end0
    rw [HRES.out]
    exact ⟨rfl, ⟨⟨_, _, _, _, _, _, _, _, _, C1.out, O1.out.mono (by have := hszd.out; omega), HR.out, HV.out, (fun a' v' ha hv' => by have h1 := (O1.out.oa.blk a' ha).1; have h2 := HVL.out v' hv'; have := hszd.out; omega)⟩, by have := hszd.out; have := HGP.out.size; omega⟩, HGP.out⟩
  exact AllReadyH.nil
set_option maxRecDepth 100000 in
set_option maxHeartbeats 8000000 in
theorem wdata_any (R C lo : Nat) (m : MSt) (l : Bool) (s : Swr) (w : World) (h : Wrm w R C lo m l s) (hg : MGood m.1 m.2.1) (hb : 0 ≤ s.f ∧ s.f ≤ 4096 ∧ s.vs.length ≤ 16 ∧ 0 ≤ s.wr ∧ s.wr < s.vs.length) :
    Calls Try.prog 66 #[ptr R] w (WbPost w R C lo (wdata m s)) := by
  obtain ⟨⟨A, n, c, B, k, d, V, vn, vc, hc, hm, hr, hv, hfar⟩, hle⟩ := h
  obtain ⟨a, f, vs, ph, bg, wr⟩ := s
  dsimp only at hc hm hr hv
  obtain ⟨⟨m2, ⟨x, y⟩⟩, hst⟩ : ∃ r, r = stepM m (2, f + wr, 0, vs[wr.toNat]?.getD 0) := ⟨_, rfl⟩
  obtain ⟨res, hres⟩ : ∃ res, res = wdata m ⟨a, f, vs, ph, bg, wr⟩ := ⟨_, rfl⟩
  rw [← hres]
  unfold wdata at hres
  dsimp only at hres
  rw [← hst] at hres
  dsimp only at hres
  have HRES := hid hres; have HB := hid (Below.refl w.heap.size w)
  clear hres
  have HST := hid hst; have HR := hid hr; have HV := hid hv; have HG := hid hg; have HLV := hid hv.len; have HVL := hid (fun v (e : V = some v) => (hv.blk v e).2.choose_spec.lt)
  have HCM := hid (show Cpm w C lo m l from ⟨_, _, _, _, _, _, hc, hm⟩)
  have HNE := hid (hr.ne hc tw3); have HCB := hid hc
  have hcl := hid hc.lt
  clear hst hc hm hr hv hfar hg
  obtain ⟨hf0, hf1, hvn, hwr0, hwr1⟩ := hb
  dsimp only at hf0 hf1 hvn hwr0 hwr1
  obtain ⟨wi, rfl⟩ := Int.eq_ofNat_of_zero_le hwr0
  have hres := HRES.out; have hst := HST.out
  rw [HLV.out] at hvn hwr1 hres
  rw [Int.toNat_natCast] at hst
  replace HRES := hid hres
  obtain ⟨gv, hV, _, _, hce, _⟩ := HV.out.at_ 0 (show wi < vn by omega)
  obtain ⟨xv, hxv⟩ : ∃ xv, xv = vs[wi]?.getD 0 := ⟨_, rfl⟩
  rw [← hxv] at hst hce
  replace HST := hid hst
  subst hV
  have hwi : (wi : Int) < (vn : Int) := by omega
  have HWI := hid (show wi < vn by omega); have HXV := hid hxv
  clear hres hst hce hxv
  have hw1 : IntKind.i64.wrap (f + (wi : Int)) = f + (wi : Int) := by rw [IntKind.wrap_i64]; omega
  have hw2 : IntKind.i64.wrap ((wi : Int) + 1) = (wi : Int) + 1 := by rw [IntKind.wrap_i64]; omega
  go_enter Try.func66, Try.ntmps66
  go_upto_region 0 with fail
  have bx := (Below.refl w.heap.size w).drew
  replace HR := hid (HR.out.step bx); replace HV := hid (HV.out.step bx); replace HCM := hid (HCM.out.step bx); replace HCB := hid (HCB.out.step bx); replace HB := hid (below_then HB.out bx)
  clear bx
  have hszd := hid (show w.drew.heap.size = w.heap.size from rfl)
  refine wp_region_noPanic ?_
  refine wp_region_held_drew (S := (fun W' : World => W'.cell? ⟨R, 0, none⟩ = some (.int .i64 a) ∧ W'.cell? ⟨R, 1, none⟩ = some (.int .i64 f) ∧ W'.cell? ⟨R, 2, none⟩ = some (.slice (some ⟨gv, 0, none⟩) vn vc) ∧ W'.cell? ⟨R, 3, none⟩ = some (.int .i64 ph) ∧ W'.cell? ⟨R, 4, none⟩ = some (.int .u64 bg) ∧ W'.cell? ⟨R, 5, none⟩ = some (.int .i64 (wi : Int)) ∧ W'.cell? ⟨R, 6, none⟩ = some (ptr C) ∧ W'.cell? ⟨gv, wi, none⟩ = some (.int .u64 xv))) (by kernel_rfl) ⟨HR.out.cells7.1, HR.out.cells7.2.1, HR.out.cells7.2.2.1, HR.out.cells7.2.2.2.1, HR.out.cells7.2.2.2.2.1, HR.out.cells7.2.2.2.2.2.1, HR.out.cells7.2.2.2.2.2.2.1, (row_at HV.out HWI.out HXV.out)⟩ (fun hS => ?_)
  generalize w.drew = Wd at *
  refine wpAnyH_take (i := 0) (v := ?_) (by simp only [List.getElem?_toArray, List.getElem?_cons_succ, List.getElem?_cons_zero]; rfl) (by kernel_rfl) (by kernel_rfl) (by kernel_rfl) (fun _ _ _ h => h) (Or.inl ⟨by rfl, ?_⟩) hS ?_
  rotate_left
  · intro w' hSw; (try dsimp only at hSw); go_split_ands; go_simp; (try with_reducible rfl)
  (try simp only [Act.put, List.setIfInBounds_toArray, List.set_cons_zero, List.set_cons_succ])
  refine wpAnyH_take (i := 1) (v := ?_) (by simp only [List.getElem?_toArray, List.getElem?_cons_succ, List.getElem?_cons_zero]; rfl) (by kernel_rfl) (by kernel_rfl) (by kernel_rfl) (fun _ _ _ h => h) (Or.inl ⟨by rfl, ?_⟩) hS ?_
  rotate_left
  · intro w' hSw; (try dsimp only at hSw); go_split_ands; go_simp; (try with_reducible rfl)
  (try simp only [Act.put, List.setIfInBounds_toArray, List.set_cons_zero, List.set_cons_succ])
  refine wpAnyH_take (i := 2) (v := ?_) (by simp only [List.getElem?_toArray, List.getElem?_cons_succ, List.getElem?_cons_zero]; rfl) (by kernel_rfl) (by kernel_rfl) (by kernel_rfl) (fun _ _ _ h => h) (Or.inl ⟨by rfl, ?_⟩) hS ?_
  rotate_left
  · intro w' hSw; (try dsimp only at hSw); go_split_ands; go_simp; (try with_reducible rfl)
  (try simp only [Act.put, List.setIfInBounds_toArray, List.set_cons_zero, List.set_cons_succ])
  refine wpAnyH_take (i := 3) (v := ?_) (by simp only [List.getElem?_toArray, List.getElem?_cons_succ, List.getElem?_cons_zero]; rfl) (by kernel_rfl) (by kernel_rfl) (by kernel_rfl) (fun _ _ _ h => h) (Or.inl ⟨by rfl, ?_⟩) hS ?_
  rotate_left
  · intro w' hSw; (try dsimp only at hSw); go_split_ands; go_simp; (try with_reducible rfl)
  (try simp only [Act.put, List.setIfInBounds_toArray, List.set_cons_zero, List.set_cons_succ])
  refine wpAnyH_take (i := 4) (v := ?_) (by simp only [List.getElem?_toArray, List.getElem?_cons_succ, List.getElem?_cons_zero]; rfl) (by kernel_rfl) (by kernel_rfl) (by kernel_rfl) (fun _ _ _ h => h) (Or.inl ⟨by rfl, ?_⟩) hS ?_
  rotate_left
  · intro w' hSw; (try dsimp only at hSw); go_split_ands; go_simp; (try with_reducible rfl)
  (try simp only [Act.put, List.setIfInBounds_toArray, List.set_cons_zero, List.set_cons_succ])
  refine wpAnyH_take (i := 5) (v := ?_) (by simp only [List.getElem?_toArray, List.getElem?_cons_succ, List.getElem?_cons_zero]; rfl) (by kernel_rfl) (by kernel_rfl) (by kernel_rfl) (fun _ _ _ h => h) (Or.inl ⟨by rfl, ?_⟩) hS ?_
  rotate_left
  · intro w' hSw; (try dsimp only at hSw); go_split_ands; go_simp; (try with_reducible rfl)
  (try simp only [Act.put, List.setIfInBounds_toArray, List.set_cons_zero, List.set_cons_succ])
  refine wpAnyH_take (i := 6) (v := ?_) (by simp only [List.getElem?_toArray, List.getElem?_cons_succ, List.getElem?_cons_zero]; rfl) (by kernel_rfl) (by kernel_rfl) (by kernel_rfl) (fun _ _ _ h => h) (Or.inl ⟨by rfl, ?_⟩) hS ?_
  rotate_left
  · intro w' hSw; (try dsimp only at hSw); go_split_ands; go_simp; (try with_reducible rfl)
  (try simp only [Act.put, List.setIfInBounds_toArray, List.set_cons_zero, List.set_cons_succ])
  refine wpAnyH_take (i := 7) (v := ?_) (by simp only [List.getElem?_toArray, List.getElem?_cons_succ, List.getElem?_cons_zero]; rfl) (by kernel_rfl) (by kernel_rfl) (by kernel_rfl) (fun _ _ _ h => h) (Or.inl ⟨by rfl, ?_⟩) hS ?_
  rotate_left
  · intro w' hSw; (try dsimp only at hSw); go_split_ands; go_simp; (try with_reducible rfl)
  (try simp only [Act.put, List.setIfInBounds_toArray, List.set_cons_zero, List.set_cons_succ])
  refine wpAnyH_take (i := 8) (v := ?_) (by simp only [List.getElem?_toArray, List.getElem?_cons_succ, List.getElem?_cons_zero]; rfl) (by kernel_rfl) (by kernel_rfl) (by kernel_rfl) (fun _ _ _ h => h) (Or.inl ⟨by rfl, ?_⟩) hS ?_
  rotate_left
  · intro w' hSw; (try dsimp only at hSw); go_split_ands; go_simp; (try with_reducible rfl)
  (try simp only [Act.put, List.setIfInBounds_toArray, List.set_cons_zero, List.set_cons_succ])
  refine wpAnyH_take (i := 9) (v := ?_) (by simp only [List.getElem?_toArray, List.getElem?_cons_succ, List.getElem?_cons_zero]; rfl) (by kernel_rfl) (by kernel_rfl) (by kernel_rfl) (fun _ _ _ h => h) (Or.inl ⟨by rfl, ?_⟩) hS ?_
  rotate_left
  · intro w' hSw; (try dsimp only at hSw); go_split_ands; go_simp; (try with_reducible rfl)
  (try simp only [Act.put, List.setIfInBounds_toArray, List.set_cons_zero, List.set_cons_succ])
  refine wpAnyH_take (i := 10) (v := ?_) (by simp only [List.getElem?_toArray, List.getElem?_cons_succ, List.getElem?_cons_zero]; rfl) (by kernel_rfl) (by kernel_rfl) (by kernel_rfl) (fun _ _ _ h => h) (Or.inl ⟨by rfl, ?_⟩) hS ?_
  rotate_left
  · intro w' hSw; (try dsimp only at hSw); go_split_ands; go_simp; (try with_reducible rfl)
  (try simp only [Act.put, List.setIfInBounds_toArray, List.set_cons_zero, List.set_cons_succ])
  refine wpAnyH_take (i := 11) (v := ?_) (by simp only [List.getElem?_toArray, List.getElem?_cons_succ, List.getElem?_cons_zero]; rfl) (by kernel_rfl) (by kernel_rfl) (by kernel_rfl) (fun _ _ _ h => h) (Or.inl ⟨by rfl, ?_⟩) hS ?_
  rotate_left
  · intro w' hSw; (try dsimp only at hSw); go_split_ands; go_simp; (try with_reducible rfl)
  (try simp only [Act.put, List.setIfInBounds_toArray, List.set_cons_zero, List.set_cons_succ])
  refine wpAnyH_take (i := 12) (v := ?_) (by simp only [List.getElem?_toArray, List.getElem?_cons_succ, List.getElem?_cons_zero]; rfl) (by kernel_rfl) (by kernel_rfl) (by kernel_rfl) (fun _ _ _ h => h) (Or.inl ⟨by rfl, ?_⟩) hS ?_
  rotate_left
  · intro w' hSw; (try dsimp only at hSw); go_split_ands; go_simp; (try with_reducible rfl)
  (try simp only [Act.put, List.setIfInBounds_toArray, List.set_cons_zero, List.set_cons_succ])
  refine wpAnyH_take (i := 13) (v := ?_) (by simp only [List.getElem?_toArray, List.getElem?_cons_succ, List.getElem?_cons_zero]; rfl) (by kernel_rfl) (by kernel_rfl) (by kernel_rfl) (fun _ _ _ h => h) (Or.inl ⟨by rfl, ?_⟩) hS ?_
  rotate_left
  · intro w' hSw; (try dsimp only at hSw); go_split_ands; go_simp; (try with_reducible rfl)
  (try simp only [Act.put, List.setIfInBounds_toArray, List.set_cons_zero, List.set_cons_succ])
  refine wpAnyH_take (i := 14) (v := ?_) (by simp only [List.getElem?_toArray, List.getElem?_cons_succ, List.getElem?_cons_zero]; rfl) (by kernel_rfl) (by kernel_rfl) (by kernel_rfl) (fun _ _ _ h => h) (Or.inl ⟨by rfl, ?_⟩) hS ?_
  rotate_left
  · intro w' hSw; (try dsimp only at hSw); go_split_ands; go_simp; (try with_reducible rfl)
  (try simp only [Act.put, List.setIfInBounds_toArray, List.set_cons_zero, List.set_cons_succ])
  refine wpAnyH_take (i := 15) (v := ?_) (by simp only [List.getElem?_toArray, List.getElem?_cons_succ, List.getElem?_cons_zero]; rfl) (by kernel_rfl) (by kernel_rfl) (by kernel_rfl) (fun _ _ _ h => h) (Or.inl ⟨by rfl, ?_⟩) hS ?_
  rotate_left
  · intro w' hSw; (try dsimp only at hSw); go_split_ands; go_simp; (try with_reducible rfl)
  (try simp only [Act.put, List.setIfInBounds_toArray, List.set_cons_zero, List.set_cons_succ])
  refine wpAnyH_take (i := 16) (v := ?_) (by simp only [List.getElem?_toArray, List.getElem?_cons_succ, List.getElem?_cons_zero]; rfl) (by kernel_rfl) (by kernel_rfl) (by kernel_rfl) (fun _ _ _ h => h) (Or.inl ⟨by rfl, ?_⟩) hS ?_
  rotate_left
  · intro w' hSw; (try dsimp only at hSw); go_split_ands; go_simp; (try with_reducible rfl)
  (try simp only [Act.put, List.setIfInBounds_toArray, List.set_cons_zero, List.set_cons_succ])
  refine wpAnyH_take (i := 17) (v := ?_) (by simp only [List.getElem?_toArray, List.getElem?_cons_succ, List.getElem?_cons_zero]; rfl) (by kernel_rfl) (by kernel_rfl) (by kernel_rfl) (fun _ _ _ h => h) (Or.inl ⟨by rfl, ?_⟩) hS ?_
  rotate_left
  · intro w' hSw; (try dsimp only at hSw); go_split_ands; go_simp; (try with_reducible rfl)
  (try simp only [Act.put, List.setIfInBounds_toArray, List.set_cons_zero, List.set_cons_succ])
  refine wpAnyH_take (i := 18) (v := ?_) (by simp only [List.getElem?_toArray, List.getElem?_cons_succ, List.getElem?_cons_zero]; rfl) (by kernel_rfl) (by kernel_rfl) (by kernel_rfl) (fun _ _ _ h => h) (Or.inl ⟨by rfl, ?_⟩) hS ?_
  rotate_left
  · intro w' hSw; (try dsimp only at hSw); go_split_ands; go_simp; (try with_reducible rfl)
  (try simp only [Act.put, List.setIfInBounds_toArray, List.set_cons_zero, List.set_cons_succ])
  refine wpAnyH_take (i := 19) (v := ?_) (by simp only [List.getElem?_toArray, List.getElem?_cons_succ, List.getElem?_cons_zero]; rfl) (by kernel_rfl) (by kernel_rfl) (by kernel_rfl) (fun _ _ _ h => h) (Or.inl ⟨by rfl, ?_⟩) hS ?_
  rotate_left
  · intro w' hSw; (try dsimp only at hSw); go_split_ands; go_simp; (try with_reducible rfl)
  (try simp only [Act.put, List.setIfInBounds_toArray, List.set_cons_zero, List.set_cons_succ])
  refine wpAnyH_take (i := 20) (v := ?_) (by simp only [List.getElem?_toArray, List.getElem?_cons_succ, List.getElem?_cons_zero]; rfl) (by kernel_rfl) (by kernel_rfl) (by kernel_rfl) (fun _ _ _ h => h) (Or.inl ⟨by rfl, ?_⟩) hS ?_
  rotate_left
  · intro w' hSw; (try dsimp only at hSw); go_split_ands; go_simp; (try with_reducible rfl)
  (try simp only [Act.put, List.setIfInBounds_toArray, List.set_cons_zero, List.set_cons_succ])
  refine wpAnyH_take (i := 21) (v := ?_) (by simp only [List.getElem?_toArray, List.getElem?_cons_succ, List.getElem?_cons_zero]; rfl) (by kernel_rfl) (by kernel_rfl) (by kernel_rfl) (fun _ _ _ h => h) (Or.inl ⟨by rfl, ?_⟩) hS ?_
  rotate_left
  · intro w' hSw; (try dsimp only at hSw); go_split_ands; go_simp; (try with_reducible rfl)
  (try simp only [Act.put, List.setIfInBounds_toArray, List.set_cons_zero, List.set_cons_succ])
  refine wpAnyH_take (i := 22) (v := ?_) (by simp only [List.getElem?_toArray, List.getElem?_cons_succ, List.getElem?_cons_zero]; rfl) (by kernel_rfl) (by kernel_rfl) (by kernel_rfl) (fun _ _ _ h => h) (Or.inl ⟨by rfl, ?_⟩) hS ?_
  rotate_left
  · intro w' hSw; (try dsimp only at hSw); go_split_ands; go_simp; (try with_reducible rfl)
  (try simp only [Act.put, List.setIfInBounds_toArray, List.set_cons_zero, List.set_cons_succ])
  refine wpAnyH_take (i := 23) (v := ?_) (by simp only [List.getElem?_toArray, List.getElem?_cons_succ, List.getElem?_cons_zero]; rfl) (by kernel_rfl) (by kernel_rfl) (by kernel_rfl) (fun _ _ _ h => h) (Or.inl ⟨by rfl, ?_⟩) hS ?_
  rotate_left
  · intro w' hSw; (try dsimp only at hSw); go_split_ands; go_simp; (try with_reducible rfl)
  (try simp only [Act.put, List.setIfInBounds_toArray, List.set_cons_zero, List.set_cons_succ])
  refine wpAnyH_take (i := 24) (v := ?_) (by simp only [List.getElem?_toArray, List.getElem?_cons_succ, List.getElem?_cons_zero]; rfl) (by kernel_rfl) (by kernel_rfl) (by kernel_rfl) (fun _ _ _ h => h) (Or.inl ⟨by rfl, ?_⟩) hS ?_
  rotate_left
  · intro w' hSw; (try dsimp only at hSw); go_split_ands; go_simp; (try with_reducible rfl)
  (try simp only [Act.put, List.setIfInBounds_toArray, List.set_cons_zero, List.set_cons_succ])
  refine wpAnyH_take (i := 25) (v := ?_) (by simp only [List.getElem?_toArray, List.getElem?_cons_succ, List.getElem?_cons_zero]; rfl) (by kernel_rfl) (by kernel_rfl) (by kernel_rfl) (fun _ _ _ h => h) (Or.inl ⟨by rfl, ?_⟩) hS ?_
  rotate_left
  · intro w' hSw; (try dsimp only at hSw); go_split_ands; go_simp; (try with_reducible rfl)
  (try simp only [Act.put, List.setIfInBounds_toArray, List.set_cons_zero, List.set_cons_succ])
  refine wpAnyH_take (i := 26) (v := ?_) (by simp only [List.getElem?_toArray, List.getElem?_cons_succ, List.getElem?_cons_zero]; rfl) (by kernel_rfl) (by kernel_rfl) (by kernel_rfl) (fun _ _ _ h => h) (Or.inl ⟨by rfl, ?_⟩) hS ?_
  rotate_left
  · intro w' hSw; (try dsimp only at hSw); go_split_ands; go_simp; (try with_reducible rfl)
  (try simp only [Act.put, List.setIfInBounds_toArray, List.set_cons_zero, List.set_cons_succ])
  refine wpAnyH_ready (rs := [27]) (by kernel_rfl) (by simp) ?_
  refine AllReadyH.cons (by simp only [List.getElem?_toArray, List.getElem?_cons_succ, List.getElem?_cons_zero]; rfl) (fun K hK => ?_) ?_
  · skip
    go_simp
    refine (store_any C lo m l (f + (wi : Int)) xv _ HCM.out HG.out).mono ?_
    rintro e Wc27 ⟨rfl, h1, hgr⟩
    rw [← HST.out] at h1
    dsimp only at h1
    have hsz9 := hid hgr.size
    replace HR := hid (HR.out.grown hgr (fun e => HNE.out (by simpa using e)))
    replace HV := hid (HV.out.keptG hgr (fun v hv e => HV.out.ne_blk HCB.out tc1 v hv (by simpa using e)))
    have HGP := hid ((GrownP.ofBelow (p := fun i => i = R ∨ i = C) HB.out).trans (GrownP.ofGrown hgr (.inr rfl)))
    have H1 := hid h1
    clear h1 hgr HCM
    go_wp2_with fail
    refine hK.out _ _ ⟨HR.out.cells7.1, HR.out.cells7.2.1, HR.out.cells7.2.2.1, HR.out.cells7.2.2.2.1, HR.out.cells7.2.2.2.2.1, HR.out.cells7.2.2.2.2.2.1, HR.out.cells7.2.2.2.2.2.2.1, (row_at HV.out HWI.out HXV.out)⟩ (fun hS' => ?_)
    clear hK K hS
    have hS := hS'
    clear hS'
    (try simp only [Act.put, List.setIfInBounds_toArray, List.set_cons_zero, List.set_cons_succ])
    refine wpAnyH_done (by kernel_rfl) ?_ _
    refine NoPanic.normal ?_
    clear hS
    obtain ⟨A1, n1, c1, B1, k1, d1, hc1, ho1⟩ := H1.out.box
    have C1 := hid hc1; have O1 := hid ho1
    clear hc1 ho1
    obtain ⟨y00, y01, y02, y03, y04, y05, y06, yf0⟩ := HR.out.cells7
    obtain ⟨y10, y11, y12, y13, yf1⟩ := C1.out.cells4
    rcases y with _ | _
    · skip
      go_wp2
      go_end0
      rw [HRES.out, if_neg (by decide)]
      exact ⟨rfl, ⟨⟨_, _, _, _, _, _, _, _, _, C1.out, O1.out.mono (by have := hszd.out; omega), HR.out, HV.out, (fun a' v' ha hv' => by have h1 := (O1.out.oa.blk a' ha).1; have h2 := HVL.out v' hv'; have := hszd.out; omega)⟩, by have := hszd.out; have := HGP.out.size; omega⟩, HGP.out⟩
    clear hw1
    go_upto_region 3 with fail
    clear y00 y01 y02 y03 y04 y05 y06 yf0 y10 y11 y12 y13 yf1
    have HRO := HR
    have hbk0 : Blk (Wc27.setCell ⟨R, 5, none⟩ (.int .i64 ((wi : Int) + 1))) (R) 109 #[.int .i64 a, .int .i64 f, .slice (some ⟨gv, 0, none⟩) vn vc, .int .i64 ph, .int .u64 bg, .int .i64 ((wi : Int) + 1), ptr C] := HR.out.setCell 5 (.int .i64 ((wi : Int) + 1))
    have hgr : Wc27.grownBy (Wc27.setCell ⟨R, 5, none⟩ (.int .i64 ((wi : Int) + 1))) (some (R)) := (grown_set (World.grownBy.refl Wc27 (some (R))) 5 (.int .i64 ((wi : Int) + 1)))
    replace HR := hid hbk0
    clear hbk0
    generalize Wc27.setCell ⟨R, 5, none⟩ (.int .i64 ((wi : Int) + 1)) = Wf at *
    replace C1 := hid (C1.out.grown hgr (fun e => HNE.out (by simpa using e.symm)))
    replace O1 := hid (mown_kept O1.out HRO.out tw1 tw2 hgr)
    replace HGP := hid (HGP.out.trans (GrownP.ofGrown hgr (.inl rfl)))
    replace HV := hid (HV.out.keptG hgr (fun v hv e => HV.out.ne_blk HRO.out tw1 v hv (by simpa using e)))
    clear hgr HRO
    have HFAR := hid (show VFar A1 (some ⟨gv, 0, none⟩) from (fun a' v' ha hv' => by have h1 := (O1.out.oa.blk a' ha).1; have h2 := HVL.out v' hv'; have := hszd.out; omega))
    have hlo := hid (show lo ≤ Wf.heap.size by have := hszd.out; have := HGP.out.size; omega)
    replace O1 := hid (O1.out.mono (show lo ≤ _ by have := hszd.out; omega))
    clear hszd hsz9
    have HBF := hid (Below.refl Wf.heap.size Wf)
    have hmm : ((wi : Int) + 1 == (vn : Int)) = decide ((wi : Int) + 1 = (vn : Int)) := rfl
    obtain ⟨q, hq⟩ : ∃ q, q = decide ((wi : Int) + 1 = (vn : Int)) := ⟨_, rfl⟩
    rw [← hq] at hmm
    have HQ := hid hq
    clear hq
    have bx := (Below.refl Wf.heap.size Wf).drew
    replace HR := hid (HR.out.step bx); replace C1 := hid (C1.out.step bx); replace O1 := hid (O1.out.step bx); replace HV := hid (HV.out.step bx); replace HBF := hid (below_then HBF.out bx)
    clear bx
    have hszd := hid (show Wf.drew.heap.size = Wf.heap.size from rfl)
    refine wp_region_noPanic ?_
    refine wp_region_held_drew (S := (fun W' : World => W'.cell? ⟨R, 0, none⟩ = some (.int .i64 a) ∧ W'.cell? ⟨R, 1, none⟩ = some (.int .i64 f) ∧ W'.cell? ⟨R, 2, none⟩ = some (.slice (some ⟨gv, 0, none⟩) vn vc) ∧ W'.cell? ⟨R, 3, none⟩ = some (.int .i64 ph) ∧ W'.cell? ⟨R, 4, none⟩ = some (.int .u64 bg) ∧ W'.cell? ⟨R, 5, none⟩ = some (.int .i64 ((wi : Int) + 1)) ∧ W'.cell? ⟨R, 6, none⟩ = some (ptr C))) (by kernel_rfl) ⟨HR.out.cells7.1, HR.out.cells7.2.1, HR.out.cells7.2.2.1, HR.out.cells7.2.2.2.1, HR.out.cells7.2.2.2.2.1, HR.out.cells7.2.2.2.2.2.1, HR.out.cells7.2.2.2.2.2.2.1⟩ (fun hS => ?_)
    generalize Wf.drew = Wd at *
    refine wpAnyH_take (i := 0) (v := ?_) (by simp only [List.getElem?_toArray, List.getElem?_cons_succ, List.getElem?_cons_zero]; rfl) (by kernel_rfl) (by kernel_rfl) (by kernel_rfl) (fun _ _ _ h => h) (Or.inl ⟨by rfl, ?_⟩) hS ?_
    rotate_left
    · intro w' hSw; (try dsimp only at hSw); go_split_ands; go_simp; (try with_reducible rfl)
    (try simp only [Act.put, List.setIfInBounds_toArray, List.set_cons_zero, List.set_cons_succ])
    refine wpAnyH_take (i := 1) (v := ?_) (by simp only [List.getElem?_toArray, List.getElem?_cons_succ, List.getElem?_cons_zero]; rfl) (by kernel_rfl) (by kernel_rfl) (by kernel_rfl) (fun _ _ _ h => h) (Or.inl ⟨by rfl, ?_⟩) hS ?_
    rotate_left
    · intro w' hSw; (try dsimp only at hSw); go_split_ands; go_simp; (try with_reducible rfl)
    (try simp only [Act.put, List.setIfInBounds_toArray, List.set_cons_zero, List.set_cons_succ])
    refine wpAnyH_take (i := 2) (v := ?_) (by simp only [List.getElem?_toArray, List.getElem?_cons_succ, List.getElem?_cons_zero]; rfl) (by kernel_rfl) (by kernel_rfl) (by kernel_rfl) (fun _ _ _ h => h) (Or.inl ⟨by rfl, ?_⟩) hS ?_
    rotate_left
    · intro w' hSw; (try dsimp only at hSw); go_split_ands; go_simp; (try with_reducible rfl)
    (try simp only [Act.put, List.setIfInBounds_toArray, List.set_cons_zero, List.set_cons_succ])
    refine wpAnyH_take (i := 3) (v := ?_) (by simp only [List.getElem?_toArray, List.getElem?_cons_succ, List.getElem?_cons_zero]; rfl) (by kernel_rfl) (by kernel_rfl) (by kernel_rfl) (fun _ _ _ h => h) (Or.inl ⟨by rfl, ?_⟩) hS ?_
    rotate_left
    · intro w' hSw; (try dsimp only at hSw); go_split_ands; go_simp; (try with_reducible rfl)
    (try simp only [Act.put, List.setIfInBounds_toArray, List.set_cons_zero, List.set_cons_succ])
    refine wpAnyH_take (i := 4) (v := ?_) (by simp only [List.getElem?_toArray, List.getElem?_cons_succ, List.getElem?_cons_zero]; rfl) (by kernel_rfl) (by kernel_rfl) (by kernel_rfl) (fun _ _ _ h => h) (Or.inl ⟨by rfl, ?_⟩) hS ?_
    rotate_left
    · intro w' hSw; (try dsimp only at hSw); go_split_ands; go_simp; (try with_reducible rfl)
    (try simp only [Act.put, List.setIfInBounds_toArray, List.set_cons_zero, List.set_cons_succ])
    refine wpAnyH_take (i := 5) (v := ?_) (by simp only [List.getElem?_toArray, List.getElem?_cons_succ, List.getElem?_cons_zero]; rfl) (by kernel_rfl) (by kernel_rfl) (by kernel_rfl) (fun _ _ _ h => h) (Or.inl ⟨by rfl, ?_⟩) hS ?_
    rotate_left
    · intro w' hSw; (try dsimp only at hSw); go_split_ands; go_simp; (try with_reducible rfl)
    (try simp only [Act.put, List.setIfInBounds_toArray, List.set_cons_zero, List.set_cons_succ])
    refine wpAnyH_take (i := 6) (v := ?_) (by simp only [List.getElem?_toArray, List.getElem?_cons_succ, List.getElem?_cons_zero]; rfl) (by kernel_rfl) (by kernel_rfl) (by kernel_rfl) (fun _ _ _ h => h) (Or.inl ⟨by rfl, ?_⟩) hS ?_
    rotate_left
    · intro w' hSw; (try dsimp only at hSw); go_split_ands; go_simp; (try with_reducible rfl)
    (try simp only [Act.put, List.setIfInBounds_toArray, List.set_cons_zero, List.set_cons_succ])
    refine wpAnyH_take (i := 7) (v := ?_) (by simp only [List.getElem?_toArray, List.getElem?_cons_succ, List.getElem?_cons_zero]; rfl) (by kernel_rfl) (by kernel_rfl) (by kernel_rfl) (fun _ _ _ h => h) (Or.inl ⟨by rfl, ?_⟩) hS ?_
    rotate_left
    · intro w' hSw; (try dsimp only at hSw); go_split_ands; go_simp; (try with_reducible rfl)
    (try simp only [Act.put, List.setIfInBounds_toArray, List.set_cons_zero, List.set_cons_succ])
    refine wpAnyH_take (i := 8) (v := ?_) (by simp only [List.getElem?_toArray, List.getElem?_cons_succ, List.getElem?_cons_zero]; rfl) (by kernel_rfl) (by kernel_rfl) (by kernel_rfl) (fun _ _ _ h => h) (Or.inl ⟨by rfl, ?_⟩) hS ?_
    rotate_left
    · intro w' hSw; (try dsimp only at hSw); go_split_ands; go_simp; (try with_reducible rfl)
    (try simp only [Act.put, List.setIfInBounds_toArray, List.set_cons_zero, List.set_cons_succ])
    refine wpAnyH_take (i := 9) (v := ?_) (by simp only [List.getElem?_toArray, List.getElem?_cons_succ, List.getElem?_cons_zero]; rfl) (by kernel_rfl) (by kernel_rfl) (by kernel_rfl) (fun _ _ _ h => h) (Or.inl ⟨by rfl, ?_⟩) hS ?_
    rotate_left
    · intro w' hSw; (try dsimp only at hSw); go_split_ands; go_simp; (try with_reducible rfl)
    (try simp only [Act.put, List.setIfInBounds_toArray, List.set_cons_zero, List.set_cons_succ])
    refine wpAnyH_take (i := 10) (v := ?_) (by simp only [List.getElem?_toArray, List.getElem?_cons_succ, List.getElem?_cons_zero]; rfl) (by kernel_rfl) (by kernel_rfl) (by kernel_rfl) (fun _ _ _ h => h) (Or.inl ⟨by rfl, ?_⟩) hS ?_
    rotate_left
    · intro w' hSw; (try dsimp only at hSw); go_split_ands; go_simp; (try with_reducible rfl)
    (try simp only [Act.put, List.setIfInBounds_toArray, List.set_cons_zero, List.set_cons_succ])
    refine wpAnyH_take (i := 11) (v := ?_) (by simp only [List.getElem?_toArray, List.getElem?_cons_succ, List.getElem?_cons_zero]; rfl) (by kernel_rfl) (by kernel_rfl) (by kernel_rfl) (fun _ _ _ h => h) (Or.inl ⟨by rfl, ?_⟩) hS ?_
    rotate_left
    · intro w' hSw; (try dsimp only at hSw); go_split_ands; go_simp; (try with_reducible rfl)
    (try simp only [Act.put, List.setIfInBounds_toArray, List.set_cons_zero, List.set_cons_succ])
    refine wpAnyH_done (by kernel_rfl) ?_ _
    refine NoPanic.normal ?_
    clear hS
    rcases q with _ | _
    · have HN := hid (of_decide_eq_false HQ.out.symm)
      have HL := hid (Nat.le_trans hlo.out HBF.out.size); have HG2 := hid (HGP.out.trans (GrownP.ofBelow HBF.out))
      obtain ⟨y00, y01, y02, y03, y04, y05, y06, yf0⟩ := HR.out.cells7
      go_wp2
      go_end0
      rw [HRES.out, if_pos (by trivial), if_neg HN.out]
      exact ⟨rfl, ⟨⟨_, _, _, _, _, _, _, _, _, C1.out, O1.out, HR.out, HV.out, HFAR.out⟩, HL.out⟩, HG2.out⟩
    have HN := hid (of_decide_eq_true HQ.out.symm)
    obtain ⟨y00, y01, y02, y03, y04, y05, y06, yf0⟩ := HR.out.cells7
    go_wp2
    have HRO := HR
    clear y00 y01 y02 y03 y04 y05 y06 yf0
    have hbk0 : Blk (Wd.setCell ⟨R, 3, none⟩ (.int .i64 3)) (R) 109 #[.int .i64 a, .int .i64 f, .slice (some ⟨gv, 0, none⟩) vn vc, .int .i64 3, .int .u64 bg, .int .i64 ((wi : Int) + 1), ptr C] := HR.out.setCell 3 (.int .i64 3)
    have hgr : Wd.grownBy (Wd.setCell ⟨R, 3, none⟩ (.int .i64 3)) (some (R)) := (grown_set (World.grownBy.refl Wd (some (R))) 3 (.int .i64 3))
    replace HR := hid hbk0
    clear hbk0
    generalize Wd.setCell ⟨R, 3, none⟩ (.int .i64 3) = Wg at *
    replace C1 := hid (C1.out.grown hgr (fun e => HNE.out (by simpa using e.symm)))
    replace O1 := hid (mown_kept O1.out HRO.out tw1 tw2 hgr)
    replace HV := hid (HV.out.keptG hgr (fun v hv e => HV.out.ne_blk HRO.out tw1 v hv (by simpa using e)))
    have HG2 := hid ((HGP.out.trans (GrownP.ofBelow HBF.out)).trans (GrownP.ofGrown hgr (.inl rfl)))
    have HL := hid (Nat.le_trans hlo.out (Nat.le_trans HBF.out.size hgr.size))
    go_end0
    rw [HRES.out, if_pos (by trivial), if_pos HN.out]
    exact ⟨rfl, ⟨⟨_, _, _, _, _, _, _, _, _, C1.out, O1.out, HR.out, HV.out, HFAR.out⟩, HL.out⟩, HG2.out⟩
  exact AllReadyH.nil
end Go.Proofs.Ytnkaajkdjbdpaaa
