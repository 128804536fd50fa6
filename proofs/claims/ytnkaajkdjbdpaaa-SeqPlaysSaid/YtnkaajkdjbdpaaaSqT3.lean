/- afterglowref06: StepWrite. No condition but sizes. -/
import Derived.Test.YtnkaajkdjbdpaaaSqT2
namespace Go.Proofs.Ytnkaajkdjbdpaaa
open Go.RowKit
def RSWPost (W : World) (A : Option Addr) (n : Nat) (B : Option Addr) (lo B0 : Nat) (V : Option Addr) (vn vc : Nat) (r : MSt × Swr) (e : Ending) (W' : World) : Prop :=
  ∃ A' c' B' d', e = .returned (.tuple #[mv A' n c' B' n d' r.1.2.2, wrV r.2 V vn vc]) ∧ Mem W' A' n c' B' n d' r.1.1 r.1.2.1 ∧ VIn W' lo B0 V vn r.2.vs ∧ Below W.heap.size W W' ∧ ∀ g, g < W.heap.size → FarM n A B g → FarM n A' B' g
/-- the access of a write's step -/
def wrAcc (s : Swr) : Acc := if s.ph = 0 then (1, s.a, 0, 0) else if s.ph = 1 then (2, s.a, 0, IntKind.u64.wrap (s.bg + 1)) else if s.ph = 2 then (2, s.f + s.wr, 0, s.vs[s.wr.toNat]?.getD 0) else (2, s.a, 0, IntKind.u64.wrap (s.bg + 2))
/-- a write behind the access, but that it is lost -/
def wrMid (s : Swr) (x : Int) (ok : Bool) : Swr :=
  if s.ph = 0 then (if ok = true ∧ x % 2 = 0 then ⟨s.a, s.f, s.vs, 1, x, s.wr⟩ else s)
  else if s.ph = 1 then ⟨s.a, s.f, s.vs, 2, s.bg, s.wr⟩
  else if s.ph = 2 then (if ok = true then ⟨s.a, s.f, s.vs, if s.wr + 1 = s.vs.length then 3 else s.ph, s.bg, s.wr + 1⟩ else s)
  else ⟨s.a, s.f, s.vs, 4, s.bg, s.wr⟩
def wrFin (s : Swr) (ok : Bool) : Swr := if ok = true then s else ⟨s.a, s.f, s.vs, 5, s.bg, s.wr⟩
theorem swriteF_at {m : MSt} {s : Swr} (h : s.ph = 0 ∨ s.ph = 1 ∨ s.ph = 2 ∨ s.ph = 3) : swriteF m s = ((stepM m (wrAcc s)).1, wrFin (wrMid s (stepM m (wrAcc s)).2.1 (stepM m (wrAcc s)).2.2) (stepM m (wrAcc s)).2.2) := by
  obtain ⟨a, f, vs, ph, bg, wr⟩ := s
  dsimp only at h
  unfold swriteF swrun wrFin wrMid
  dsimp only
  rcases h with rfl | rfl | rfl | rfl
  · rw [if_pos rfl, if_pos rfl, show wrAcc ⟨a, f, vs, 0, bg, wr⟩ = (1, a, 0, 0) by rfl]
    unfold wbegin
    dsimp only
    obtain ⟨⟨m', x, y⟩, hr⟩ : ∃ r, r = stepM m (1, a, 0, 0) := ⟨_, rfl⟩
    rw [← hr]
    cases y
    · simp
    · by_cases hx : x % 2 = 0 <;> simp [hx]
  · rw [if_neg (show ¬ (1 : Int) = 0 by decide), if_pos rfl, if_neg (show ¬ (1 : Int) = 0 by decide), if_pos rfl, show wrAcc ⟨a, f, vs, 1, bg, wr⟩ = (2, a, 0, IntKind.u64.wrap (bg + 1)) by rfl]
    unfold wopen
    dsimp only
    obtain ⟨⟨m', x, y⟩, hr⟩ : ∃ r, r = stepM m (2, a, 0, IntKind.u64.wrap (bg + 1)) := ⟨_, rfl⟩
    rw [← hr]
    cases y <;> simp
  · rw [if_neg (show ¬ (2 : Int) = 0 by decide), if_neg (show ¬ (2 : Int) = 1 by decide), if_pos rfl, if_neg (show ¬ (2 : Int) = 0 by decide), if_neg (show ¬ (2 : Int) = 1 by decide), if_pos rfl, show wrAcc ⟨a, f, vs, 2, bg, wr⟩ = (2, f + wr, 0, vs[wr.toNat]?.getD 0) by rfl]
    unfold wdata
    dsimp only
    obtain ⟨⟨m', x, y⟩, hr⟩ : ∃ r, r = stepM m (2, f + wr, 0, vs[wr.toNat]?.getD 0) := ⟨_, rfl⟩
    rw [← hr]
    cases y <;> simp
  · rw [if_neg (show ¬ (3 : Int) = 0 by decide), if_neg (show ¬ (3 : Int) = 1 by decide), if_neg (show ¬ (3 : Int) = 2 by decide), if_pos rfl, if_neg (show ¬ (3 : Int) = 0 by decide), if_neg (show ¬ (3 : Int) = 1 by decide), if_neg (show ¬ (3 : Int) = 2 by decide), show wrAcc ⟨a, f, vs, 3, bg, wr⟩ = (2, a, 0, IntKind.u64.wrap (bg + 2)) by rfl]
    unfold wclose
    dsimp only
    obtain ⟨⟨m', x, y⟩, hr⟩ : ∃ r, r = stepM m (2, a, 0, IntKind.u64.wrap (bg + 2)) := ⟨_, rfl⟩
    rw [← hr]
    cases y <;> simp
theorem row_vin {W : World} {lo B n b o j : Nat} {vs : List Int} {x : Int} (h : VIn W lo B (some ⟨b, o, none⟩) n vs) (hj : j < n) (hx : x = vs[j]?.getD 0) : W.cell? ⟨b, o + j, none⟩ = some (.int .u64 x) := by
  obtain ⟨b', o', e, _, _, hc⟩ := h.sl.row (by omega)
  obtain ⟨rfl, rfl⟩ : b = b' ∧ o = o' := by cases e; exact ⟨rfl, rfl⟩
  rw [hx]
  exact hc j hj
/-- behind the switch -/
structure RWMid (w W : World) (A : Option Addr) (n : Nat) (B : Option Addr) (m : MSt) (lo B0 : Nat) (V : Option Addr) (vn vc : Nat) (s : Swr) : Prop where
  pm : ∃ A' c' B' d', Blk W w.heap.size 44 (mcs A' n c' B' n d' m.2.2) ∧ Mem W A' n c' B' n d' m.1 m.2.1 ∧ (∀ g, g < w.heap.size → FarM n A B g → FarM n A' B' g) ∧ ∀ g, w.heap.size ≤ g → g < w.heap.size + 4 → FarM n A' B' g
  ps : Blk W (w.heap.size + 1) 34 (wrc s.a s.f V vn vc s.ph s.bg s.wr)
  hv : VIn W lo B0 V vn s.vs
  qm : Blk W (w.heap.size + 2) 44 (mcs none 0 0 none 0 0 false)
  qs : Blk W (w.heap.size + 3) 34 (wrc 0 0 none 0 0 0 0 0)
  be : Below w.heap.size w W
set_option maxRecDepth 100000 in
set_option maxHeartbeats 8000000 in
theorem rswrite_in (A : Option Addr) (n c : Nat) (B : Option Addr) (d : Nat) (f0 : Bool) (ws : List Int) (ls : List Bool) (s : Swr) (V : Option Addr) (vn vc lo B0 : Nat) (w : World) (h : Mem w A n c B n d ws ls) (hv : VIn w lo B0 V vn s.vs) (hok : WrOkS s) :
    Calls Try.prog 37 #[mv A n c B n d f0, wrV s V vn vc] w (RSWPost w A n B lo B0 V vn vc (swriteF (ws, ls, f0) s)) := by
  have HM := hid h; have HB := hid (Below.refl w.heap.size w)
  have HFA := hid (show ∀ g, w.heap.size ≤ g → g < w.heap.size + 4 → FarM n A B g from fun g hg _ => h.far hg)
  obtain ⟨a, f, vs, ph, bg, wr⟩ := s
  have HVI := hid (show VIn w lo B0 V vn vs from hv)
  have hB0 := hid hv.1
  have HLV := hid (show vs.length = vn from hv.len)
  have HPH := hid (show ph = 0 ∨ ph = 1 ∨ ph = 2 ∨ ph = 3 ∨ ph = 4 ∨ ph = 5 by have h := hok.2.2.2; dsimp only at h; omega)
  have HWR := hid (show vn ≤ 16 ∧ 0 ≤ f ∧ f ≤ 4096 ∧ (ph = 2 → 0 ≤ wr ∧ wr < (vn : Int)) by have h := hok; have hl := hv.len; unfold WrOkS WrOk SqG at h; dsimp only at h hl; omega)
  obtain ⟨⟨m2, s2⟩, hr⟩ : ∃ x, x = swriteF (ws, ls, f0) ⟨a, f, vs, ph, bg, wr⟩ := ⟨_, rfl⟩
  rw [← hr]
  have HR := hid hr
  clear h hv hok hr
  have bx := below_box w (.cells (mcs A n c B n d f0) 44)
  replace HM := hid (HM.out.step bx); replace HVI := hid (HVI.out.step bx); replace HB := hid (below_then HB.out bx)
  clear bx
  have PM := hid (Blk.new w 44 (mcs A n c B n d f0))
  have bx := below_box (w.alloc (.cells (mcs A n c B n d f0) 44)) (.cells (wrc a f V vn vc ph bg wr) 34)
  replace HM := hid (HM.out.step bx); replace HVI := hid (HVI.out.step bx); replace PM := hid (PM.out.step bx); replace HB := hid (below_then HB.out bx)
  clear bx
  have PS := hid (Blk.new2 w 34 (wrc a f V vn vc ph bg wr) (.cells (mcs A n c B n d f0) 44))
  have bx := below_box ((w.alloc (.cells (mcs A n c B n d f0) 44)).alloc (.cells (wrc a f V vn vc ph bg wr) 34)) (.cells (mcs none 0 0 none 0 0 false) 44)
  replace HM := hid (HM.out.step bx); replace HVI := hid (HVI.out.step bx); replace PM := hid (PM.out.step bx); replace PS := hid (PS.out.step bx); replace HB := hid (below_then HB.out bx)
  clear bx
  have QM := hid (Blk.new3 w 44 (mcs none 0 0 none 0 0 false) (.cells (mcs A n c B n d f0) 44) (.cells (wrc a f V vn vc ph bg wr) 34))
  have bx := below_box (((w.alloc (.cells (mcs A n c B n d f0) 44)).alloc (.cells (wrc a f V vn vc ph bg wr) 34)).alloc (.cells (mcs none 0 0 none 0 0 false) 44)) (.cells (wrc 0 0 none 0 0 0 0 0) 34)
  replace HM := hid (HM.out.step bx); replace HVI := hid (HVI.out.step bx); replace PM := hid (PM.out.step bx); replace PS := hid (PS.out.step bx); replace QM := hid (QM.out.step bx); replace HB := hid (below_then HB.out bx)
  clear bx
  have QS := hid (Blk.new4 w 34 (wrc 0 0 none 0 0 0 0 0) (.cells (mcs A n c B n d f0) 44) (.cells (wrc a f V vn vc ph bg wr) 34) (.cells (mcs none 0 0 none 0 0 false) 44))
  go_enter Try.func37, Try.ntmps37
  go_upto_region 1 with fail
  have hz0 := hid (show ((((w.alloc (.cells (mcs A n c B n d f0) 44)).alloc (.cells (wrc a f V vn vc ph bg wr) 34)).alloc (.cells (mcs none 0 0 none 0 0 false) 44)).alloc (.cells (wrc 0 0 none 0 0 0 0 0) 34)).heap.size = w.heap.size + 4 by simp)
  generalize (((w.alloc (.cells (mcs A n c B n d f0) 44)).alloc (.cells (wrc a f V vn vc ph bg wr) 34)).alloc (.cells (mcs none 0 0 none 0 0 false) 44)).alloc (.cells (wrc 0 0 none 0 0 0 0 0) 34) = W0 at *
  obtain ⟨y00, y01, y02, y03, y04, y05, yf0⟩ := PS.out.cells6
  go_upto_block 0 with fail
  clear y00 y01 y02 y03 y04 y05 yf0
  go_cut [7] (fun s7 wx => ∃ ok s', s7 = .bool ok ∧ s2 = wrFin s' ok ∧ RWMid w wx A n B m2 lo B0 V vn vc s')
  case first =>
    by_cases h4 : 4 ≤ ph
    · skip
      obtain ⟨rfl, rfl⟩ : m2 = (ws, ls, f0) ∧ s2 = ⟨a, f, vs, ph, bg, wr⟩ := by
        have h := HR.out
        unfold swriteF swrun at h
        dsimp only at h
        rw [if_neg (by omega), if_neg (by omega), if_neg (by omega), if_neg (by omega), if_neg (by simp)] at h
        exact ⟨congrArg Prod.fst h, congrArg Prod.snd h⟩
      clear HR
      have e0 : (ph == 0) = false := by simp; omega
      have e1 : (ph == 1) = false := by simp; omega
      have e2 : (ph == 2) = false := by simp; omega
      have e3 : (ph == 3) = false := by simp; omega
      obtain ⟨y00, y01, y02, y03, y04, y05, yf0⟩ := PS.out.cells6
      go_wp2_with fail
      go_meet
      exact ⟨true, ⟨a, f, vs, ph, bg, wr⟩, rfl, by unfold wrFin; rw [if_pos rfl], ⟨⟨A, c, B, d, PM.out, HM.out, fun _ _ h => h, HFA.out⟩, PS.out, HVI.out, QM.out, QS.out, HB.out⟩⟩
    obtain ⟨⟨⟨ws2, ls2, f2⟩, ⟨gx, gy⟩⟩, hst⟩ : ∃ r, r = stepM (ws, ls, f0) (wrAcc ⟨a, f, vs, ph, bg, wr⟩) := ⟨_, rfl⟩
    replace HPH := hid (show ph = 0 ∨ ph = 1 ∨ ph = 2 ∨ ph = 3 by have := HPH.out; omega)
    obtain ⟨rfl, hs2⟩ : m2 = (ws2, ls2, f2) ∧ s2 = wrFin (wrMid ⟨a, f, vs, ph, bg, wr⟩ gx gy) gy := by
      have h := HR.out
      rw [swriteF_at HPH.out, ← hst] at h
      exact ⟨congrArg Prod.fst h, congrArg Prod.snd h⟩
    have HS2 := hid hs2
    unfold wrAcc at hst
    dsimp only at hst
    clear hs2 HR h4
    by_cases h0 : ph = 0
    · subst h0
      rw [if_pos rfl] at hst
      have HST := hid hst
      clear hst
      obtain ⟨y00, y01, y02, yf0⟩ := PM.out.cells3
      obtain ⟨y10, y11, y12, y13, y14, y15, yf1⟩ := PS.out.cells6
      go_wp2_with fail
      clear y00 y01 y02 yf0 y10 y11 y12 y13 y14 y15 yf1
      refine (rload_any A n c B d f0 ws ls a _ HM.out).mono ?_
      rw [← HST.out]
      rintro e w3 ⟨A2, c2, B2, d2, rfl, hmn, hb, htr⟩
      dsimp only at hmn ⊢
      have MN := hid hmn
      have HFA2 := hid (show ∀ g, w.heap.size ≤ g → g < w.heap.size + 4 → FarM n A2 B2 g from fun g h1 h2 => htr g (by have := QS.out.lt; omega) (HFA.out g h1 h2))
      have TR := hid (show ∀ g, g < w.heap.size → FarM n A B g → FarM n A2 B2 g from fun g hg hf => htr g (by have := QS.out.lt; omega) hf)
      clear hmn htr HM HFA
      replace HVI := hid (HVI.out.step hb); replace PM := hid (PM.out.step hb); replace PS := hid (PS.out.step hb); replace QM := hid (QM.out.step hb); replace QS := hid (QS.out.step hb); replace HB := hid (below_then HB.out hb)
      clear hb
      have HM := MN; have HFA := HFA2
      clear MN HFA2
      obtain ⟨y00, y01, y02, yf0⟩ := PM.out.cells3
      go_upto_region 6 with fail
      clear y00 y01 y02 yf0
      have PX := PM
      have hbk0 : Blk (w3.setCell ⟨w.heap.size, 0, none⟩ (.slice A2 n c2)) (w.heap.size) 44 #[.slice A2 n c2, .slice B n d, .bool f0] := PM.out.setCell 0 (.slice A2 n c2)
      have hbk1 : Blk ((w3.setCell ⟨w.heap.size, 0, none⟩ (.slice A2 n c2)).setCell ⟨w.heap.size, 1, none⟩ (.slice B2 n d2)) (w.heap.size) 44 #[.slice A2 n c2, .slice B2 n d2, .bool f0] := hbk0.setCell 1 (.slice B2 n d2)
      have hbk2 : Blk (((w3.setCell ⟨w.heap.size, 0, none⟩ (.slice A2 n c2)).setCell ⟨w.heap.size, 1, none⟩ (.slice B2 n d2)).setCell ⟨w.heap.size, 2, none⟩ (.bool f2)) (w.heap.size) 44 #[.slice A2 n c2, .slice B2 n d2, .bool f2] := hbk1.setCell 2 (.bool f2)
      have hgr : w3.grownBy (((w3.setCell ⟨w.heap.size, 0, none⟩ (.slice A2 n c2)).setCell ⟨w.heap.size, 1, none⟩ (.slice B2 n d2)).setCell ⟨w.heap.size, 2, none⟩ (.bool f2)) (some (w.heap.size)) := (grown_set (grown_set (grown_set (World.grownBy.refl w3 (some (w.heap.size))) 0 (.slice A2 n c2)) 1 (.slice B2 n d2)) 2 (.bool f2))
      replace PM := hid hbk2
      clear hbk0 hbk1 hbk2
      generalize ((w3.setCell ⟨w.heap.size, 0, none⟩ (.slice A2 n c2)).setCell ⟨w.heap.size, 1, none⟩ (.slice B2 n d2)).setCell ⟨w.heap.size, 2, none⟩ (.bool f2) = W4 at *
      replace PS := hid (PS.out.grown hgr (by simp <;> omega))
      replace QM := hid (QM.out.grown hgr (by simp <;> omega))
      replace QS := hid (QS.out.grown hgr (by simp <;> omega))
      replace HM := hid (mem_kept HM.out (HFA.out _ (by omega) (by omega)) hgr)
      replace HVI := hid (HVI.out.kept PX.out tm1 (by have := hB0.out; omega) hgr)
      replace HB := hid (HB.out.grown hgr HB.out.size (fun r e => by cases e; omega))
      clear hgr
      clear PX
      cases gy
      · skip
        obtain ⟨y00, y01, y02, y03, y04, y05, yf0⟩ := PS.out.cells6
        go_wp2_with fail
        go_meet
        clear y00 y01 y02 y03 y04 y05 yf0
        refine ⟨false, ⟨a, f, vs, 0, bg, wr⟩, rfl, ?_, ⟨⟨A2, c2, B2, d2, PM.out, HM.out, TR.out, HFA.out⟩, PS.out, HVI.out, QM.out, QS.out, HB.out⟩⟩
        rw [HS2.out]
        unfold wrMid
        dsimp only
        rw [if_pos rfl, if_neg (fun h => Bool.noConfusion h.1)]
      by_cases hx : gx % 2 = 0
      · have ex : (gx.tmod 2 == 0) = true := by rw [tmod2]; exact decide_eq_true hx
        obtain ⟨y00, y01, y02, y03, y04, y05, yf0⟩ := PS.out.cells6
        go_wp2_with fail
        go_meet
        clear y00 y01 y02 y03 y04 y05 yf0
        have PX := PS
        have hbk0 : Blk (W4.setCell ⟨w.heap.size + 1, 4, none⟩ (.int .u64 gx)) (w.heap.size + 1) 34 #[.int .i64 a, .int .i64 f, .slice V vn vc, .int .i64 0, .int .u64 gx, .int .i64 wr] := PS.out.setCell 4 (.int .u64 gx)
        have hbk1 : Blk ((W4.setCell ⟨w.heap.size + 1, 4, none⟩ (.int .u64 gx)).setCell ⟨w.heap.size + 1, 3, none⟩ (.int .i64 1)) (w.heap.size + 1) 34 #[.int .i64 a, .int .i64 f, .slice V vn vc, .int .i64 1, .int .u64 gx, .int .i64 wr] := hbk0.setCell 3 (.int .i64 1)
        have hgr : W4.grownBy ((W4.setCell ⟨w.heap.size + 1, 4, none⟩ (.int .u64 gx)).setCell ⟨w.heap.size + 1, 3, none⟩ (.int .i64 1)) (some (w.heap.size + 1)) := (grown_set (grown_set (World.grownBy.refl W4 (some (w.heap.size + 1))) 4 (.int .u64 gx)) 3 (.int .i64 1))
        replace PS := hid hbk1
        clear hbk0 hbk1
        generalize (W4.setCell ⟨w.heap.size + 1, 4, none⟩ (.int .u64 gx)).setCell ⟨w.heap.size + 1, 3, none⟩ (.int .i64 1) = W6 at *
        replace PM := hid (PM.out.grown hgr (by simp <;> omega))
        replace QM := hid (QM.out.grown hgr (by simp <;> omega))
        replace QS := hid (QS.out.grown hgr (by simp <;> omega))
        replace HM := hid (mem_kept HM.out (HFA.out _ (by omega) (by omega)) hgr)
        replace HVI := hid (HVI.out.kept PX.out tq1 (by have := hB0.out; omega) hgr)
        replace HB := hid (HB.out.grown hgr HB.out.size (fun r e => by cases e; omega))
        clear hgr
        clear PX
        refine ⟨true, ⟨a, f, vs, 1, gx, wr⟩, rfl, ?_, ⟨⟨A2, c2, B2, d2, PM.out, HM.out, TR.out, HFA.out⟩, PS.out, HVI.out, QM.out, QS.out, HB.out⟩⟩
        rw [HS2.out]
        unfold wrMid
        dsimp only
        rw [if_pos rfl, if_pos ⟨rfl, hx⟩]
      have ex : (gx.tmod 2 == 0) = false := by rw [tmod2]; exact decide_eq_false hx
      obtain ⟨y00, y01, y02, y03, y04, y05, yf0⟩ := PS.out.cells6
      go_wp2_with fail
      go_meet
      clear y00 y01 y02 y03 y04 y05 yf0
      refine ⟨true, ⟨a, f, vs, 0, bg, wr⟩, rfl, ?_, ⟨⟨A2, c2, B2, d2, PM.out, HM.out, TR.out, HFA.out⟩, PS.out, HVI.out, QM.out, QS.out, HB.out⟩⟩
      rw [HS2.out]
      unfold wrMid
      dsimp only
      rw [if_pos rfl, if_neg (fun h => hx h.2)]
    rw [if_neg h0] at hst
    have e0 : (ph == 0) = false := by simpa using h0
    by_cases h1 : ph = 1
    · subst h1
      rw [if_pos rfl] at hst
      clear e0
      obtain ⟨b2, hb2⟩ : ∃ b2, b2 = IntKind.u64.wrap (bg + 1) := ⟨_, rfl⟩
      rw [← hb2] at hst
      have HST := hid hst
      have hwb := hb2.symm
      clear hst hb2
      obtain ⟨y00, y01, y02, yf0⟩ := PM.out.cells3
      obtain ⟨y10, y11, y12, y13, y14, y15, yf1⟩ := PS.out.cells6
      go_wp2_with fail
      clear y00 y01 y02 yf0 y10 y11 y12 y13 y14 y15 yf1 hwb
      refine (rstore_any A n c B d f0 ws ls a b2 _ HM.out).mono ?_
      rw [← HST.out]
      rintro e w3 ⟨A2, c2, B2, d2, rfl, hmn, hb, htr⟩
      dsimp only at hmn ⊢
      have MN := hid hmn
      have HFA2 := hid (show ∀ g, w.heap.size ≤ g → g < w.heap.size + 4 → FarM n A2 B2 g from fun g h1 h2 => htr g (by have := QS.out.lt; omega) (HFA.out g h1 h2))
      have TR := hid (show ∀ g, g < w.heap.size → FarM n A B g → FarM n A2 B2 g from fun g hg hf => htr g (by have := QS.out.lt; omega) hf)
      clear hmn htr HM HFA
      replace HVI := hid (HVI.out.step hb); replace PM := hid (PM.out.step hb); replace PS := hid (PS.out.step hb); replace QM := hid (QM.out.step hb); replace QS := hid (QS.out.step hb); replace HB := hid (below_then HB.out hb)
      clear hb
      have HM := MN; have HFA := HFA2
      clear MN HFA2
      obtain ⟨y00, y01, y02, yf0⟩ := PM.out.cells3
      go_upto_region 10 with fail
      clear y00 y01 y02 yf0
      have PX := PM
      have hbk0 : Blk (w3.setCell ⟨w.heap.size, 0, none⟩ (.slice A2 n c2)) (w.heap.size) 44 #[.slice A2 n c2, .slice B n d, .bool f0] := PM.out.setCell 0 (.slice A2 n c2)
      have hbk1 : Blk ((w3.setCell ⟨w.heap.size, 0, none⟩ (.slice A2 n c2)).setCell ⟨w.heap.size, 1, none⟩ (.slice B2 n d2)) (w.heap.size) 44 #[.slice A2 n c2, .slice B2 n d2, .bool f0] := hbk0.setCell 1 (.slice B2 n d2)
      have hbk2 : Blk (((w3.setCell ⟨w.heap.size, 0, none⟩ (.slice A2 n c2)).setCell ⟨w.heap.size, 1, none⟩ (.slice B2 n d2)).setCell ⟨w.heap.size, 2, none⟩ (.bool f2)) (w.heap.size) 44 #[.slice A2 n c2, .slice B2 n d2, .bool f2] := hbk1.setCell 2 (.bool f2)
      have hgr : w3.grownBy (((w3.setCell ⟨w.heap.size, 0, none⟩ (.slice A2 n c2)).setCell ⟨w.heap.size, 1, none⟩ (.slice B2 n d2)).setCell ⟨w.heap.size, 2, none⟩ (.bool f2)) (some (w.heap.size)) := (grown_set (grown_set (grown_set (World.grownBy.refl w3 (some (w.heap.size))) 0 (.slice A2 n c2)) 1 (.slice B2 n d2)) 2 (.bool f2))
      replace PM := hid hbk2
      clear hbk0 hbk1 hbk2
      generalize ((w3.setCell ⟨w.heap.size, 0, none⟩ (.slice A2 n c2)).setCell ⟨w.heap.size, 1, none⟩ (.slice B2 n d2)).setCell ⟨w.heap.size, 2, none⟩ (.bool f2) = W4 at *
      replace PS := hid (PS.out.grown hgr (by simp <;> omega))
      replace QM := hid (QM.out.grown hgr (by simp <;> omega))
      replace QS := hid (QS.out.grown hgr (by simp <;> omega))
      replace HM := hid (mem_kept HM.out (HFA.out _ (by omega) (by omega)) hgr)
      replace HVI := hid (HVI.out.kept PX.out tm1 (by have := hB0.out; omega) hgr)
      replace HB := hid (HB.out.grown hgr HB.out.size (fun r e => by cases e; omega))
      clear hgr
      clear PX
      obtain ⟨y00, y01, y02, y03, y04, y05, yf0⟩ := PS.out.cells6
      go_wp2_with fail
      go_meet
      clear y00 y01 y02 y03 y04 y05 yf0
      have PX := PS
      have hbk0 : Blk (W4.setCell ⟨w.heap.size + 1, 3, none⟩ (.int .i64 2)) (w.heap.size + 1) 34 #[.int .i64 a, .int .i64 f, .slice V vn vc, .int .i64 2, .int .u64 bg, .int .i64 wr] := PS.out.setCell 3 (.int .i64 2)
      have hgr : W4.grownBy (W4.setCell ⟨w.heap.size + 1, 3, none⟩ (.int .i64 2)) (some (w.heap.size + 1)) := (grown_set (World.grownBy.refl W4 (some (w.heap.size + 1))) 3 (.int .i64 2))
      replace PS := hid hbk0
      clear hbk0
      generalize W4.setCell ⟨w.heap.size + 1, 3, none⟩ (.int .i64 2) = W6 at *
      replace PM := hid (PM.out.grown hgr (by simp <;> omega))
      replace QM := hid (QM.out.grown hgr (by simp <;> omega))
      replace QS := hid (QS.out.grown hgr (by simp <;> omega))
      replace HM := hid (mem_kept HM.out (HFA.out _ (by omega) (by omega)) hgr)
      replace HVI := hid (HVI.out.kept PX.out tq1 (by have := hB0.out; omega) hgr)
      replace HB := hid (HB.out.grown hgr HB.out.size (fun r e => by cases e; omega))
      clear hgr
      clear PX
      refine ⟨gy, ⟨a, f, vs, 2, bg, wr⟩, rfl, ?_, ⟨⟨A2, c2, B2, d2, PM.out, HM.out, TR.out, HFA.out⟩, PS.out, HVI.out, QM.out, QS.out, HB.out⟩⟩
      rw [HS2.out]
      unfold wrMid
      dsimp only
      rw [if_neg (by decide), if_pos rfl]
    rw [if_neg h1] at hst
    have e1 : (ph == 1) = false := by simpa using h1
    by_cases h2 : ph = 2
    · subst h2
      rw [if_pos rfl] at hst
      clear e0 e1 h0 h1
      obtain ⟨hvn, hf0, hf1, hw⟩ := HWR.out
      obtain ⟨hwr0, hwr1⟩ := hw rfl
      obtain ⟨wi, rfl⟩ := Int.eq_ofNat_of_zero_le hwr0
      rw [Int.toNat_natCast] at hst
      have hwi := hid (show wi < vn by omega)
      obtain ⟨gb, go, rfl, _, _, _⟩ := (HVI.out.sl).row (by have := hwi.out; omega)
      obtain ⟨xv, hxv⟩ : ∃ xv, xv = vs[wi]?.getD 0 := ⟨_, rfl⟩
      rw [← hxv] at hst
      have HXV := hid hxv; have HST := hid hst
      have hw1 : IntKind.i64.wrap (f + (wi : Int)) = f + (wi : Int) := by rw [IntKind.wrap_i64]; omega
      have hw2 : IntKind.i64.wrap ((wi : Int) + 1) = (wi : Int) + 1 := by rw [IntKind.wrap_i64]; omega
      clear hst hxv hw
      obtain ⟨y00, y01, y02, y03, y04, y05, yf0⟩ := PS.out.cells6
      go_upto_region 12 with fail
      clear y00 y01 y02 y03 y04 y05 yf0
      have QSL := hid (show w.heap.size + 4 ≤ W0.heap.size by have := QS.out.lt; omega)
      have bx := (Below.refl W0.heap.size W0).drew
      replace HM := hid (HM.out.step bx); replace HVI := hid (HVI.out.step bx); replace PM := hid (PM.out.step bx); replace PS := hid (PS.out.step bx); replace QM := hid (QM.out.step bx); replace QS := hid (QS.out.step bx); replace HB := hid (below_then HB.out bx)
      clear bx
      have hszd := hid (show W0.drew.heap.size = W0.heap.size from rfl)
      refine wp_region_noPanic ?_
      refine wp_region_held_drew (S := (fun W' : World => W'.cell? ⟨w.heap.size + 1, 0, none⟩ = some (.int .i64 a) ∧ W'.cell? ⟨w.heap.size + 1, 1, none⟩ = some (.int .i64 f) ∧ W'.cell? ⟨w.heap.size + 1, 2, none⟩ = some (.slice (some ⟨gb, go, none⟩) vn vc) ∧ W'.cell? ⟨w.heap.size + 1, 3, none⟩ = some (.int .i64 2) ∧ W'.cell? ⟨w.heap.size + 1, 4, none⟩ = some (.int .u64 bg) ∧ W'.cell? ⟨w.heap.size + 1, 5, none⟩ = some (.int .i64 (wi : Int)) ∧ W'.cell? ⟨gb, go + wi, none⟩ = some (.int .u64 xv))) (by kernel_rfl) ⟨PS.out.cells6.1, PS.out.cells6.2.1, PS.out.cells6.2.2.1, PS.out.cells6.2.2.2.1, PS.out.cells6.2.2.2.2.1, PS.out.cells6.2.2.2.2.2.1, (row_vin HVI.out hwi.out HXV.out)⟩ (fun hS => ?_)
      generalize W0.drew = Wd at *
      refine wpAnyH_take (i := 1) (v := ?_) (by simp only [List.getElem?_toArray, List.getElem?_cons_succ, List.getElem?_cons_zero]; rfl) (by kernel_rfl) (by kernel_rfl) (by kernel_rfl) (fun _ _ _ h => h) (Or.inl ⟨by rfl, ?_⟩) hS ?_
      rotate_left
      · intro w' hSw; (try dsimp only at hSw); go_split_ands; go_simp; (try with_reducible rfl)
      (try simp only [Act.put, List.setIfInBounds_toArray, List.set_cons_zero, List.set_cons_succ])
      refine wpAnyH_take (i := 2) (v := ?_) (by simp only [List.getElem?_toArray, List.getElem?_cons_succ, List.getElem?_cons_zero]; rfl) (by kernel_rfl) (by kernel_rfl) (by kernel_rfl) (fun _ _ _ h => h) (Or.inl ⟨by rfl, ?_⟩) hS ?_
      rotate_left
      · intro w' hSw; (try dsimp only at hSw); go_split_ands; go_simp; (try with_reducible rfl)
      (try simp only [Act.put, List.setIfInBounds_toArray, List.set_cons_zero, List.set_cons_succ])
      refine wpAnyH_take (i := 3) (v := ?_) (by simp only [List.getElem?_toArray, List.getElem?_cons_succ, List.getElem?_cons_zero]; rfl) (by kernel_rfl) (by kernel_rfl) (by kernel_rfl) (fun _ _ _ h => h) (Or.inl ⟨by rfl, ?_⟩) hS ?_
      rotate_left
      · intro w' hSw; (try dsimp only at hSw); go_split_ands; go_simp; (try with_reducible rfl)
      (try simp only [Act.put, List.setIfInBounds_toArray, List.set_cons_zero, List.set_cons_succ])
      refine wpAnyH_take (i := 4) (v := ?_) (by simp only [List.getElem?_toArray, List.getElem?_cons_succ, List.getElem?_cons_zero]; rfl) (by kernel_rfl) (by kernel_rfl) (by kernel_rfl) (fun _ _ _ h => h) (Or.inl ⟨by rfl, ?_⟩) hS ?_
      rotate_left
      · intro w' hSw; (try dsimp only at hSw); go_split_ands; go_simp; (try with_reducible rfl)
      (try simp only [Act.put, List.setIfInBounds_toArray, List.set_cons_zero, List.set_cons_succ])
      refine wpAnyH_take (i := 5) (v := ?_) (by simp only [List.getElem?_toArray, List.getElem?_cons_succ, List.getElem?_cons_zero]; rfl) (by kernel_rfl) (by kernel_rfl) (by kernel_rfl) (fun _ _ _ h => h) (Or.inl ⟨by rfl, ?_⟩) hS ?_
      rotate_left
      · intro w' hSw; (try dsimp only at hSw); go_split_ands; go_simp; (try with_reducible rfl)
      (try simp only [Act.put, List.setIfInBounds_toArray, List.set_cons_zero, List.set_cons_succ])
      refine wpAnyH_take (i := 6) (v := ?_) (by simp only [List.getElem?_toArray, List.getElem?_cons_succ, List.getElem?_cons_zero]; rfl) (by kernel_rfl) (by kernel_rfl) (by kernel_rfl) (fun _ _ _ h => h) (Or.inl ⟨by rfl, ?_⟩) hS ?_
      rotate_left
      · intro w' hSw; (try dsimp only at hSw); go_split_ands; go_simp; (try with_reducible rfl)
      (try simp only [Act.put, List.setIfInBounds_toArray, List.set_cons_zero, List.set_cons_succ])
      refine wpAnyH_take (i := 7) (v := ?_) (by simp only [List.getElem?_toArray, List.getElem?_cons_succ, List.getElem?_cons_zero]; rfl) (by kernel_rfl) (by kernel_rfl) (by kernel_rfl) (fun _ _ _ h => h) (Or.inl ⟨by rfl, ?_⟩) hS ?_
      rotate_left
      · intro w' hSw; (try dsimp only at hSw); go_split_ands; go_simp; (try with_reducible rfl)
      (try simp only [Act.put, List.setIfInBounds_toArray, List.set_cons_zero, List.set_cons_succ])
      refine wpAnyH_take (i := 8) (v := ?_) (by simp only [List.getElem?_toArray, List.getElem?_cons_succ, List.getElem?_cons_zero]; rfl) (by kernel_rfl) (by kernel_rfl) (by kernel_rfl) (fun _ _ _ h => h) (Or.inl ⟨by rfl, ?_⟩) hS ?_
      rotate_left
      · intro w' hSw; (try dsimp only at hSw); go_split_ands; go_simp; (try with_reducible rfl)
      (try simp only [Act.put, List.setIfInBounds_toArray, List.set_cons_zero, List.set_cons_succ])
      refine wpAnyH_take (i := 9) (v := ?_) (by simp only [List.getElem?_toArray, List.getElem?_cons_succ, List.getElem?_cons_zero]; rfl) (by kernel_rfl) (by kernel_rfl) (by kernel_rfl) (fun _ _ _ h => h) (Or.inl ⟨by rfl, ?_⟩) hS ?_
      rotate_left
      · intro w' hSw; (try dsimp only at hSw); go_split_ands; go_simp; (try with_reducible rfl)
      (try simp only [Act.put, List.setIfInBounds_toArray, List.set_cons_zero, List.set_cons_succ])
      refine wpAnyH_take (i := 10) (v := ?_) (by simp only [List.getElem?_toArray, List.getElem?_cons_succ, List.getElem?_cons_zero]; rfl) (by kernel_rfl) (by kernel_rfl) (by kernel_rfl) (fun _ _ _ h => h) (Or.inl ⟨by rfl, ?_⟩) hS ?_
      rotate_left
      · intro w' hSw; (try dsimp only at hSw); go_split_ands; go_simp; (try with_reducible rfl)
      (try simp only [Act.put, List.setIfInBounds_toArray, List.set_cons_zero, List.set_cons_succ])
      refine wpAnyH_take (i := 11) (v := ?_) (by simp only [List.getElem?_toArray, List.getElem?_cons_succ, List.getElem?_cons_zero]; rfl) (by kernel_rfl) (by kernel_rfl) (by kernel_rfl) (fun _ _ _ h => h) (Or.inl ⟨by rfl, ?_⟩) hS ?_
      rotate_left
      · intro w' hSw; (try dsimp only at hSw); go_split_ands; go_simp; (try with_reducible rfl)
      (try simp only [Act.put, List.setIfInBounds_toArray, List.set_cons_zero, List.set_cons_succ])
      refine wpAnyH_ready (rs := [0]) (by kernel_rfl) (by simp) ?_
      refine AllReadyH.cons (by simp only [List.getElem?_toArray, List.getElem?_cons_succ, List.getElem?_cons_zero]; rfl) (fun K hK => ?_) ?_
      · skip
        obtain ⟨y00, y01, y02, yf0⟩ := PM.out.cells3
        go_simp
        clear y00 y01 y02 yf0
        refine hK.out _ _ ⟨PS.out.cells6.1, PS.out.cells6.2.1, PS.out.cells6.2.2.1, PS.out.cells6.2.2.2.1, PS.out.cells6.2.2.2.2.1, PS.out.cells6.2.2.2.2.2.1, (row_vin HVI.out hwi.out HXV.out)⟩ (fun hS' => ?_)
        clear hK K hS
        have hS := hS'
        clear hS'
        (try simp only [Act.put, List.setIfInBounds_toArray, List.set_cons_zero, List.set_cons_succ])
        refine wpAnyH_ready (rs := [12]) (by kernel_rfl) (by simp) ?_
        refine AllReadyH.cons (by simp only [List.getElem?_toArray, List.getElem?_cons_succ, List.getElem?_cons_zero]; rfl) (fun K hK => ?_) ?_
        · skip
          go_simp
          refine (rstore_any A n c B d f0 ws ls (f + (wi : Int)) xv _ HM.out).mono ?_
          rintro e w3 ⟨A2, c2, B2, d2, rfl, hmn, hb, htr⟩
          have hsz1 := hid (show Wd.heap.size ≤ w3.heap.size from hb.size)
          replace HM := hid (HM.out.step hb); replace HVI := hid (HVI.out.step hb); replace PM := hid (PM.out.step hb); replace PS := hid (PS.out.step hb); replace QM := hid (QM.out.step hb); replace QS := hid (QS.out.step hb); replace HB := hid (below_then HB.out hb)
          clear hb
          rw [← HST.out] at hmn ⊢
          dsimp only at hmn ⊢
          have MN := hid hmn
          have HFA2 := hid (show ∀ g, w.heap.size ≤ g → g < w.heap.size + 4 → FarM n A2 B2 g from fun g h1 h2 => htr g (by have := hszd.out; have := QSL.out; omega) (HFA.out g h1 h2))
          have TR := hid (show ∀ g, g < w.heap.size → FarM n A B g → FarM n A2 B2 g from fun g hg hf => htr g (by have := hszd.out; have := QSL.out; omega) hf)
          clear hmn htr HM HFA
          have HM := MN; have HFA := HFA2
          clear MN HFA2
          go_wp2_with fail
          refine hK.out _ _ ⟨PS.out.cells6.1, PS.out.cells6.2.1, PS.out.cells6.2.2.1, PS.out.cells6.2.2.2.1, PS.out.cells6.2.2.2.2.1, PS.out.cells6.2.2.2.2.2.1, (row_vin HVI.out hwi.out HXV.out)⟩ (fun hS' => ?_)
          clear hK K hS
          have hS := hS'
          clear hS'
          (try simp only [Act.put, List.setIfInBounds_toArray, List.set_cons_zero, List.set_cons_succ])
          refine wpAnyH_take (i := 13) (v := ?_) (by simp only [List.getElem?_toArray, List.getElem?_cons_succ, List.getElem?_cons_zero]; rfl) (by kernel_rfl) (by kernel_rfl) (by kernel_rfl) (fun _ _ _ h => h) (Or.inl ⟨by rfl, ?_⟩) hS ?_
          rotate_left
          · intro w' hSw; (try dsimp only at hSw); go_split_ands; go_simp; (try with_reducible rfl)
          (try simp only [Act.put, List.setIfInBounds_toArray, List.set_cons_zero, List.set_cons_succ])
          refine wpAnyH_take (i := 14) (v := ?_) (by simp only [List.getElem?_toArray, List.getElem?_cons_succ, List.getElem?_cons_zero]; rfl) (by kernel_rfl) (by kernel_rfl) (by kernel_rfl) (fun _ _ _ h => h) (Or.inl ⟨by rfl, ?_⟩) hS ?_
          rotate_left
          · intro w' hSw; (try dsimp only at hSw); go_split_ands; go_simp; (try with_reducible rfl)
          (try simp only [Act.put, List.setIfInBounds_toArray, List.set_cons_zero, List.set_cons_succ])
          refine wpAnyH_take (i := 15) (v := ?_) (by simp only [List.getElem?_toArray, List.getElem?_cons_succ, List.getElem?_cons_zero]; rfl) (by kernel_rfl) (by kernel_rfl) (by kernel_rfl) (fun _ _ _ h => h) (Or.inl ⟨by rfl, ?_⟩) hS ?_
          rotate_left
          · intro w' hSw; (try dsimp only at hSw); go_split_ands; go_simp; (try with_reducible rfl)
          (try simp only [Act.put, List.setIfInBounds_toArray, List.set_cons_zero, List.set_cons_succ])
          refine wpAnyH_ready (rs := [16]) (by kernel_rfl) (by simp) ?_
          refine AllReadyH.cons (by simp only [List.getElem?_toArray, List.getElem?_cons_succ, List.getElem?_cons_zero]; rfl) (fun K hK => ?_) ?_
          · skip
            obtain ⟨y00, y01, y02, yf0⟩ := PM.out.cells3
            go_simp
            clear y00 y01 y02 yf0
            refine named_store3 PM.out ?_
            intro Wc16 hbk hgr hsz
            have hsz16 := hid hsz
            replace PS := hid (PS.out.grown hgr (by simp <;> omega))
            replace QM := hid (QM.out.grown hgr (by simp <;> omega))
            replace QS := hid (QS.out.grown hgr (by simp <;> omega))
            replace HM := hid (mem_kept HM.out (HFA.out _ (by omega) (by omega)) hgr)
            replace HVI := hid (HVI.out.kept PM.out tm1 (by have := hB0.out; omega) hgr)
            replace HB := hid (HB.out.grown hgr HB.out.size (fun r e => by cases e; omega))
            replace PM := hid hbk
            clear hbk hgr hsz
            refine hK.out _ _ ⟨PS.out.cells6.1, PS.out.cells6.2.1, PS.out.cells6.2.2.1, PS.out.cells6.2.2.2.1, PS.out.cells6.2.2.2.2.1, PS.out.cells6.2.2.2.2.2.1, (row_vin HVI.out hwi.out HXV.out)⟩ (fun hS' => ?_)
            clear hK K hS
            have hS := hS'
            clear hS'
            (try simp only [Act.put, List.setIfInBounds_toArray, List.set_cons_zero, List.set_cons_succ])
            refine wpAnyH_take (i := 17) (v := ?_) (by simp only [List.getElem?_toArray, List.getElem?_cons_succ, List.getElem?_cons_zero]; rfl) (by kernel_rfl) (by kernel_rfl) (by kernel_rfl) (fun _ _ _ h => h) (Or.inl ⟨by rfl, ?_⟩) hS ?_
            rotate_left
            · intro w' hSw; (try dsimp only at hSw); go_split_ands; go_simp; (try with_reducible rfl)
            (try simp only [Act.put, List.setIfInBounds_toArray, List.set_cons_zero, List.set_cons_succ])
            refine wpAnyH_done (by kernel_rfl) ?_ _
            refine NoPanic.normal ?_
            clear hS
            cases gy
            · have e9 : ((wi : Int) == (vn : Int)) = false := by have := hwi.out; simp; omega
              obtain ⟨y00, y01, y02, y03, y04, y05, yf0⟩ := PS.out.cells6
              go_wp2_with fail
              go_meet
              clear y00 y01 y02 y03 y04 y05 yf0
              refine ⟨false, ⟨a, f, vs, 2, bg, (wi : Int)⟩, rfl, ?_, ⟨⟨A2, c2, B2, d2, PM.out, HM.out, TR.out, HFA.out⟩, PS.out, HVI.out, QM.out, QS.out, HB.out⟩⟩
              rw [HS2.out]
              unfold wrMid
              dsimp only
              rw [if_neg (by decide), if_neg (by decide), if_pos rfl, if_neg (fun h => Bool.noConfusion h)]
            obtain ⟨y00, y01, y02, y03, y04, y05, yf0⟩ := PS.out.cells6
            go_upto_region 15 with fail
            clear y00 y01 y02 y03 y04 y05 yf0
            have PX := PS
            have hbk0 : Blk (Wc16.setCell ⟨w.heap.size + 1, 5, none⟩ (.int .i64 ((wi : Int) + 1))) (w.heap.size + 1) 34 #[.int .i64 a, .int .i64 f, .slice (some ⟨gb, go, none⟩) vn vc, .int .i64 2, .int .u64 bg, .int .i64 ((wi : Int) + 1)] := PS.out.setCell 5 (.int .i64 ((wi : Int) + 1))
            have hgr : Wc16.grownBy (Wc16.setCell ⟨w.heap.size + 1, 5, none⟩ (.int .i64 ((wi : Int) + 1))) (some (w.heap.size + 1)) := (grown_set (World.grownBy.refl Wc16 (some (w.heap.size + 1))) 5 (.int .i64 ((wi : Int) + 1)))
            replace PS := hid hbk0
            clear hbk0
            generalize Wc16.setCell ⟨w.heap.size + 1, 5, none⟩ (.int .i64 ((wi : Int) + 1)) = W5 at *
            replace PM := hid (PM.out.grown hgr (by simp <;> omega))
            replace QM := hid (QM.out.grown hgr (by simp <;> omega))
            replace QS := hid (QS.out.grown hgr (by simp <;> omega))
            replace HM := hid (mem_kept HM.out (HFA.out _ (by omega) (by omega)) hgr)
            replace HVI := hid (HVI.out.kept PX.out tq1 (by have := hB0.out; omega) hgr)
            replace HB := hid (HB.out.grown hgr HB.out.size (fun r e => by cases e; omega))
            clear hgr
            clear PX
            by_cases hm : (wi : Int) + 1 = (vn : Int)
            · have em : ((wi : Int) + 1 == (vn : Int)) = true := by simpa using hm
              obtain ⟨y00, y01, y02, y03, y04, y05, yf0⟩ := PS.out.cells6
              go_wp2_with fail
              go_meet
              clear y00 y01 y02 y03 y04 y05 yf0
              have PX := PS
              have hbk0 : Blk (W5.setCell ⟨w.heap.size + 1, 3, none⟩ (.int .i64 3)) (w.heap.size + 1) 34 #[.int .i64 a, .int .i64 f, .slice (some ⟨gb, go, none⟩) vn vc, .int .i64 3, .int .u64 bg, .int .i64 ((wi : Int) + 1)] := PS.out.setCell 3 (.int .i64 3)
              have hgr : W5.grownBy (W5.setCell ⟨w.heap.size + 1, 3, none⟩ (.int .i64 3)) (some (w.heap.size + 1)) := (grown_set (World.grownBy.refl W5 (some (w.heap.size + 1))) 3 (.int .i64 3))
              replace PS := hid hbk0
              clear hbk0
              generalize W5.setCell ⟨w.heap.size + 1, 3, none⟩ (.int .i64 3) = W6 at *
              replace PM := hid (PM.out.grown hgr (by simp <;> omega))
              replace QM := hid (QM.out.grown hgr (by simp <;> omega))
              replace QS := hid (QS.out.grown hgr (by simp <;> omega))
              replace HM := hid (mem_kept HM.out (HFA.out _ (by omega) (by omega)) hgr)
              replace HVI := hid (HVI.out.kept PX.out tq1 (by have := hB0.out; omega) hgr)
              replace HB := hid (HB.out.grown hgr HB.out.size (fun r e => by cases e; omega))
              clear hgr
              clear PX
              refine ⟨true, ⟨a, f, vs, 3, bg, ((wi : Int) + 1)⟩, rfl, ?_, ⟨⟨A2, c2, B2, d2, PM.out, HM.out, TR.out, HFA.out⟩, PS.out, HVI.out, QM.out, QS.out, HB.out⟩⟩
              rw [HS2.out]
              unfold wrMid
              dsimp only
              rw [if_neg (by decide), if_neg (by decide), if_pos rfl, if_pos rfl, if_pos (by rw [HLV.out]; exact hm)]
            have em : ((wi : Int) + 1 == (vn : Int)) = false := by simpa using hm
            obtain ⟨y00, y01, y02, y03, y04, y05, yf0⟩ := PS.out.cells6
            go_wp2_with fail
            go_meet
            clear y00 y01 y02 y03 y04 y05 yf0
            refine ⟨true, ⟨a, f, vs, 2, bg, ((wi : Int) + 1)⟩, rfl, ?_, ⟨⟨A2, c2, B2, d2, PM.out, HM.out, TR.out, HFA.out⟩, PS.out, HVI.out, QM.out, QS.out, HB.out⟩⟩
            rw [HS2.out]
            unfold wrMid
            dsimp only
            rw [if_neg (by decide), if_neg (by decide), if_pos rfl, if_pos rfl, if_neg (by rw [HLV.out]; exact hm)]
          exact AllReadyH.nil
        exact AllReadyH.nil
      exact AllReadyH.nil
    rw [if_neg h2] at hst
    obtain rfl : ph = 3 := by have := HPH.out; omega
    clear e0 e1 h0 h1 h2
    obtain ⟨b2, hb2⟩ : ∃ b2, b2 = IntKind.u64.wrap (bg + 2) := ⟨_, rfl⟩
    rw [← hb2] at hst
    have HST := hid hst
    have hwb := hb2.symm
    clear hst hb2
    obtain ⟨y00, y01, y02, yf0⟩ := PM.out.cells3
    obtain ⟨y10, y11, y12, y13, y14, y15, yf1⟩ := PS.out.cells6
    go_wp2_with fail
    clear y00 y01 y02 yf0 y10 y11 y12 y13 y14 y15 yf1 hwb
    refine (rstore_any A n c B d f0 ws ls a b2 _ HM.out).mono ?_
    rw [← HST.out]
    rintro e w3 ⟨A2, c2, B2, d2, rfl, hmn, hb, htr⟩
    dsimp only at hmn ⊢
    have MN := hid hmn
    have HFA2 := hid (show ∀ g, w.heap.size ≤ g → g < w.heap.size + 4 → FarM n A2 B2 g from fun g h1 h2 => htr g (by have := QS.out.lt; omega) (HFA.out g h1 h2))
    have TR := hid (show ∀ g, g < w.heap.size → FarM n A B g → FarM n A2 B2 g from fun g hg hf => htr g (by have := QS.out.lt; omega) hf)
    clear hmn htr HM HFA
    replace HVI := hid (HVI.out.step hb); replace PM := hid (PM.out.step hb); replace PS := hid (PS.out.step hb); replace QM := hid (QM.out.step hb); replace QS := hid (QS.out.step hb); replace HB := hid (below_then HB.out hb)
    clear hb
    have HM := MN; have HFA := HFA2
    clear MN HFA2
    obtain ⟨y00, y01, y02, yf0⟩ := PM.out.cells3
    go_upto_region 19 with fail
    clear y00 y01 y02 yf0
    have PX := PM
    have hbk0 : Blk (w3.setCell ⟨w.heap.size, 0, none⟩ (.slice A2 n c2)) (w.heap.size) 44 #[.slice A2 n c2, .slice B n d, .bool f0] := PM.out.setCell 0 (.slice A2 n c2)
    have hbk1 : Blk ((w3.setCell ⟨w.heap.size, 0, none⟩ (.slice A2 n c2)).setCell ⟨w.heap.size, 1, none⟩ (.slice B2 n d2)) (w.heap.size) 44 #[.slice A2 n c2, .slice B2 n d2, .bool f0] := hbk0.setCell 1 (.slice B2 n d2)
    have hbk2 : Blk (((w3.setCell ⟨w.heap.size, 0, none⟩ (.slice A2 n c2)).setCell ⟨w.heap.size, 1, none⟩ (.slice B2 n d2)).setCell ⟨w.heap.size, 2, none⟩ (.bool f2)) (w.heap.size) 44 #[.slice A2 n c2, .slice B2 n d2, .bool f2] := hbk1.setCell 2 (.bool f2)
    have hgr : w3.grownBy (((w3.setCell ⟨w.heap.size, 0, none⟩ (.slice A2 n c2)).setCell ⟨w.heap.size, 1, none⟩ (.slice B2 n d2)).setCell ⟨w.heap.size, 2, none⟩ (.bool f2)) (some (w.heap.size)) := (grown_set (grown_set (grown_set (World.grownBy.refl w3 (some (w.heap.size))) 0 (.slice A2 n c2)) 1 (.slice B2 n d2)) 2 (.bool f2))
    replace PM := hid hbk2
    clear hbk0 hbk1 hbk2
    generalize ((w3.setCell ⟨w.heap.size, 0, none⟩ (.slice A2 n c2)).setCell ⟨w.heap.size, 1, none⟩ (.slice B2 n d2)).setCell ⟨w.heap.size, 2, none⟩ (.bool f2) = W4 at *
    replace PS := hid (PS.out.grown hgr (by simp <;> omega))
    replace QM := hid (QM.out.grown hgr (by simp <;> omega))
    replace QS := hid (QS.out.grown hgr (by simp <;> omega))
    replace HM := hid (mem_kept HM.out (HFA.out _ (by omega) (by omega)) hgr)
    replace HVI := hid (HVI.out.kept PX.out tm1 (by have := hB0.out; omega) hgr)
    replace HB := hid (HB.out.grown hgr HB.out.size (fun r e => by cases e; omega))
    clear hgr
    clear PX
    obtain ⟨y00, y01, y02, y03, y04, y05, yf0⟩ := PS.out.cells6
    go_wp2_with fail
    go_meet
    clear y00 y01 y02 y03 y04 y05 yf0
    have PX := PS
    have hbk0 : Blk (W4.setCell ⟨w.heap.size + 1, 3, none⟩ (.int .i64 4)) (w.heap.size + 1) 34 #[.int .i64 a, .int .i64 f, .slice V vn vc, .int .i64 4, .int .u64 bg, .int .i64 wr] := PS.out.setCell 3 (.int .i64 4)
    have hgr : W4.grownBy (W4.setCell ⟨w.heap.size + 1, 3, none⟩ (.int .i64 4)) (some (w.heap.size + 1)) := (grown_set (World.grownBy.refl W4 (some (w.heap.size + 1))) 3 (.int .i64 4))
    replace PS := hid hbk0
    clear hbk0
    generalize W4.setCell ⟨w.heap.size + 1, 3, none⟩ (.int .i64 4) = W6 at *
    replace PM := hid (PM.out.grown hgr (by simp <;> omega))
    replace QM := hid (QM.out.grown hgr (by simp <;> omega))
    replace QS := hid (QS.out.grown hgr (by simp <;> omega))
    replace HM := hid (mem_kept HM.out (HFA.out _ (by omega) (by omega)) hgr)
    replace HVI := hid (HVI.out.kept PX.out tq1 (by have := hB0.out; omega) hgr)
    replace HB := hid (HB.out.grown hgr HB.out.size (fun r e => by cases e; omega))
    clear hgr
    clear PX
    refine ⟨gy, ⟨a, f, vs, 4, bg, wr⟩, rfl, ?_, ⟨⟨A2, c2, B2, d2, PM.out, HM.out, TR.out, HFA.out⟩, PS.out, HVI.out, QM.out, QS.out, HB.out⟩⟩
    rw [HS2.out]
    unfold wrMid
    dsimp only
    rw [if_neg (by decide), if_neg (by decide), if_neg (by decide)]
  case rest =>
    rename World => W5
    obtain ⟨ok, s3, rfl, h0, ⟨⟨A2, c2, B2, d2, h1, h2, h9, h10⟩, h3, h4, h6, h7, h8⟩⟩ := hcut
    replace PM := hid h1; replace HM := hid h2; replace PS := hid h3; replace HVI := hid h4; replace QM := hid h6; replace QS := hid h7; replace HB := hid h8
    have TR := hid h9; replace HFA := hid h10
    clear HR h1 h2 h3 h4 h6 h7 h8 h9 h10
    unfold wrFin at h0
    cases ok
    · rw [if_neg (fun h => Bool.noConfusion h)] at h0
      subst h0
      obtain ⟨y00, y01, y02, y03, y04, y05, yf0⟩ := PS.out.cells6
      go_upto_region 22 with fail
      clear y00 y01 y02 y03 y04 y05 yf0
      have PX := PS
      have hbk0 : Blk (W5.setCell ⟨w.heap.size + 1, 3, none⟩ (.int .i64 5)) (w.heap.size + 1) 34 #[.int .i64 s3.a, .int .i64 s3.f, .slice V vn vc, .int .i64 5, .int .u64 s3.bg, .int .i64 s3.wr] := PS.out.setCell 3 (.int .i64 5)
      have hgr : W5.grownBy (W5.setCell ⟨w.heap.size + 1, 3, none⟩ (.int .i64 5)) (some (w.heap.size + 1)) := (grown_set (World.grownBy.refl W5 (some (w.heap.size + 1))) 3 (.int .i64 5))
      replace PS := hid hbk0
      clear hbk0
      generalize W5.setCell ⟨w.heap.size + 1, 3, none⟩ (.int .i64 5) = W6 at *
      replace PM := hid (PM.out.grown hgr (by simp <;> omega))
      replace QM := hid (QM.out.grown hgr (by simp <;> omega))
      replace QS := hid (QS.out.grown hgr (by simp <;> omega))
      replace HM := hid (mem_kept HM.out (HFA.out _ (by omega) (by omega)) hgr)
      replace HVI := hid (HVI.out.kept PX.out tq1 (by have := hB0.out; omega) hgr)
      replace HB := hid (HB.out.grown hgr HB.out.size (fun r e => by cases e; omega))
      clear hgr
      clear PX
      have bx := (Below.refl W6.heap.size W6).drew
      replace HM := hid (HM.out.step bx); replace HVI := hid (HVI.out.step bx); replace PM := hid (PM.out.step bx); replace PS := hid (PS.out.step bx); replace QM := hid (QM.out.step bx); replace QS := hid (QS.out.step bx); replace HB := hid (below_then HB.out bx)
      clear bx
      have hszd := hid (show W6.drew.heap.size = W6.heap.size from rfl)
      refine wp_region_noPanic ?_
      refine wp_region_held_drew (S := (fun W' : World => W'.cell? ⟨w.heap.size, 0, none⟩ = some (.slice A2 n c2) ∧ W'.cell? ⟨w.heap.size, 1, none⟩ = some (.slice B2 n d2) ∧ W'.cell? ⟨w.heap.size, 2, none⟩ = some (.bool m2.2.2) ∧ W'.cell? ⟨w.heap.size + 1, 0, none⟩ = some (.int .i64 s3.a) ∧ W'.cell? ⟨w.heap.size + 1, 1, none⟩ = some (.int .i64 s3.f) ∧ W'.cell? ⟨w.heap.size + 1, 2, none⟩ = some (.slice V vn vc) ∧ W'.cell? ⟨w.heap.size + 1, 3, none⟩ = some (.int .i64 5) ∧ W'.cell? ⟨w.heap.size + 1, 4, none⟩ = some (.int .u64 s3.bg) ∧ W'.cell? ⟨w.heap.size + 1, 5, none⟩ = some (.int .i64 s3.wr))) (by kernel_rfl) ⟨PM.out.cells3.1, PM.out.cells3.2.1, PM.out.cells3.2.2.1, PS.out.cells6.1, PS.out.cells6.2.1, PS.out.cells6.2.2.1, PS.out.cells6.2.2.2.1, PS.out.cells6.2.2.2.2.1, PS.out.cells6.2.2.2.2.2.1⟩ (fun hS => ?_)
      generalize W6.drew = Wd at *
      refine wpAnyH_take (i := 0) (v := ?_) (by simp only [List.getElem?_toArray, List.getElem?_cons_succ, List.getElem?_cons_zero]; rfl) (by kernel_rfl) (by kernel_rfl) (by kernel_rfl) (fun _ _ _ h => h) (Or.inl ⟨by rfl, ?_⟩) hS ?_
      rotate_left
      · intro w' hSw; (try dsimp only at hSw); go_split_ands; go_simp; (try with_reducible rfl)
      (try simp only [Act.put, List.setIfInBounds_toArray, List.set_cons_zero, List.set_cons_succ])
      refine wpAnyH_take (i := 1) (v := ?_) (by simp only [List.getElem?_toArray, List.getElem?_cons_succ, List.getElem?_cons_zero]; rfl) (by kernel_rfl) (by kernel_rfl) (by kernel_rfl) (fun _ _ _ h => h) (Or.inl ⟨by rfl, ?_⟩) hS ?_
      rotate_left
      · intro w' hSw; (try dsimp only at hSw); go_split_ands; go_simp; (try with_reducible rfl)
      (try simp only [Act.put, List.setIfInBounds_toArray, List.set_cons_zero, List.set_cons_succ])
      refine wpAnyH_ready (rs := [2]) (by kernel_rfl) (by simp) ?_
      refine AllReadyH.cons (by simp only [List.getElem?_toArray, List.getElem?_cons_succ, List.getElem?_cons_zero]; rfl) (fun K hK => ?_) ?_
      · skip
        obtain ⟨y00, y01, y02, yf0⟩ := QM.out.cells3
        go_simp
        clear y00 y01 y02 yf0
        refine named_store3 QM.out ?_
        intro Ws2 hbk hgr hsz
        have hsz0 := hid hsz
        clear hsz
        replace PM := hid (PM.out.grown hgr (by simp <;> omega))
        replace PS := hid (PS.out.grown hgr (by simp <;> omega))
        replace QS := hid (QS.out.grown hgr (by simp <;> omega))
        replace HM := hid (mem_kept HM.out (HFA.out _ (by omega) (by omega)) hgr)
        replace HVI := hid (HVI.out.kept QM.out tm1 (by have := hB0.out; omega) hgr)
        replace HB := hid (HB.out.grown hgr HB.out.size (fun r e => by cases e; omega))
        replace QM := hid hbk
        clear hbk hgr
        refine hK.out _ _ ⟨PM.out.cells3.1, PM.out.cells3.2.1, PM.out.cells3.2.2.1, PS.out.cells6.1, PS.out.cells6.2.1, PS.out.cells6.2.2.1, PS.out.cells6.2.2.2.1, PS.out.cells6.2.2.2.2.1, PS.out.cells6.2.2.2.2.2.1⟩ (fun hS' => ?_)
        clear hK K hS
        have hS := hS'
        clear hS'
        (try simp only [Act.put, List.setIfInBounds_toArray, List.set_cons_zero, List.set_cons_succ])
        refine wpAnyH_ready (rs := [3]) (by kernel_rfl) (by simp) ?_
        refine AllReadyH.cons (by simp only [List.getElem?_toArray, List.getElem?_cons_succ, List.getElem?_cons_zero]; rfl) (fun K hK => ?_) ?_
        · skip
          obtain ⟨y00, y01, y02, y03, y04, y05, yf0⟩ := QS.out.cells6
          go_simp
          clear y00 y01 y02 y03 y04 y05 yf0
          refine named_store_6_6_0 QS.out ?_
          intro Ws3 hbk hgr hsz
          have hsz1 := hid hsz
          clear hsz
          replace PM := hid (PM.out.grown hgr (by simp <;> omega))
          replace PS := hid (PS.out.grown hgr (by simp <;> omega))
          replace QM := hid (QM.out.grown hgr (by simp <;> omega))
          replace HM := hid (mem_kept HM.out (HFA.out _ (by omega) (by omega)) hgr)
          replace HVI := hid (HVI.out.kept QS.out tq1 (by have := hB0.out; omega) hgr)
          replace HB := hid (HB.out.grown hgr HB.out.size (fun r e => by cases e; omega))
          replace QS := hid hbk
          clear hbk hgr
          refine hK.out _ _ ⟨PM.out.cells3.1, PM.out.cells3.2.1, PM.out.cells3.2.2.1, PS.out.cells6.1, PS.out.cells6.2.1, PS.out.cells6.2.2.1, PS.out.cells6.2.2.2.1, PS.out.cells6.2.2.2.2.1, PS.out.cells6.2.2.2.2.2.1⟩ (fun hS' => ?_)
          clear hK K hS
          have hS := hS'
          clear hS'
          (try simp only [Act.put, List.setIfInBounds_toArray, List.set_cons_zero, List.set_cons_succ])
          refine wpAnyH_done (by kernel_rfl) ?_ _
          refine NoPanic.normal ?_
          clear hS
          go_wp2
          obtain ⟨q0, q1, q2, qf⟩ := QM.out.cells3; obtain ⟨v0, v1, v2, v3, v4, v5, vf⟩ := QS.out.cells6
          refine bodyPost_ret (v := .tuple #[mv A2 n c2 B2 n d2 m2.2.2, .agg #[.int .i64 s3.a, .int .i64 s3.f, .slice V vn vc, .int .i64 5, .int .u64 s3.bg, .int .i64 s3.wr]]) (by simp [results, Try.results37, go_sem, q0, q1, q2, v0, v1, v2, v3, v4, v5]) rfl ?_
          exact ⟨A2, c2, B2, d2, rfl, HM.out, HVI.out, HB.out, TR.out⟩
        exact AllReadyH.nil
      exact AllReadyH.nil
    rw [if_pos rfl] at h0
    subst h0
    go_upto_region 22 with fail
    have bx := (Below.refl W5.heap.size W5).drew
    replace HM := hid (HM.out.step bx); replace HVI := hid (HVI.out.step bx); replace PM := hid (PM.out.step bx); replace PS := hid (PS.out.step bx); replace QM := hid (QM.out.step bx); replace QS := hid (QS.out.step bx); replace HB := hid (below_then HB.out bx)
    clear bx
    have hszd := hid (show W5.drew.heap.size = W5.heap.size from rfl)
    refine wp_region_noPanic ?_
    refine wp_region_held_drew (S := (fun W' : World => W'.cell? ⟨w.heap.size, 0, none⟩ = some (.slice A2 n c2) ∧ W'.cell? ⟨w.heap.size, 1, none⟩ = some (.slice B2 n d2) ∧ W'.cell? ⟨w.heap.size, 2, none⟩ = some (.bool m2.2.2) ∧ W'.cell? ⟨w.heap.size + 1, 0, none⟩ = some (.int .i64 s2.a) ∧ W'.cell? ⟨w.heap.size + 1, 1, none⟩ = some (.int .i64 s2.f) ∧ W'.cell? ⟨w.heap.size + 1, 2, none⟩ = some (.slice V vn vc) ∧ W'.cell? ⟨w.heap.size + 1, 3, none⟩ = some (.int .i64 s2.ph) ∧ W'.cell? ⟨w.heap.size + 1, 4, none⟩ = some (.int .u64 s2.bg) ∧ W'.cell? ⟨w.heap.size + 1, 5, none⟩ = some (.int .i64 s2.wr))) (by kernel_rfl) ⟨PM.out.cells3.1, PM.out.cells3.2.1, PM.out.cells3.2.2.1, PS.out.cells6.1, PS.out.cells6.2.1, PS.out.cells6.2.2.1, PS.out.cells6.2.2.2.1, PS.out.cells6.2.2.2.2.1, PS.out.cells6.2.2.2.2.2.1⟩ (fun hS => ?_)
    generalize W5.drew = Wd at *
    refine wpAnyH_take (i := 0) (v := ?_) (by simp only [List.getElem?_toArray, List.getElem?_cons_succ, List.getElem?_cons_zero]; rfl) (by kernel_rfl) (by kernel_rfl) (by kernel_rfl) (fun _ _ _ h => h) (Or.inl ⟨by rfl, ?_⟩) hS ?_
    rotate_left
    · intro w' hSw; (try dsimp only at hSw); go_split_ands; go_simp; (try with_reducible rfl)
    (try simp only [Act.put, List.setIfInBounds_toArray, List.set_cons_zero, List.set_cons_succ])
    refine wpAnyH_take (i := 1) (v := ?_) (by simp only [List.getElem?_toArray, List.getElem?_cons_succ, List.getElem?_cons_zero]; rfl) (by kernel_rfl) (by kernel_rfl) (by kernel_rfl) (fun _ _ _ h => h) (Or.inl ⟨by rfl, ?_⟩) hS ?_
    rotate_left
    · intro w' hSw; (try dsimp only at hSw); go_split_ands; go_simp; (try with_reducible rfl)
    (try simp only [Act.put, List.setIfInBounds_toArray, List.set_cons_zero, List.set_cons_succ])
    refine wpAnyH_ready (rs := [2]) (by kernel_rfl) (by simp) ?_
    refine AllReadyH.cons (by simp only [List.getElem?_toArray, List.getElem?_cons_succ, List.getElem?_cons_zero]; rfl) (fun K hK => ?_) ?_
    · skip
      obtain ⟨y00, y01, y02, yf0⟩ := QM.out.cells3
      go_simp
      clear y00 y01 y02 yf0
      refine named_store3 QM.out ?_
      intro Ws2 hbk hgr hsz
      have hsz0 := hid hsz
      clear hsz
      replace PM := hid (PM.out.grown hgr (by simp <;> omega))
      replace PS := hid (PS.out.grown hgr (by simp <;> omega))
      replace QS := hid (QS.out.grown hgr (by simp <;> omega))
      replace HM := hid (mem_kept HM.out (HFA.out _ (by omega) (by omega)) hgr)
      replace HVI := hid (HVI.out.kept QM.out tm1 (by have := hB0.out; omega) hgr)
      replace HB := hid (HB.out.grown hgr HB.out.size (fun r e => by cases e; omega))
      replace QM := hid hbk
      clear hbk hgr
      refine hK.out _ _ ⟨PM.out.cells3.1, PM.out.cells3.2.1, PM.out.cells3.2.2.1, PS.out.cells6.1, PS.out.cells6.2.1, PS.out.cells6.2.2.1, PS.out.cells6.2.2.2.1, PS.out.cells6.2.2.2.2.1, PS.out.cells6.2.2.2.2.2.1⟩ (fun hS' => ?_)
      clear hK K hS
      have hS := hS'
      clear hS'
      (try simp only [Act.put, List.setIfInBounds_toArray, List.set_cons_zero, List.set_cons_succ])
      refine wpAnyH_ready (rs := [3]) (by kernel_rfl) (by simp) ?_
      refine AllReadyH.cons (by simp only [List.getElem?_toArray, List.getElem?_cons_succ, List.getElem?_cons_zero]; rfl) (fun K hK => ?_) ?_
      · skip
        obtain ⟨y00, y01, y02, y03, y04, y05, yf0⟩ := QS.out.cells6
        go_simp
        clear y00 y01 y02 y03 y04 y05 yf0
        refine named_store_6_6_0 QS.out ?_
        intro Ws3 hbk hgr hsz
        have hsz1 := hid hsz
        clear hsz
        replace PM := hid (PM.out.grown hgr (by simp <;> omega))
        replace PS := hid (PS.out.grown hgr (by simp <;> omega))
        replace QM := hid (QM.out.grown hgr (by simp <;> omega))
        replace HM := hid (mem_kept HM.out (HFA.out _ (by omega) (by omega)) hgr)
        replace HVI := hid (HVI.out.kept QS.out tq1 (by have := hB0.out; omega) hgr)
        replace HB := hid (HB.out.grown hgr HB.out.size (fun r e => by cases e; omega))
        replace QS := hid hbk
        clear hbk hgr
        refine hK.out _ _ ⟨PM.out.cells3.1, PM.out.cells3.2.1, PM.out.cells3.2.2.1, PS.out.cells6.1, PS.out.cells6.2.1, PS.out.cells6.2.2.1, PS.out.cells6.2.2.2.1, PS.out.cells6.2.2.2.2.1, PS.out.cells6.2.2.2.2.2.1⟩ (fun hS' => ?_)
        clear hK K hS
        have hS := hS'
        clear hS'
        (try simp only [Act.put, List.setIfInBounds_toArray, List.set_cons_zero, List.set_cons_succ])
        refine wpAnyH_done (by kernel_rfl) ?_ _
        refine NoPanic.normal ?_
        clear hS
        go_wp2
        obtain ⟨q0, q1, q2, qf⟩ := QM.out.cells3; obtain ⟨v0, v1, v2, v3, v4, v5, vf⟩ := QS.out.cells6
        refine bodyPost_ret (v := .tuple #[mv A2 n c2 B2 n d2 m2.2.2, .agg #[.int .i64 s2.a, .int .i64 s2.f, .slice V vn vc, .int .i64 s2.ph, .int .u64 s2.bg, .int .i64 s2.wr]]) (by simp [results, Try.results37, go_sem, q0, q1, q2, v0, v1, v2, v3, v4, v5]) rfl ?_
        exact ⟨A2, c2, B2, d2, rfl, HM.out, HVI.out, HB.out, TR.out⟩
      exact AllReadyH.nil
    exact AllReadyH.nil
end Go.Proofs.Ytnkaajkdjbdpaaa
