/- afterglowref06: StepRead. No condition but sizes. -/
import Derived.Test.YtnkaajkdjbdpaaaSqR
import Derived.Test.YtnkaajkdjbdpaaaKitA
import Derived.Test.YtnkaajkdjbdpaaaSqP
import Derived.Deep.CutBlock
namespace Go.Proofs.Ytnkaajkdjbdpaaa
open Go.RowKit
/-- values that can be read: below B, or owned -/
def VIn (W : World) (lo B : Nat) (V : Option Addr) (n : Nat) (vs : List Int) : Prop := B ≤ W.heap.size ∧ (Sl u64v 0 W lo B V n vs ∨ ∃ c, Ow u64v W lo 27 V n c vs)
section
variable {W W' : World} {lo B n : Nat} {V : Option Addr} {vs : List Int}
theorem VIn.sl (h : VIn W lo B V n vs) : Sl u64v 0 W lo W.heap.size V n vs := by
  obtain ⟨h2, h | ⟨c, h⟩⟩ := h
  · exact h.mono (Nat.le_refl _) h2
  · exact h.sl
theorem VIn.len (h : VIn W lo B V n vs) : vs.length = n := h.sl.len
theorem VIn.step (h : VIn W lo B V n vs) (hb : Below W.heap.size W W') : VIn W' lo B V n vs := by
  obtain ⟨h2, h | ⟨c, h⟩⟩ := h
  · exact ⟨Nat.le_trans h2 hb.size, .inl (h.below hb h2)⟩
  · exact ⟨Nat.le_trans h2 hb.size, .inr ⟨c, h.step hb⟩⟩
theorem VIn.kept {g : Nat} {t : TypeId} {cs : Array Value} (h : VIn W lo B V n vs) (hb : Blk W g t cs) (h1 : t ≠ 27) (hB : B ≤ g) (hg : W.grownBy W' (some g)) : VIn W' lo B V n vs := by
  obtain ⟨h2, h | ⟨c, h⟩⟩ := h
  · refine ⟨Nat.le_trans h2 hg.size, .inl (h.keep fun b o _ h3 => World.cell?_of_block (a := ⟨b, o, none⟩) (hg.block b (by omega) (fun e => ?_)))⟩
    have : b = g := by simpa using e
    omega
  · exact ⟨Nat.le_trans h2 hg.size, .inr ⟨c, h.keptG hg (fun v hv e => h.ne_blk hb h1 v hv (by simpa using e))⟩⟩
end
def RSRPost (W : World) (A : Option Addr) (n : Nat) (B : Option Addr) (lo B0 : Nat) (r : MSt × Srd) (e : Ending) (W' : World) : Prop :=
  ∃ A' c' B' d' V vn vc, e = .returned (.tuple #[mv A' n c' B' n d' r.1.2.2, rdV r.2 V vn vc]) ∧ Mem W' A' n c' B' n d' r.1.1 r.1.2.1 ∧ VIn W' lo B0 V vn r.2.vs ∧ Below W.heap.size W W' ∧ ∀ g, g < W.heap.size → FarM n A B g → FarM n A' B' g
theorem tmod2 (x : Int) : (x.tmod 2 == 0) = decide (x % 2 = 0) := by
  rw [Bool.eq_iff_iff]
  simp only [beq_iff_eq, decide_eq_true_eq]
  rcases Int.le_total 0 x with h | h
  · rw [Int.tmod_eq_emod_of_nonneg h]
  · obtain ⟨y, rfl⟩ : ∃ y, x = -y := ⟨-x, by omega⟩
    rw [Int.neg_tmod, Int.tmod_eq_emod_of_nonneg (by omega)]
    omega
/-- a read behind what was loaded -/
def rdAt (s : Srd) : Int := if s.ph = 2 then s.f + s.vs.length else s.a
def rdNext (s : Srd) (x : Int) (ok : Bool) : Srd :=
  if ok = false then ⟨s.a, s.f, s.m, 5, s.bg, s.vs, s.tr⟩
  else if s.ph = 0 then (if x % 2 = 0 then ⟨s.a, s.f, s.m, if s.m = 0 then 3 else 2, x, [], s.tr⟩ else s)
  else if s.ph = 2 then ⟨s.a, s.f, s.m, if (s.vs.length : Int) + 1 = s.m then 3 else 2, s.bg, s.vs ++ [x], s.tr⟩
  else if x = s.bg then ⟨s.a, s.f, s.m, 4, s.bg, s.vs, s.tr⟩ else ⟨s.a, s.f, s.m, 0, s.bg, s.vs, min (s.tr + 1) 1073741824⟩
theorem sreadF_at {m : MSt} {s : Srd} (h : s.ph = 0 ∨ s.ph = 2 ∨ s.ph = 3) : sreadF m s = ((stepM m (1, rdAt s, 0, 0)).1, rdNext s (stepM m (1, rdAt s, 0, 0)).2.1 (stepM m (1, rdAt s, 0, 0)).2.2) := by
  obtain ⟨a, f, mn, ph, bg, vs, tr⟩ := s
  dsimp only at h
  unfold sreadF srun rdNext rdAt
  dsimp only
  rcases h with rfl | rfl | rfl
  · rw [if_pos rfl, if_neg (show ¬ (0 : Int) = 2 by decide)]
    unfold rbegin
    dsimp only
    obtain ⟨⟨m', x, y⟩, hr⟩ : ∃ r, r = stepM m (1, a, 0, 0) := ⟨_, rfl⟩
    rw [← hr]
    dsimp only
    cases y
    · simp
    · by_cases hx : x % 2 = 0 <;> simp [hx]
  · rw [if_neg (show ¬ (2 : Int) = 0 by decide), if_pos rfl, if_pos rfl]
    unfold rdata
    dsimp only
    obtain ⟨⟨m', x, y⟩, hr⟩ : ∃ r, r = stepM m (1, f + vs.length, 0, 0) := ⟨_, rfl⟩
    rw [← hr]
    dsimp only
    cases y <;> simp
  · rw [if_neg (show ¬ (3 : Int) = 0 by decide), if_neg (show ¬ (3 : Int) = 2 by decide), if_pos rfl, if_neg (show ¬ (3 : Int) = 2 by decide)]
    unfold rclose
    dsimp only
    obtain ⟨⟨m', x, y⟩, hr⟩ : ∃ r, r = stepM m (1, a, 0, 0) := ⟨_, rfl⟩
    rw [← hr]
    dsimp only
    cases y
    · simp
    · by_cases hx : x = bg <;> simp [hx]
/-- behind the switch -/
structure RRMid (w W : World) (A : Option Addr) (n c : Nat) (B : Option Addr) (d : Nat) (m : MSt) (lo B0 : Nat) (s : Srd) : Prop where
  pm : Blk W w.heap.size 44 (mcs A n c B n d m.2.2)
  mn : Mem W A n c B n d m.1 m.2.1
  ps : ∃ V vn vc, Blk W (w.heap.size + 1) 29 (rdc s.a s.f s.m s.ph s.bg V vn vc s.tr) ∧ VIn W lo B0 V vn s.vs
  qm : Blk W (w.heap.size + 2) 44 (mcs none 0 0 none 0 0 false)
  qs : Blk W (w.heap.size + 3) 29 (rdc 0 0 0 0 0 none 0 0 0)
  be : Below w.heap.size w W
set_option maxRecDepth 100000 in
set_option maxHeartbeats 8000000 in
theorem rsread_in (A : Option Addr) (n c : Nat) (B : Option Addr) (d : Nat) (f0 : Bool) (ws : List Int) (ls : List Bool) (s : Srd) (V : Option Addr) (vn vc lo B0 : Nat) (w : World) (h : Mem w A n c B n d ws ls) (hv : VIn w lo B0 V vn s.vs) (hlo : lo ≤ w.heap.size) (hok : RdOkS s) :
    Calls Try.prog 34 #[mv A n c B n d f0, rdV s V vn vc] w (RSRPost w A n B lo B0 (sreadF (ws, ls, f0) s)) := by
  have HM := hid h; have HB := hid (Below.refl w.heap.size w); have HOK := hid hok
  have HF := hid (show ∀ g, w.heap.size ≤ g → FarM n A B g from fun g hg => h.far hg)
  have hvn := hid (show vn ≤ 16 by rw [← hv.len]; exact hok.len)
  obtain ⟨a, f, mn, ph, bg, vs, tr⟩ := s
  have HVI := hid (show VIn w lo B0 V vn vs from hv)
  have hB0 := hid hv.1
  have hlv := hid (show vs.length = vn from hv.len)
  have htr := hok.2.2.2
  have hph := hid (show ph = 0 ∨ ph = 2 ∨ ph = 3 ∨ ph = 4 ∨ ph = 5 by have h := hok.2.2.2.2.2; dsimp only at h; omega)
  have HTR := hid (show 0 ≤ tr ∧ tr ≤ 1073741824 from ⟨hok.2.2.2.1, hok.2.2.2.2.1⟩)
  have HMN := hid (show 0 ≤ mn ∧ mn ≤ 16 ∧ 0 ≤ f ∧ f ≤ 4096 by have h := hok; unfold RdOkS RdOk SqG at h; dsimp only at h; omega)
  obtain ⟨⟨m2, s2⟩, hr⟩ : ∃ x, x = sreadF (ws, ls, f0) ⟨a, f, mn, ph, bg, vs, tr⟩ := ⟨_, rfl⟩
  rw [← hr]
  have HR := hid hr
  clear h hv hok hr htr
  have bx := below_box w (.cells (mcs A n c B n d f0) 44)
  replace HM := hid (HM.out.step bx); replace HVI := hid (HVI.out.step bx); replace HB := hid (below_then HB.out bx)
  clear bx
  have PM := hid (Blk.new w 44 (mcs A n c B n d f0))
  have bx := below_box (w.alloc (.cells (mcs A n c B n d f0) 44)) (.cells (rdc a f mn ph bg V vn vc tr) 29)
  replace HM := hid (HM.out.step bx); replace HVI := hid (HVI.out.step bx); replace PM := hid (PM.out.step bx); replace HB := hid (below_then HB.out bx)
  clear bx
  have PS := hid (Blk.new2 w 29 (rdc a f mn ph bg V vn vc tr) (.cells (mcs A n c B n d f0) 44))
  have bx := below_box ((w.alloc (.cells (mcs A n c B n d f0) 44)).alloc (.cells (rdc a f mn ph bg V vn vc tr) 29)) (.cells (mcs none 0 0 none 0 0 false) 44)
  replace HM := hid (HM.out.step bx); replace HVI := hid (HVI.out.step bx); replace PM := hid (PM.out.step bx); replace PS := hid (PS.out.step bx); replace HB := hid (below_then HB.out bx)
  clear bx
  have QM := hid (Blk.new3 w 44 (mcs none 0 0 none 0 0 false) (.cells (mcs A n c B n d f0) 44) (.cells (rdc a f mn ph bg V vn vc tr) 29))
  have bx := below_box (((w.alloc (.cells (mcs A n c B n d f0) 44)).alloc (.cells (rdc a f mn ph bg V vn vc tr) 29)).alloc (.cells (mcs none 0 0 none 0 0 false) 44)) (.cells (rdc 0 0 0 0 0 none 0 0 0) 29)
  replace HM := hid (HM.out.step bx); replace HVI := hid (HVI.out.step bx); replace PM := hid (PM.out.step bx); replace PS := hid (PS.out.step bx); replace QM := hid (QM.out.step bx); replace HB := hid (below_then HB.out bx)
  clear bx
  have QS := hid (Blk.new4 w 29 (rdc 0 0 0 0 0 none 0 0 0) (.cells (mcs A n c B n d f0) 44) (.cells (rdc a f mn ph bg V vn vc tr) 29) (.cells (mcs none 0 0 none 0 0 false) 44))
  go_enter Try.func34, Try.ntmps34
  go_upto_region 1 with fail
  have hz0 := hid (show ((((w.alloc (.cells (mcs A n c B n d f0) 44)).alloc (.cells (rdc a f mn ph bg V vn vc tr) 29)).alloc (.cells (mcs none 0 0 none 0 0 false) 44)).alloc (.cells (rdc 0 0 0 0 0 none 0 0 0) 29)).heap.size = w.heap.size + 4 by simp)
  generalize (((w.alloc (.cells (mcs A n c B n d f0) 44)).alloc (.cells (rdc a f mn ph bg V vn vc tr) 29)).alloc (.cells (mcs none 0 0 none 0 0 false) 44)).alloc (.cells (rdc 0 0 0 0 0 none 0 0 0) 29) = W0 at *
  have HFA := hid (show ∀ g, w.heap.size ≤ g → g < w.heap.size + 4 → FarM n A B g from fun g hg _ => HF.out g hg)
  by_cases h4 : 4 ≤ ph
  · skip
    obtain ⟨rfl, rfl⟩ : m2 = (ws, ls, f0) ∧ s2 = ⟨a, f, mn, ph, bg, vs, tr⟩ := by
      have h := HR.out
      unfold sreadF srun at h
      dsimp only at h
      rw [if_neg (by omega), if_neg (by omega), if_neg (by omega), if_neg (by simp)] at h
      exact ⟨congrArg Prod.fst h, congrArg Prod.snd h⟩
    clear HR
    have e4 : decide (4 ≤ ph) = true := decide_eq_true h4
    obtain ⟨y00, y01, y02, y03, y04, y05, y06, yf0⟩ := PS.out.cells7
    go_upto_region 2 with fail
    clear y00 y01 y02 y03 y04 y05 y06 yf0 e4
    have bx := (Below.refl W0.heap.size W0).drew
    replace HM := hid (HM.out.step bx); replace HVI := hid (HVI.out.step bx); replace PM := hid (PM.out.step bx); replace PS := hid (PS.out.step bx); replace QM := hid (QM.out.step bx); replace QS := hid (QS.out.step bx); replace HB := hid (below_then HB.out bx)
    clear bx
    have hszd := hid (show W0.drew.heap.size = W0.heap.size from rfl)
    refine wp_region_noPanic ?_
    refine wp_region_held_drew (S := (fun W' : World => W'.cell? ⟨w.heap.size, 0, none⟩ = some (.slice A n c) ∧ W'.cell? ⟨w.heap.size, 1, none⟩ = some (.slice B n d) ∧ W'.cell? ⟨w.heap.size, 2, none⟩ = some (.bool f0) ∧ W'.cell? ⟨w.heap.size + 1, 0, none⟩ = some (.int .i64 a) ∧ W'.cell? ⟨w.heap.size + 1, 1, none⟩ = some (.int .i64 f) ∧ W'.cell? ⟨w.heap.size + 1, 2, none⟩ = some (.int .i64 mn) ∧ W'.cell? ⟨w.heap.size + 1, 3, none⟩ = some (.int .i64 ph) ∧ W'.cell? ⟨w.heap.size + 1, 4, none⟩ = some (.int .u64 bg) ∧ W'.cell? ⟨w.heap.size + 1, 5, none⟩ = some (.slice V vn vc) ∧ W'.cell? ⟨w.heap.size + 1, 6, none⟩ = some (.int .i64 tr))) (by kernel_rfl) ⟨PM.out.cells3.1, PM.out.cells3.2.1, PM.out.cells3.2.2.1, PS.out.cells7.1, PS.out.cells7.2.1, PS.out.cells7.2.2.1, PS.out.cells7.2.2.2.1, PS.out.cells7.2.2.2.2.1, PS.out.cells7.2.2.2.2.2.1, PS.out.cells7.2.2.2.2.2.2.1⟩ (fun hS => ?_)
    generalize W0.drew = Wd at *
    refine wpAnyH_take (i := 0) (v := ?_) (by simp only [List.getElem?_toArray, List.getElem?_cons_succ, List.getElem?_cons_zero]; rfl) (by kernel_rfl) (by kernel_rfl) (by kernel_rfl) (fun _ _ _ h => h) (Or.inl ⟨by rfl, ?_⟩) hS ?_
    rotate_left
    · intro w' hSw; (try dsimp only at hSw); go_split_ands; go_simp; (try with_reducible rfl)
    (try simp only [Act.put, List.setIfInBounds_toArray, List.set_cons_zero, List.set_cons_succ])
    refine wpAnyH_take (i := 1) (v := ?_) (by simp only [List.getElem?_toArray, List.getElem?_cons_succ, List.getElem?_cons_zero]; rfl) (by kernel_rfl) (by kernel_rfl) (by kernel_rfl) (fun _ _ _ h => h) (Or.inl ⟨by rfl, ?_⟩) hS ?_
    rotate_left
    · intro w' hSw; (try dsimp only at hSw); go_split_ands; go_simp; (try with_reducible rfl)
    (try simp only [Act.put, List.setIfInBounds_toArray, List.set_cons_zero, List.set_cons_succ])
    refine wpAnyH_ready (rs := [2]) (by kernel_rfl) (by simp) ?_
    refine AllReadyH.cons (by simp only [List.getElem?_toArray, List.getElem?_cons_succ, List.getElem?_cons_zero]; rfl) (fun K hK => ?_) ?_
    · skip
      obtain ⟨y00, y01, y02, yf0⟩ := QM.out.cells3
      go_simp
      clear y00 y01 y02 yf0
      refine named_store3 QM.out ?_
      intro Ws2 hbk hgr hsz
      have hsz0 := hid hsz
      clear hsz
      replace PM := hid (PM.out.grown hgr (by simp <;> omega))
      replace PS := hid (PS.out.grown hgr (by simp <;> omega))
      replace QS := hid (QS.out.grown hgr (by simp <;> omega))
      replace HM := hid (mem_kept HM.out (HFA.out _ (by omega) (by omega)) hgr)
      replace HVI := hid (HVI.out.kept QM.out tm1 (by have := hB0.out; omega) hgr)
      replace HB := hid (HB.out.grown hgr HB.out.size (fun r e => by cases e; omega))
      replace QM := hid hbk
      clear hbk hgr
      refine hK.out _ _ ⟨PM.out.cells3.1, PM.out.cells3.2.1, PM.out.cells3.2.2.1, PS.out.cells7.1, PS.out.cells7.2.1, PS.out.cells7.2.2.1, PS.out.cells7.2.2.2.1, PS.out.cells7.2.2.2.2.1, PS.out.cells7.2.2.2.2.2.1, PS.out.cells7.2.2.2.2.2.2.1⟩ (fun hS' => ?_)
      clear hK K hS
      have hS := hS'
      clear hS'
      (try simp only [Act.put, List.setIfInBounds_toArray, List.set_cons_zero, List.set_cons_succ])
      refine wpAnyH_ready (rs := [3]) (by kernel_rfl) (by simp) ?_
      refine AllReadyH.cons (by simp only [List.getElem?_toArray, List.getElem?_cons_succ, List.getElem?_cons_zero]; rfl) (fun K hK => ?_) ?_
      · skip
        obtain ⟨y00, y01, y02, y03, y04, y05, y06, yf0⟩ := QS.out.cells7
        go_simp
        clear y00 y01 y02 y03 y04 y05 y06 yf0
        refine named_store_7_7_0 QS.out ?_
        intro Ws3 hbk hgr hsz
        have hsz1 := hid hsz
        clear hsz
        replace PM := hid (PM.out.grown hgr (by simp <;> omega))
        replace PS := hid (PS.out.grown hgr (by simp <;> omega))
        replace QM := hid (QM.out.grown hgr (by simp <;> omega))
        replace HM := hid (mem_kept HM.out (HFA.out _ (by omega) (by omega)) hgr)
        replace HVI := hid (HVI.out.kept QS.out ts1 (by have := hB0.out; omega) hgr)
        replace HB := hid (HB.out.grown hgr HB.out.size (fun r e => by cases e; omega))
        replace QS := hid hbk
        clear hbk hgr
        refine hK.out _ _ ⟨PM.out.cells3.1, PM.out.cells3.2.1, PM.out.cells3.2.2.1, PS.out.cells7.1, PS.out.cells7.2.1, PS.out.cells7.2.2.1, PS.out.cells7.2.2.2.1, PS.out.cells7.2.2.2.2.1, PS.out.cells7.2.2.2.2.2.1, PS.out.cells7.2.2.2.2.2.2.1⟩ (fun hS' => ?_)
        clear hK K hS
        have hS := hS'
        clear hS'
        (try simp only [Act.put, List.setIfInBounds_toArray, List.set_cons_zero, List.set_cons_succ])
        refine wpAnyH_done (by kernel_rfl) ?_ _
        refine NoPanic.normal ?_
        clear hS
        go_wp2
        obtain ⟨q0, q1, q2, qf⟩ := QM.out.cells3; obtain ⟨v0, v1, v2, v3, v4, v5, v6, vf⟩ := QS.out.cells7
        refine bodyPost_ret (v := .tuple #[mv A n c B n d f0, .agg #[.int .i64 a, .int .i64 f, .int .i64 mn, .int .i64 ph, .int .u64 bg, .slice V vn vc, .int .i64 tr]]) (by simp [results, Try.results34, go_sem, q0, q1, q2, v0, v1, v2, v3, v4, v5, v6]) rfl ?_
        exact ⟨A, c, B, d, _, _, _, rfl, HM.out, HVI.out, HB.out, fun _ _ hf => hf⟩
      exact AllReadyH.nil
    exact AllReadyH.nil
  have e4 : decide (4 ≤ ph) = false := decide_eq_false h4
  obtain ⟨y00, y01, y02, y03, y04, y05, y06, yf0⟩ := PS.out.cells7
  go_upto_region 3 with fail
  clear y00 y01 y02 y03 y04 y05 y06 yf0 e4
  replace hph := hid (show ph = 0 ∨ ph = 2 ∨ ph = 3 by have := hph.out; omega)
  obtain ⟨aa, haa⟩ : ∃ x, x = rdAt ⟨a, f, mn, ph, bg, vs, tr⟩ := ⟨_, rfl⟩
  obtain ⟨⟨⟨ws2, ls2, f2⟩, ⟨gx, gy⟩⟩, hst⟩ : ∃ r, r = stepM (ws, ls, f0) (1, aa, 0, 0) := ⟨_, rfl⟩
  have HST := hid hst; have HAA := hid haa
  obtain ⟨rfl, hs2⟩ : m2 = (ws2, ls2, f2) ∧ s2 = rdNext ⟨a, f, mn, ph, bg, vs, tr⟩ gx gy := by
    have h := HR.out
    rw [sreadF_at hph.out, ← HAA.out, ← HST.out] at h
    exact ⟨congrArg Prod.fst h, congrArg Prod.snd h⟩
  have HS2 := hid hs2
  have hw4 : IntKind.i64.wrap (f + (vn : Int)) = f + (vn : Int) := by have := HMN.out; have := hvn.out; rw [IntKind.wrap_i64]; omega
  clear hst haa hs2 HR h4
  obtain ⟨y00, y01, y02, y03, y04, y05, y06, yf0⟩ := PS.out.cells7
  go_upto_if 18 with fail
  go_cut [6] (fun s6 wx => s6 = .int .i64 aa ∧ wx = W0)
  case first =>
    by_cases h2 : ph = 2
    · have e2 : (ph == 2) = true := by simpa using h2
      have e3 : aa = f + (vn : Int) := by rw [HAA.out]; unfold rdAt; dsimp only; rw [if_pos h2, hlv.out]
      go_wp2_with fail
      go_meet
      exact ⟨by rw [e3], by first | rfl | trivial⟩
    have e2 : (ph == 2) = false := by simpa using h2
    have e3 : aa = a := by rw [HAA.out]; unfold rdAt; dsimp only; rw [if_neg h2]
    go_wp2_with fail
    go_meet
    exact ⟨by rw [e3], by first | rfl | trivial⟩
  case rest =>
    obtain ⟨rfl, hw⟩ := hcut
    rename World => W1
    subst hw
    clear y00 y01 y02 y03 y04 y05 y06 yf0
    obtain ⟨y00, y01, y02, yf0⟩ := PM.out.cells3
    go_wp2_with fail
    clear y00 y01 y02 yf0
    refine (rload_any A n c B d f0 ws ls aa _ HM.out).mono ?_
    rw [← HST.out]
    rintro e w3 ⟨A2, c2, B2, d2, rfl, hmn, hb, htr⟩
    dsimp only at hmn ⊢
    have MN := hid hmn
    have HFA2 := hid (show ∀ g, w.heap.size ≤ g → g < w.heap.size + 4 → FarM n A2 B2 g from fun g h1 h2 => htr g (by have := QS.out.lt; omega) (HFA.out g h1 h2))
    have TR := hid (show ∀ g, g < w.heap.size → FarM n A B g → FarM n A2 B2 g from fun g hg hf => htr g (by have := QS.out.lt; omega) hf)
    clear hmn htr HM HFA
    replace HVI := hid (HVI.out.step hb); replace PM := hid (PM.out.step hb); replace PS := hid (PS.out.step hb); replace QM := hid (QM.out.step hb); replace QS := hid (QS.out.step hb); replace HB := hid (below_then HB.out hb)
    clear hb
    have HM := MN; have HFA := HFA2
    clear MN HFA2
    obtain ⟨y00, y01, y02, yf0⟩ := PM.out.cells3
    go_upto_block 0 with fail
    clear y00 y01 y02 yf0
    have PX := PM
    have hbk0 : Blk (w3.setCell ⟨w.heap.size, 0, none⟩ (.slice A2 n c2)) (w.heap.size) 44 #[.slice A2 n c2, .slice B n d, .bool f0] := PM.out.setCell 0 (.slice A2 n c2)
    have hbk1 : Blk ((w3.setCell ⟨w.heap.size, 0, none⟩ (.slice A2 n c2)).setCell ⟨w.heap.size, 1, none⟩ (.slice B2 n d2)) (w.heap.size) 44 #[.slice A2 n c2, .slice B2 n d2, .bool f0] := hbk0.setCell 1 (.slice B2 n d2)
    have hbk2 : Blk (((w3.setCell ⟨w.heap.size, 0, none⟩ (.slice A2 n c2)).setCell ⟨w.heap.size, 1, none⟩ (.slice B2 n d2)).setCell ⟨w.heap.size, 2, none⟩ (.bool f2)) (w.heap.size) 44 #[.slice A2 n c2, .slice B2 n d2, .bool f2] := hbk1.setCell 2 (.bool f2)
    have hgr : w3.grownBy (((w3.setCell ⟨w.heap.size, 0, none⟩ (.slice A2 n c2)).setCell ⟨w.heap.size, 1, none⟩ (.slice B2 n d2)).setCell ⟨w.heap.size, 2, none⟩ (.bool f2)) (some (w.heap.size)) := (grown_set (grown_set (grown_set (World.grownBy.refl w3 (some (w.heap.size))) 0 (.slice A2 n c2)) 1 (.slice B2 n d2)) 2 (.bool f2))
    replace PM := hid hbk2
    clear hbk0 hbk1 hbk2
    generalize ((w3.setCell ⟨w.heap.size, 0, none⟩ (.slice A2 n c2)).setCell ⟨w.heap.size, 1, none⟩ (.slice B2 n d2)).setCell ⟨w.heap.size, 2, none⟩ (.bool f2) = W4 at *
    replace PS := hid (PS.out.grown hgr (by simp <;> omega))
    replace QM := hid (QM.out.grown hgr (by simp <;> omega))
    replace QS := hid (QS.out.grown hgr (by simp <;> omega))
    replace HM := hid (mem_kept HM.out (HFA.out _ (by omega) (by omega)) hgr)
    replace HVI := hid (HVI.out.kept PX.out tm1 (by have := hB0.out; omega) hgr)
    replace HB := hid (HB.out.grown hgr HB.out.size (fun r e => by cases e; omega))
    clear hgr
    clear PX
    go_cut [] (fun wx => RRMid w wx A2 n c2 B2 d2 (ws2, ls2, f2) lo B0 s2)
    case first =>
      cases gy
      · skip
        have hs := HS2.out
        unfold rdNext at hs
        rw [if_pos rfl] at hs
        subst hs
        obtain ⟨y00, y01, y02, y03, y04, y05, y06, yf0⟩ := PS.out.cells7
        go_wp2_with fail
        go_meet
        clear y00 y01 y02 y03 y04 y05 y06 yf0
        have PX := PS
        have hbk0 : Blk (W4.setCell ⟨w.heap.size + 1, 3, none⟩ (.int .i64 5)) (w.heap.size + 1) 29 #[.int .i64 a, .int .i64 f, .int .i64 mn, .int .i64 5, .int .u64 bg, .slice V vn vc, .int .i64 tr] := PS.out.setCell 3 (.int .i64 5)
        have hgr : W4.grownBy (W4.setCell ⟨w.heap.size + 1, 3, none⟩ (.int .i64 5)) (some (w.heap.size + 1)) := (grown_set (World.grownBy.refl W4 (some (w.heap.size + 1))) 3 (.int .i64 5))
        replace PS := hid hbk0
        clear hbk0
        generalize W4.setCell ⟨w.heap.size + 1, 3, none⟩ (.int .i64 5) = W6 at *
        replace PM := hid (PM.out.grown hgr (by simp <;> omega))
        replace QM := hid (QM.out.grown hgr (by simp <;> omega))
        replace QS := hid (QS.out.grown hgr (by simp <;> omega))
        replace HM := hid (mem_kept HM.out (HFA.out _ (by omega) (by omega)) hgr)
        replace HVI := hid (HVI.out.kept PX.out ts1 (by have := hB0.out; omega) hgr)
        replace HB := hid (HB.out.grown hgr HB.out.size (fun r e => by cases e; omega))
        clear hgr
        clear PX
        exact ⟨PM.out, HM.out, ⟨_, _, _, PS.out, HVI.out⟩, QM.out, QS.out, HB.out⟩
      have hs := HS2.out
      unfold rdNext at hs
      rw [if_neg (fun h => Bool.noConfusion h)] at hs
      dsimp only at hs
      by_cases h0 : ph = 0
      · rw [if_pos h0] at hs
        have e0 : (ph == 0) = true := by simpa using h0
        by_cases hx : gx % 2 = 0
        · rw [if_pos hx] at hs
          have ex : (gx.tmod 2 == 0) = true := by rw [tmod2]; exact decide_eq_true hx
          by_cases hm : mn = 0
          · rw [if_pos hm] at hs
            subst hs
            have em : (mn == 0) = true := by simpa using hm
            obtain ⟨y00, y01, y02, y03, y04, y05, y06, yf0⟩ := PS.out.cells7
            go_wp2_with fail
            go_meet
            clear y00 y01 y02 y03 y04 y05 y06 yf0
            have PX := PS
            have hbk0 : Blk (W4.setCell ⟨w.heap.size + 1, 4, none⟩ (.int .u64 gx)) (w.heap.size + 1) 29 #[.int .i64 a, .int .i64 f, .int .i64 mn, .int .i64 ph, .int .u64 gx, .slice V vn vc, .int .i64 tr] := PS.out.setCell 4 (.int .u64 gx)
            have hbk1 : Blk ((W4.setCell ⟨w.heap.size + 1, 4, none⟩ (.int .u64 gx)).setCell ⟨w.heap.size + 1, 5, none⟩ (.slice none 0 0)) (w.heap.size + 1) 29 #[.int .i64 a, .int .i64 f, .int .i64 mn, .int .i64 ph, .int .u64 gx, .slice none 0 0, .int .i64 tr] := hbk0.setCell 5 (.slice none 0 0)
            have hbk2 : Blk (((W4.setCell ⟨w.heap.size + 1, 4, none⟩ (.int .u64 gx)).setCell ⟨w.heap.size + 1, 5, none⟩ (.slice none 0 0)).setCell ⟨w.heap.size + 1, 3, none⟩ (.int .i64 2)) (w.heap.size + 1) 29 #[.int .i64 a, .int .i64 f, .int .i64 mn, .int .i64 2, .int .u64 gx, .slice none 0 0, .int .i64 tr] := hbk1.setCell 3 (.int .i64 2)
            have hbk3 : Blk ((((W4.setCell ⟨w.heap.size + 1, 4, none⟩ (.int .u64 gx)).setCell ⟨w.heap.size + 1, 5, none⟩ (.slice none 0 0)).setCell ⟨w.heap.size + 1, 3, none⟩ (.int .i64 2)).setCell ⟨w.heap.size + 1, 3, none⟩ (.int .i64 3)) (w.heap.size + 1) 29 #[.int .i64 a, .int .i64 f, .int .i64 mn, .int .i64 3, .int .u64 gx, .slice none 0 0, .int .i64 tr] := hbk2.setCell 3 (.int .i64 3)
            have hgr : W4.grownBy ((((W4.setCell ⟨w.heap.size + 1, 4, none⟩ (.int .u64 gx)).setCell ⟨w.heap.size + 1, 5, none⟩ (.slice none 0 0)).setCell ⟨w.heap.size + 1, 3, none⟩ (.int .i64 2)).setCell ⟨w.heap.size + 1, 3, none⟩ (.int .i64 3)) (some (w.heap.size + 1)) := (grown_set (grown_set (grown_set (grown_set (World.grownBy.refl W4 (some (w.heap.size + 1))) 4 (.int .u64 gx)) 5 (.slice none 0 0)) 3 (.int .i64 2)) 3 (.int .i64 3))
            replace PS := hid hbk3
            clear hbk0 hbk1 hbk2 hbk3
            generalize (((W4.setCell ⟨w.heap.size + 1, 4, none⟩ (.int .u64 gx)).setCell ⟨w.heap.size + 1, 5, none⟩ (.slice none 0 0)).setCell ⟨w.heap.size + 1, 3, none⟩ (.int .i64 2)).setCell ⟨w.heap.size + 1, 3, none⟩ (.int .i64 3) = W6 at *
            replace PM := hid (PM.out.grown hgr (by simp <;> omega))
            replace QM := hid (QM.out.grown hgr (by simp <;> omega))
            replace QS := hid (QS.out.grown hgr (by simp <;> omega))
            replace HM := hid (mem_kept HM.out (HFA.out _ (by omega) (by omega)) hgr)
            replace HVI := hid (HVI.out.kept PX.out ts1 (by have := hB0.out; omega) hgr)
            replace HB := hid (HB.out.grown hgr HB.out.size (fun r e => by cases e; omega))
            clear hgr
            clear PX
            replace HVI := hid (show VIn W6 lo B0 none 0 [] from ⟨HVI.out.1, .inl (Sl.nil _ _ _ _)⟩)
            exact ⟨PM.out, HM.out, ⟨_, _, _, PS.out, HVI.out⟩, QM.out, QS.out, HB.out⟩
          rw [if_neg hm] at hs
          subst hs
          have em : (mn == 0) = false := by simpa using hm
          obtain ⟨y00, y01, y02, y03, y04, y05, y06, yf0⟩ := PS.out.cells7
          go_wp2_with fail
          go_meet
          clear y00 y01 y02 y03 y04 y05 y06 yf0
          have PX := PS
          have hbk0 : Blk (W4.setCell ⟨w.heap.size + 1, 4, none⟩ (.int .u64 gx)) (w.heap.size + 1) 29 #[.int .i64 a, .int .i64 f, .int .i64 mn, .int .i64 ph, .int .u64 gx, .slice V vn vc, .int .i64 tr] := PS.out.setCell 4 (.int .u64 gx)
          have hbk1 : Blk ((W4.setCell ⟨w.heap.size + 1, 4, none⟩ (.int .u64 gx)).setCell ⟨w.heap.size + 1, 5, none⟩ (.slice none 0 0)) (w.heap.size + 1) 29 #[.int .i64 a, .int .i64 f, .int .i64 mn, .int .i64 ph, .int .u64 gx, .slice none 0 0, .int .i64 tr] := hbk0.setCell 5 (.slice none 0 0)
          have hbk2 : Blk (((W4.setCell ⟨w.heap.size + 1, 4, none⟩ (.int .u64 gx)).setCell ⟨w.heap.size + 1, 5, none⟩ (.slice none 0 0)).setCell ⟨w.heap.size + 1, 3, none⟩ (.int .i64 2)) (w.heap.size + 1) 29 #[.int .i64 a, .int .i64 f, .int .i64 mn, .int .i64 2, .int .u64 gx, .slice none 0 0, .int .i64 tr] := hbk1.setCell 3 (.int .i64 2)
          have hgr : W4.grownBy (((W4.setCell ⟨w.heap.size + 1, 4, none⟩ (.int .u64 gx)).setCell ⟨w.heap.size + 1, 5, none⟩ (.slice none 0 0)).setCell ⟨w.heap.size + 1, 3, none⟩ (.int .i64 2)) (some (w.heap.size + 1)) := (grown_set (grown_set (grown_set (World.grownBy.refl W4 (some (w.heap.size + 1))) 4 (.int .u64 gx)) 5 (.slice none 0 0)) 3 (.int .i64 2))
          replace PS := hid hbk2
          clear hbk0 hbk1 hbk2
          generalize ((W4.setCell ⟨w.heap.size + 1, 4, none⟩ (.int .u64 gx)).setCell ⟨w.heap.size + 1, 5, none⟩ (.slice none 0 0)).setCell ⟨w.heap.size + 1, 3, none⟩ (.int .i64 2) = W6 at *
          replace PM := hid (PM.out.grown hgr (by simp <;> omega))
          replace QM := hid (QM.out.grown hgr (by simp <;> omega))
          replace QS := hid (QS.out.grown hgr (by simp <;> omega))
          replace HM := hid (mem_kept HM.out (HFA.out _ (by omega) (by omega)) hgr)
          replace HVI := hid (HVI.out.kept PX.out ts1 (by have := hB0.out; omega) hgr)
          replace HB := hid (HB.out.grown hgr HB.out.size (fun r e => by cases e; omega))
          clear hgr
          clear PX
          replace HVI := hid (show VIn W6 lo B0 none 0 [] from ⟨HVI.out.1, .inl (Sl.nil _ _ _ _)⟩)
          exact ⟨PM.out, HM.out, ⟨_, _, _, PS.out, HVI.out⟩, QM.out, QS.out, HB.out⟩
        rw [if_neg hx] at hs
        subst hs
        have ex : (gx.tmod 2 == 0) = false := by rw [tmod2]; exact decide_eq_false hx
        have e2 : (ph == 2) = false := by simp; omega
        have e3 : (ph == 3) = false := by simp; omega
        obtain ⟨y00, y01, y02, y03, y04, y05, y06, yf0⟩ := PS.out.cells7
        go_wp2_with fail
        go_meet
        clear y00 y01 y02 y03 y04 y05 y06 yf0
        exact ⟨PM.out, HM.out, ⟨_, _, _, PS.out, HVI.out⟩, QM.out, QS.out, HB.out⟩
      rw [if_neg h0] at hs
      have e0 : (ph == 0) = false := by simpa using h0
      by_cases h2 : ph = 2
      · rw [if_pos h2] at hs
        have e2 : (ph == 2) = true := by simpa using h2
        have H2 := hid h2
        clear h2
        obtain ⟨i1, hi1, hz10, hz11, hz12⟩ := info_parts info_u64
        have hvs := hid (show Sl u64v 0 W4 lo W4.heap.size V vn vs from HVI.out.sl)
        have hsz := hid HB.out.size
        have hpl := hid PS.out.lt; have hql := hid QS.out.lt
        obtain ⟨y00, y01, y02, y03, y04, y05, y06, yf0⟩ := PS.out.cells7
        go_upto_region 14 with fail
        clear y00 y01 y02 y03 y04 y05 y06 yf0
        have bx := below_box W4 (.cells #[] 27)
        have HE := hid (Ow.empty (enc := u64v) W4 W4.heap.size 27 (Nat.le_refl _))
        have hvs2 := hid ((hvs.out.below bx (Nat.le_refl _)).mono (Nat.le_refl _) bx.size)
        have PE := hid (PS.out.step bx)
        obtain ⟨y00, y01, y02, y03, y04, y05, y06, yf0⟩ := PE.out.cells7
        clear bx PE
        by_cases hm : (vn : Int) + 1 = mn
        · have hs' : s2 = ⟨a, f, mn, 3, bg, vs ++ [gx], tr⟩ := by rw [hs, if_pos (by rw [hlv.out]; exact hm)]
          subst hs'
          clear hs
          have em : ((vn : Int) + 1 == mn) = true := by simpa using hm
          go_wp2_with (first
            | (at_builtin; refine wpList_app u64v 0 _ rfl _ _ 24 rfl W4.heap.size 27 i1 _ 8 Try.underlying24 hi1 hz10 hz11 hz12 rfl A7 vn c7 vs rfl (HOWN1.out.alloc _) 0 _ _ 1 1 [gx] rfl (Sl.one' rfl |>.mono (Nat.zero_le _) (Nat.le_refl _)) (fun _ => rfl) (by have := hvn.out; simp only [maxLen]; omega) (by have := hvn.out; omega) (by have := HGR1.out.size; simp at this ⊢; omega) ?_; intro A8 c8 w8 hown hgr hat; have HOWN2 := hid hown; have H8 := hid (Below.grown (below_then (Below.grown (below_box W4 (.cells #[] 27)) HGR1.out (by simp) (fun k hk => by simp [Value.ownBlock] at hk; omega)) (below_box w7 (.cells #[.int .u64 gx] 27))) hgr (by have := HGR1.out.size; simp at this ⊢; omega) (fun k hk => HOWN1.out.row_ge k hk)); have P8 := hid (PS.out.step H8.out); clear hown hgr hat y00 y01 y02 y03 y04 y05 y06 yf0; obtain ⟨y00, y01, y02, y03, y04, y05, y06, yf0⟩ := P8.out.cells7; clear P8)
            | (at_builtin; refine wpList_app u64v 0 _ rfl _ _ 24 rfl W4.heap.size 27 i1 _ 8 Try.underlying24 hi1 hz10 hz11 hz12 rfl _ 0 0 [] rfl HE.out lo _ V vn vc vs rfl hvs2.out (fun _ => rfl) (by have := hvn.out; simp only [maxLen]; omega) (by have := hvn.out; omega) (by simp) ?_; intro A7 c7 w7 hown hgr hat; simp only [Nat.zero_add, List.nil_append] at hown; have HOWN1 := hid hown; have HGR1 := hid hgr; clear hown hgr hat))
          go_meet
          clear y00 y01 y02 y03 y04 y05 y06 yf0 hvs2
          have hb := H8.out
          replace HVI := hid (HVI.out.step hb); replace PM := hid (PM.out.step hb); replace PS := hid (PS.out.step hb); replace QM := hid (QM.out.step hb); replace QS := hid (QS.out.step hb); replace HM := hid (HM.out.step hb); replace HB := hid (below_then HB.out hb)
          clear hb
          replace HVI := hid (show VIn w8 lo B0 A8 (vn + 1) (vs ++ [gx]) from ⟨HVI.out.1, .inr ⟨_, HOWN2.out.mono (by have := hql.out; omega)⟩⟩)
          have PX := PS
          have hbk0 : Blk (w8.setCell ⟨w.heap.size + 1, 5, none⟩ (.slice A8 (vn + 1) c8)) (w.heap.size + 1) 29 #[.int .i64 a, .int .i64 f, .int .i64 mn, .int .i64 ph, .int .u64 bg, .slice A8 (vn + 1) c8, .int .i64 tr] := PS.out.setCell 5 (.slice A8 (vn + 1) c8)
          have hbk1 : Blk ((w8.setCell ⟨w.heap.size + 1, 5, none⟩ (.slice A8 (vn + 1) c8)).setCell ⟨w.heap.size + 1, 3, none⟩ (.int .i64 3)) (w.heap.size + 1) 29 #[.int .i64 a, .int .i64 f, .int .i64 mn, .int .i64 3, .int .u64 bg, .slice A8 (vn + 1) c8, .int .i64 tr] := hbk0.setCell 3 (.int .i64 3)
          have hgr : w8.grownBy ((w8.setCell ⟨w.heap.size + 1, 5, none⟩ (.slice A8 (vn + 1) c8)).setCell ⟨w.heap.size + 1, 3, none⟩ (.int .i64 3)) (some (w.heap.size + 1)) := (grown_set (grown_set (World.grownBy.refl w8 (some (w.heap.size + 1))) 5 (.slice A8 (vn + 1) c8)) 3 (.int .i64 3))
          replace PS := hid hbk1
          clear hbk0 hbk1
          generalize (w8.setCell ⟨w.heap.size + 1, 5, none⟩ (.slice A8 (vn + 1) c8)).setCell ⟨w.heap.size + 1, 3, none⟩ (.int .i64 3) = W6 at *
          replace PM := hid (PM.out.grown hgr (by simp <;> omega))
          replace QM := hid (QM.out.grown hgr (by simp <;> omega))
          replace QS := hid (QS.out.grown hgr (by simp <;> omega))
          replace HM := hid (mem_kept HM.out (HFA.out _ (by omega) (by omega)) hgr)
          replace HVI := hid (HVI.out.kept PX.out ts1 (by have := hB0.out; omega) hgr)
          replace HB := hid (HB.out.grown hgr HB.out.size (fun r e => by cases e; omega))
          clear hgr
          clear PX
          exact ⟨PM.out, HM.out, ⟨_, _, _, PS.out, HVI.out⟩, QM.out, QS.out, HB.out⟩
        have hs' : s2 = ⟨a, f, mn, 2, bg, vs ++ [gx], tr⟩ := by rw [hs, if_neg (by rw [hlv.out]; exact hm)]
        subst hs'
        clear hs
        have em : ((vn : Int) + 1 == mn) = false := by simpa using hm
        go_wp2_with (first
          | (at_builtin; refine wpList_app u64v 0 _ rfl _ _ 24 rfl W4.heap.size 27 i1 _ 8 Try.underlying24 hi1 hz10 hz11 hz12 rfl A7 vn c7 vs rfl (HOWN1.out.alloc _) 0 _ _ 1 1 [gx] rfl (Sl.one' rfl |>.mono (Nat.zero_le _) (Nat.le_refl _)) (fun _ => rfl) (by have := hvn.out; simp only [maxLen]; omega) (by have := hvn.out; omega) (by have := HGR1.out.size; simp at this ⊢; omega) ?_; intro A8 c8 w8 hown hgr hat; have HOWN2 := hid hown; have H8 := hid (Below.grown (below_then (Below.grown (below_box W4 (.cells #[] 27)) HGR1.out (by simp) (fun k hk => by simp [Value.ownBlock] at hk; omega)) (below_box w7 (.cells #[.int .u64 gx] 27))) hgr (by have := HGR1.out.size; simp at this ⊢; omega) (fun k hk => HOWN1.out.row_ge k hk)); have P8 := hid (PS.out.step H8.out); clear hown hgr hat y00 y01 y02 y03 y04 y05 y06 yf0; obtain ⟨y00, y01, y02, y03, y04, y05, y06, yf0⟩ := P8.out.cells7; clear P8)
          | (at_builtin; refine wpList_app u64v 0 _ rfl _ _ 24 rfl W4.heap.size 27 i1 _ 8 Try.underlying24 hi1 hz10 hz11 hz12 rfl _ 0 0 [] rfl HE.out lo _ V vn vc vs rfl hvs2.out (fun _ => rfl) (by have := hvn.out; simp only [maxLen]; omega) (by have := hvn.out; omega) (by simp) ?_; intro A7 c7 w7 hown hgr hat; simp only [Nat.zero_add, List.nil_append] at hown; have HOWN1 := hid hown; have HGR1 := hid hgr; clear hown hgr hat))
        go_meet
        clear y00 y01 y02 y03 y04 y05 y06 yf0 hvs2
        have hb := H8.out
        replace HVI := hid (HVI.out.step hb); replace PM := hid (PM.out.step hb); replace PS := hid (PS.out.step hb); replace QM := hid (QM.out.step hb); replace QS := hid (QS.out.step hb); replace HM := hid (HM.out.step hb); replace HB := hid (below_then HB.out hb)
        clear hb
        replace HVI := hid (show VIn w8 lo B0 A8 (vn + 1) (vs ++ [gx]) from ⟨HVI.out.1, .inr ⟨_, HOWN2.out.mono (by have := hql.out; omega)⟩⟩)
        have PX := PS
        have hbk0 : Blk (w8.setCell ⟨w.heap.size + 1, 5, none⟩ (.slice A8 (vn + 1) c8)) (w.heap.size + 1) 29 #[.int .i64 a, .int .i64 f, .int .i64 mn, .int .i64 ph, .int .u64 bg, .slice A8 (vn + 1) c8, .int .i64 tr] := PS.out.setCell 5 (.slice A8 (vn + 1) c8)
        have hgr : w8.grownBy (w8.setCell ⟨w.heap.size + 1, 5, none⟩ (.slice A8 (vn + 1) c8)) (some (w.heap.size + 1)) := (grown_set (World.grownBy.refl w8 (some (w.heap.size + 1))) 5 (.slice A8 (vn + 1) c8))
        replace PS := hid hbk0
        clear hbk0
        generalize w8.setCell ⟨w.heap.size + 1, 5, none⟩ (.slice A8 (vn + 1) c8) = W6 at *
        replace PM := hid (PM.out.grown hgr (by simp <;> omega))
        replace QM := hid (QM.out.grown hgr (by simp <;> omega))
        replace QS := hid (QS.out.grown hgr (by simp <;> omega))
        replace HM := hid (mem_kept HM.out (HFA.out _ (by omega) (by omega)) hgr)
        replace HVI := hid (HVI.out.kept PX.out ts1 (by have := hB0.out; omega) hgr)
        replace HB := hid (HB.out.grown hgr HB.out.size (fun r e => by cases e; omega))
        clear hgr
        clear PX
        rw [H2.out] at PS
        exact ⟨PM.out, HM.out, ⟨_, _, _, PS.out, HVI.out⟩, QM.out, QS.out, HB.out⟩
      rw [if_neg h2] at hs
      have e2 : (ph == 2) = false := by simpa using h2
      have e3 : (ph == 3) = true := by have := hph.out; simp; omega
      by_cases hx : gx = bg
      · rw [if_pos hx] at hs
        subst hs
        have ex : (gx == bg) = true := by simpa using hx
        obtain ⟨y00, y01, y02, y03, y04, y05, y06, yf0⟩ := PS.out.cells7
        go_wp2_with fail
        go_meet
        clear y00 y01 y02 y03 y04 y05 y06 yf0
        have PX := PS
        have hbk0 : Blk (W4.setCell ⟨w.heap.size + 1, 3, none⟩ (.int .i64 4)) (w.heap.size + 1) 29 #[.int .i64 a, .int .i64 f, .int .i64 mn, .int .i64 4, .int .u64 bg, .slice V vn vc, .int .i64 tr] := PS.out.setCell 3 (.int .i64 4)
        have hgr : W4.grownBy (W4.setCell ⟨w.heap.size + 1, 3, none⟩ (.int .i64 4)) (some (w.heap.size + 1)) := (grown_set (World.grownBy.refl W4 (some (w.heap.size + 1))) 3 (.int .i64 4))
        replace PS := hid hbk0
        clear hbk0
        generalize W4.setCell ⟨w.heap.size + 1, 3, none⟩ (.int .i64 4) = W6 at *
        replace PM := hid (PM.out.grown hgr (by simp <;> omega))
        replace QM := hid (QM.out.grown hgr (by simp <;> omega))
        replace QS := hid (QS.out.grown hgr (by simp <;> omega))
        replace HM := hid (mem_kept HM.out (HFA.out _ (by omega) (by omega)) hgr)
        replace HVI := hid (HVI.out.kept PX.out ts1 (by have := hB0.out; omega) hgr)
        replace HB := hid (HB.out.grown hgr HB.out.size (fun r e => by cases e; omega))
        clear hgr
        clear PX
        exact ⟨PM.out, HM.out, ⟨_, _, _, PS.out, HVI.out⟩, QM.out, QS.out, HB.out⟩
      rw [if_neg hx] at hs
      have ex : (gx == bg) = false := by simpa using hx
      by_cases ht : tr < 1073741824
      · have hm : min (tr + 1) 1073741824 = tr + 1 := by omega
        rw [hm] at hs
        subst hs
        have hwt : IntKind.i64.wrap (tr + 1) = tr + 1 := by have := HTR.out; rw [IntKind.wrap_i64]; omega
        have dt : decide (tr < 1073741824) = true := decide_eq_true ht
        obtain ⟨y00, y01, y02, y03, y04, y05, y06, yf0⟩ := PS.out.cells7
        go_wp2_with fail
        go_meet
        clear y00 y01 y02 y03 y04 y05 y06 yf0
        have PX := PS
        have hbk0 : Blk (W4.setCell ⟨w.heap.size + 1, 3, none⟩ (.int .i64 0)) (w.heap.size + 1) 29 #[.int .i64 a, .int .i64 f, .int .i64 mn, .int .i64 0, .int .u64 bg, .slice V vn vc, .int .i64 tr] := PS.out.setCell 3 (.int .i64 0)
        have hbk1 : Blk ((W4.setCell ⟨w.heap.size + 1, 3, none⟩ (.int .i64 0)).setCell ⟨w.heap.size + 1, 6, none⟩ (.int .i64 (tr + 1))) (w.heap.size + 1) 29 #[.int .i64 a, .int .i64 f, .int .i64 mn, .int .i64 0, .int .u64 bg, .slice V vn vc, .int .i64 (tr + 1)] := hbk0.setCell 6 (.int .i64 (tr + 1))
        have hgr : W4.grownBy ((W4.setCell ⟨w.heap.size + 1, 3, none⟩ (.int .i64 0)).setCell ⟨w.heap.size + 1, 6, none⟩ (.int .i64 (tr + 1))) (some (w.heap.size + 1)) := (grown_set (grown_set (World.grownBy.refl W4 (some (w.heap.size + 1))) 3 (.int .i64 0)) 6 (.int .i64 (tr + 1)))
        replace PS := hid hbk1
        clear hbk0 hbk1
        generalize (W4.setCell ⟨w.heap.size + 1, 3, none⟩ (.int .i64 0)).setCell ⟨w.heap.size + 1, 6, none⟩ (.int .i64 (tr + 1)) = W6 at *
        replace PM := hid (PM.out.grown hgr (by simp <;> omega))
        replace QM := hid (QM.out.grown hgr (by simp <;> omega))
        replace QS := hid (QS.out.grown hgr (by simp <;> omega))
        replace HM := hid (mem_kept HM.out (HFA.out _ (by omega) (by omega)) hgr)
        replace HVI := hid (HVI.out.kept PX.out ts1 (by have := hB0.out; omega) hgr)
        replace HB := hid (HB.out.grown hgr HB.out.size (fun r e => by cases e; omega))
        clear hgr
        clear PX
        exact ⟨PM.out, HM.out, ⟨_, _, _, PS.out, HVI.out⟩, QM.out, QS.out, HB.out⟩
      have hm : min (tr + 1) 1073741824 = tr := by have := HTR.out; omega
      rw [hm] at hs
      subst hs
      have dt : decide (tr < 1073741824) = false := decide_eq_false ht
      obtain ⟨y00, y01, y02, y03, y04, y05, y06, yf0⟩ := PS.out.cells7
      go_wp2_with fail
      go_meet
      clear y00 y01 y02 y03 y04 y05 y06 yf0
      have PX := PS
      have hbk0 : Blk (W4.setCell ⟨w.heap.size + 1, 3, none⟩ (.int .i64 0)) (w.heap.size + 1) 29 #[.int .i64 a, .int .i64 f, .int .i64 mn, .int .i64 0, .int .u64 bg, .slice V vn vc, .int .i64 tr] := PS.out.setCell 3 (.int .i64 0)
      have hgr : W4.grownBy (W4.setCell ⟨w.heap.size + 1, 3, none⟩ (.int .i64 0)) (some (w.heap.size + 1)) := (grown_set (World.grownBy.refl W4 (some (w.heap.size + 1))) 3 (.int .i64 0))
      replace PS := hid hbk0
      clear hbk0
      generalize W4.setCell ⟨w.heap.size + 1, 3, none⟩ (.int .i64 0) = W6 at *
      replace PM := hid (PM.out.grown hgr (by simp <;> omega))
      replace QM := hid (QM.out.grown hgr (by simp <;> omega))
      replace QS := hid (QS.out.grown hgr (by simp <;> omega))
      replace HM := hid (mem_kept HM.out (HFA.out _ (by omega) (by omega)) hgr)
      replace HVI := hid (HVI.out.kept PX.out ts1 (by have := hB0.out; omega) hgr)
      replace HB := hid (HB.out.grown hgr HB.out.size (fun r e => by cases e; omega))
      clear hgr
      clear PX
      exact ⟨PM.out, HM.out, ⟨_, _, _, PS.out, HVI.out⟩, QM.out, QS.out, HB.out⟩
    case rest =>
      rename World => W5
      obtain ⟨h1, h2, ⟨V2, vn2, vc2, h3, h4⟩, h6, h7, h8⟩ := hcut
      replace PM := hid h1; replace HM := hid h2; replace PS := hid h3; replace HVI := hid h4; replace QM := hid h6; replace QS := hid h7; replace HB := hid h8
      clear h1 h2 h3 h4 h6 h7 h8
      go_upto_region 23 with fail
      have bx := (Below.refl W5.heap.size W5).drew
      replace HVI := hid (HVI.out.step bx); replace PM := hid (PM.out.step bx); replace PS := hid (PS.out.step bx); replace QM := hid (QM.out.step bx); replace QS := hid (QS.out.step bx); replace HM := hid (HM.out.step bx); replace HB := hid (below_then HB.out bx)
      clear bx
      have hszd := hid (show W5.drew.heap.size = W5.heap.size from rfl)
      refine wp_region_noPanic ?_
      refine wp_region_held_drew (S := (fun W' : World => W'.cell? ⟨w.heap.size, 0, none⟩ = some (.slice A2 n c2) ∧ W'.cell? ⟨w.heap.size, 1, none⟩ = some (.slice B2 n d2) ∧ W'.cell? ⟨w.heap.size, 2, none⟩ = some (.bool f2) ∧ W'.cell? ⟨w.heap.size + 1, 0, none⟩ = some (.int .i64 s2.a) ∧ W'.cell? ⟨w.heap.size + 1, 1, none⟩ = some (.int .i64 s2.f) ∧ W'.cell? ⟨w.heap.size + 1, 2, none⟩ = some (.int .i64 s2.m) ∧ W'.cell? ⟨w.heap.size + 1, 3, none⟩ = some (.int .i64 s2.ph) ∧ W'.cell? ⟨w.heap.size + 1, 4, none⟩ = some (.int .u64 s2.bg) ∧ W'.cell? ⟨w.heap.size + 1, 5, none⟩ = some (.slice V2 vn2 vc2) ∧ W'.cell? ⟨w.heap.size + 1, 6, none⟩ = some (.int .i64 s2.tr))) (by kernel_rfl) ⟨PM.out.cells3.1, PM.out.cells3.2.1, PM.out.cells3.2.2.1, PS.out.cells7.1, PS.out.cells7.2.1, PS.out.cells7.2.2.1, PS.out.cells7.2.2.2.1, PS.out.cells7.2.2.2.2.1, PS.out.cells7.2.2.2.2.2.1, PS.out.cells7.2.2.2.2.2.2.1⟩ (fun hS => ?_)
      generalize W5.drew = Wd at *
      refine wpAnyH_take (i := 0) (v := ?_) (by simp only [List.getElem?_toArray, List.getElem?_cons_succ, List.getElem?_cons_zero]; rfl) (by kernel_rfl) (by kernel_rfl) (by kernel_rfl) (fun _ _ _ h => h) (Or.inl ⟨by rfl, ?_⟩) hS ?_
      rotate_left
      · intro w' hSw; (try dsimp only at hSw); go_split_ands; go_simp; (try with_reducible rfl)
      (try simp only [Act.put, List.setIfInBounds_toArray, List.set_cons_zero, List.set_cons_succ])
      refine wpAnyH_take (i := 1) (v := ?_) (by simp only [List.getElem?_toArray, List.getElem?_cons_succ, List.getElem?_cons_zero]; rfl) (by kernel_rfl) (by kernel_rfl) (by kernel_rfl) (fun _ _ _ h => h) (Or.inl ⟨by rfl, ?_⟩) hS ?_
      rotate_left
      · intro w' hSw; (try dsimp only at hSw); go_split_ands; go_simp; (try with_reducible rfl)
      (try simp only [Act.put, List.setIfInBounds_toArray, List.set_cons_zero, List.set_cons_succ])
      refine wpAnyH_ready (rs := [2]) (by kernel_rfl) (by simp) ?_
      refine AllReadyH.cons (by simp only [List.getElem?_toArray, List.getElem?_cons_succ, List.getElem?_cons_zero]; rfl) (fun K hK => ?_) ?_
      · skip
        obtain ⟨y00, y01, y02, yf0⟩ := QM.out.cells3
        go_simp
        clear y00 y01 y02 yf0
        refine named_store3 QM.out ?_
        intro Ws2 hbk hgr hsz
        have hsz0 := hid hsz
        clear hsz
        replace PM := hid (PM.out.grown hgr (by simp <;> omega))
        replace PS := hid (PS.out.grown hgr (by simp <;> omega))
        replace QS := hid (QS.out.grown hgr (by simp <;> omega))
        replace HM := hid (mem_kept HM.out (HFA.out _ (by omega) (by omega)) hgr)
        replace HVI := hid (HVI.out.kept QM.out tm1 (by have := hB0.out; omega) hgr)
        replace HB := hid (HB.out.grown hgr HB.out.size (fun r e => by cases e; omega))
        replace QM := hid hbk
        clear hbk hgr
        refine hK.out _ _ ⟨PM.out.cells3.1, PM.out.cells3.2.1, PM.out.cells3.2.2.1, PS.out.cells7.1, PS.out.cells7.2.1, PS.out.cells7.2.2.1, PS.out.cells7.2.2.2.1, PS.out.cells7.2.2.2.2.1, PS.out.cells7.2.2.2.2.2.1, PS.out.cells7.2.2.2.2.2.2.1⟩ (fun hS' => ?_)
        clear hK K hS
        have hS := hS'
        clear hS'
        (try simp only [Act.put, List.setIfInBounds_toArray, List.set_cons_zero, List.set_cons_succ])
        refine wpAnyH_ready (rs := [3]) (by kernel_rfl) (by simp) ?_
        refine AllReadyH.cons (by simp only [List.getElem?_toArray, List.getElem?_cons_succ, List.getElem?_cons_zero]; rfl) (fun K hK => ?_) ?_
        · skip
          obtain ⟨y00, y01, y02, y03, y04, y05, y06, yf0⟩ := QS.out.cells7
          go_simp
          clear y00 y01 y02 y03 y04 y05 y06 yf0
          refine named_store_7_7_0 QS.out ?_
          intro Ws3 hbk hgr hsz
          have hsz1 := hid hsz
          clear hsz
          replace PM := hid (PM.out.grown hgr (by simp <;> omega))
          replace PS := hid (PS.out.grown hgr (by simp <;> omega))
          replace QM := hid (QM.out.grown hgr (by simp <;> omega))
          replace HM := hid (mem_kept HM.out (HFA.out _ (by omega) (by omega)) hgr)
          replace HVI := hid (HVI.out.kept QS.out ts1 (by have := hB0.out; omega) hgr)
          replace HB := hid (HB.out.grown hgr HB.out.size (fun r e => by cases e; omega))
          replace QS := hid hbk
          clear hbk hgr
          refine hK.out _ _ ⟨PM.out.cells3.1, PM.out.cells3.2.1, PM.out.cells3.2.2.1, PS.out.cells7.1, PS.out.cells7.2.1, PS.out.cells7.2.2.1, PS.out.cells7.2.2.2.1, PS.out.cells7.2.2.2.2.1, PS.out.cells7.2.2.2.2.2.1, PS.out.cells7.2.2.2.2.2.2.1⟩ (fun hS' => ?_)
          clear hK K hS
          have hS := hS'
          clear hS'
          (try simp only [Act.put, List.setIfInBounds_toArray, List.set_cons_zero, List.set_cons_succ])
          refine wpAnyH_done (by kernel_rfl) ?_ _
          refine NoPanic.normal ?_
          clear hS
          go_wp2
          obtain ⟨q0, q1, q2, qf⟩ := QM.out.cells3; obtain ⟨v0, v1, v2, v3, v4, v5, v6, vf⟩ := QS.out.cells7
          refine bodyPost_ret (v := .tuple #[mv A2 n c2 B2 n d2 f2, .agg #[.int .i64 s2.a, .int .i64 s2.f, .int .i64 s2.m, .int .i64 s2.ph, .int .u64 s2.bg, .slice V2 vn2 vc2, .int .i64 s2.tr]]) (by simp [results, Try.results34, go_sem, q0, q1, q2, v0, v1, v2, v3, v4, v5, v6]) rfl ?_
          exact ⟨A2, c2, B2, d2, _, _, _, rfl, HM.out, HVI.out, HB.out, TR.out⟩
        exact AllReadyH.nil
      exact AllReadyH.nil
end Go.Proofs.Ytnkaajkdjbdpaaa
