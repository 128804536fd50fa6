/- package spin: Step. No condition but sizes. -/
import Derived.Test.YtaeanmkbongfcaaSp17
import Derived.Deep.DeepCutAuto
import Derived.Deep.CutBlock
import Derived.Laws.EntriesVeiled
namespace Go.Proofs.Ytaeanmkbongfcaa
open Go.RowKit
def spStepF (m : MSt) (s : Spn) : Int × MSt × Spn :=
  if ¬ MGood m.1 m.2.1 then (120, ([], [], false), (0, 0, 0)) else if ¬ SpGood s then (150, ([], [], false), (0, 0, 0)) else
  if s.2.1 = 3 then (0, m, s) else (0, (pstepF m [s] 0).1, (pstepF m [s] 0).2[0]?.getD (0, 0, 0))
def StpPost (w : World) (r : Int × MSt × Spn) (e : Ending) (w' : World) : Prop :=
  ∃ A n c B k d, e = .returned (.tuple #[mv A n c B k d r.2.1.2.2, svS r.2.2, .int .i64 r.1]) ∧ Mown w' w.heap.size A n c B k d r.2.1.1 r.2.1.2.1 ∧ Below w.heap.size w w'
theorem pstepF_one (m : MSt) (s : Spn) : (pstepF m [s] 0).2 = [(pstepF m [s] 0).2[0]?.getD (0, 0, 0)] := by
  unfold pstepF; split <;> simp
theorem Om.oneS {W : World} {lo g : Nat} {a p t : Int} (h : Blk W g 38 (scs a p t)) (hlo : lo ≤ g) : Om 3 encS W lo 38 (some ⟨g, 0, none⟩) 1 1 [(a, p, t)] :=
  ⟨rfl, rfl, .inr ⟨g, 1, _, rfl, hlo, h, Nat.le_refl _, by simp [maxLen], rfl, rfl⟩⟩
theorem Om.one_blk {W : World} {lo : Nat} {L : Option Addr} {a p t : Int} (h : Om 3 encS W lo 38 L 1 1 [(a, p, t)]) : ∃ g, L = some ⟨g, 0, none⟩ ∧ lo ≤ g ∧ Blk W g 38 (scs a p t) := by
  rcases h.own.2 with ⟨_, h0⟩ | ⟨g, cap, cur, hv, hlo, hb, _, _, hs, ht⟩
  · exact absurd h0 (by decide)
  · simp only [Value.slice.injEq] at hv
    obtain ⟨rfl, _, rfl⟩ := hv
    refine ⟨g, rfl, hlo, ?_⟩
    have hc : cur = scs a p t := by
      apply Array.ext'
      rw [List.take_of_length_le (by simp [hs])] at ht
      rw [ht]; rfl
    rw [← hc]; exact hb
set_option maxRecDepth 100000 in
set_option maxHeartbeats 8000000 in
theorem spstep_any (A : Option Addr) (n c : Nat) (B : Option Addr) (k d : Nat) (f : Bool) (ws : List Int) (ls : List Bool) (a p t : Int) (w : World) (h : Mem w A n c B k d ws ls) :
    Calls Try.prog 29 #[mv A n c B k d f, sv a p t] w (StpPost w (spStepF (ws, ls, f) (a, p, t))) := by
  have HM := hid h; have HB := hid (Below.refl w.heap.size w)
  have HE := hid (show spStepF (ws, ls, f) (a, p, t) = if ¬ MGood ws ls then (120, ([], [], false), (0, 0, 0)) else if ¬ SpGood (a, p, t) then (150, ([], [], false), (0, 0, 0)) else if p = 3 then (0, (ws, ls, f), (a, p, t)) else (0, (pstepF (ws, ls, f) [(a, p, t)] 0).1, (pstepF (ws, ls, f) [(a, p, t)] 0).2[0]?.getD (0, 0, 0)) from rfl)
  have HC := hid (show mcheckC ws ls = if MGood ws ls then 0 else 120 from rfl)
  clear h
  have bx := below_box w (.cells (mcs A n c B k d f) 25)
  replace HM := hid (HM.out.step bx); replace HB := hid (below_then HB.out bx)
  clear bx
  have PM := hid (Blk.new w 25 (mcs A n c B k d f))
  have bx := below_box (w.alloc (.cells (mcs A n c B k d f) 25)) (.cells (scs a p t) 38)
  replace HM := hid (HM.out.step bx); replace PM := hid (PM.out.step bx); replace HB := hid (below_then HB.out bx)
  clear bx
  have PS := hid (Blk.new2 w 38 (scs a p t) (.cells (mcs A n c B k d f) 25))
  have bx := below_box ((w.alloc (.cells (mcs A n c B k d f) 25)).alloc (.cells (scs a p t) 38)) (.cells (mcs none 0 0 none 0 0 false) 25)
  replace HM := hid (HM.out.step bx); replace PM := hid (PM.out.step bx); replace PS := hid (PS.out.step bx); replace HB := hid (below_then HB.out bx)
  clear bx
  have PR := hid (Blk.new3 w 25 (mcs none 0 0 none 0 0 false) (.cells (mcs A n c B k d f) 25) (.cells (scs a p t) 38))
  have bx := below_box (((w.alloc (.cells (mcs A n c B k d f) 25)).alloc (.cells (scs a p t) 38)).alloc (.cells (mcs none 0 0 none 0 0 false) 25)) (.cells (scs 0 0 0) 38)
  replace HM := hid (HM.out.step bx); replace PM := hid (PM.out.step bx); replace PS := hid (PS.out.step bx); replace PR := hid (PR.out.step bx); replace HB := hid (below_then HB.out bx)
  clear bx
  have PQ := hid (Blk.new4 w 38 (scs 0 0 0) (.cells (mcs A n c B k d f) 25) (.cells (scs a p t) 38) (.cells (mcs none 0 0 none 0 0 false) 25))
  go_enter Try.func29, Try.ntmps29
  obtain ⟨y00, y01, y02, yf0⟩ := PM.out.cells3
  go_wp2_with fail
  clear y00 y01 y02 yf0
  have hz0 := hid (show ((((w.alloc (.cells (mcs A n c B k d f) 25)).alloc (.cells (scs a p t) 38)).alloc (.cells (mcs none 0 0 none 0 0 false) 25)).alloc (.cells (scs 0 0 0) 38)).heap.size = w.heap.size + 4 by simp)
  generalize (((w.alloc (.cells (mcs A n c B k d f) 25)).alloc (.cells (scs a p t) 38)).alloc (.cells (mcs none 0 0 none 0 0 false) 25)).alloc (.cells (scs 0 0 0) 38) = W0 at *
  refine (mcheck_any A n c B k d f ws ls _ HM.out).mono ?_
  rintro e w1 ⟨rfl, hb⟩
  replace HM := hid (HM.out.step hb); replace PM := hid (PM.out.step hb); replace PS := hid (PS.out.step hb); replace PR := hid (PR.out.step hb); replace PQ := hid (PQ.out.step hb); replace HB := hid (below_then HB.out hb)
  clear hb
  by_cases hg : MGood ws ls
  rotate_left
  · rw [HC.out, if_neg hg]
    obtain ⟨y00, y01, y02, yf0⟩ := PR.out.cells3
    obtain ⟨y10, y11, y12, yf1⟩ := PQ.out.cells3
    go_wp2
    obtain ⟨q0, q1, q2, qf⟩ := ((((((PR.out.setCell 0 (.slice none 0 0)).setCell 1 (.slice none 0 0)).setCell 2 (.bool false)).far (p := ⟨w.heap.size + 3, 0, none⟩) (by simp) (.int .i64 0)).far (p := ⟨w.heap.size + 3, 1, none⟩) (by simp) (.int .i64 0)).far (p := ⟨w.heap.size + 3, 2, none⟩) (by simp) (.int .u64 0)).cells3
    obtain ⟨v0, v1, v2, vf⟩ := ((((((PQ.out.far (p := ⟨w.heap.size + 2, 0, none⟩) (by simp) (.slice none 0 0)).far (p := ⟨w.heap.size + 2, 1, none⟩) (by simp) (.slice none 0 0)).far (p := ⟨w.heap.size + 2, 2, none⟩) (by simp) (.bool false)).setCell 0 (.int .i64 0)).setCell 1 (.int .i64 0)).setCell 2 (.int .u64 0)).cells3
    rw [show spStepF (ws, ls, f) (a, p, t) = (120, ([], [], false), (0, 0, 0)) from HE.out.trans (if_pos hg)]
    refine bodyPost_ret (v := .tuple #[mv none 0 0 none 0 0 false, sv 0 0 0, .int .i64 120]) (by simp [results, Try.results29, go_sem, q0, q1, q2, v0, v1, v2]) rfl ?_
    exact ⟨none, 0, 0, none, 0, 0, rfl, Mown.none _ _, ((((((HB.out.setCell (p := ⟨w.heap.size + 2, 0, none⟩) (by simp) (.slice none 0 0)).setCell (p := ⟨w.heap.size + 2, 1, none⟩) (by simp) (.slice none 0 0)).setCell (p := ⟨w.heap.size + 2, 2, none⟩) (by simp) (.bool false)).setCell (p := ⟨w.heap.size + 3, 0, none⟩) (by simp) (.int .i64 0)).setCell (p := ⟨w.heap.size + 3, 1, none⟩) (by simp) (.int .i64 0)).setCell (p := ⟨w.heap.size + 3, 2, none⟩) (by simp) (.int .u64 0))⟩
  rw [HC.out, if_pos hg]
  have HG := hid hg
  clear hg
  obtain ⟨y00, y01, y02, yf0⟩ := PS.out.cells3
  go_wp2_with fail
  clear y00 y01 y02 yf0
  refine (spcheck_any a p t _).mono ?_
  rintro e w2 ⟨rfl, hb⟩
  replace HM := hid (HM.out.step hb); replace PM := hid (PM.out.step hb); replace PS := hid (PS.out.step hb); replace PR := hid (PR.out.step hb); replace PQ := hid (PQ.out.step hb); replace HB := hid (below_then HB.out hb)
  clear hb
  have HCS := hid (show spCheckC (a, p, t) = if SpGood (a, p, t) then 0 else 150 from rfl)
  by_cases hs : SpGood (a, p, t)
  rotate_left
  · rw [HCS.out, if_neg hs]
    obtain ⟨y00, y01, y02, yf0⟩ := PR.out.cells3
    obtain ⟨y10, y11, y12, yf1⟩ := PQ.out.cells3
    go_wp2
    obtain ⟨q0, q1, q2, qf⟩ := ((((((PR.out.setCell 0 (.slice none 0 0)).setCell 1 (.slice none 0 0)).setCell 2 (.bool false)).far (p := ⟨w.heap.size + 3, 0, none⟩) (by simp) (.int .i64 0)).far (p := ⟨w.heap.size + 3, 1, none⟩) (by simp) (.int .i64 0)).far (p := ⟨w.heap.size + 3, 2, none⟩) (by simp) (.int .u64 0)).cells3
    obtain ⟨v0, v1, v2, vf⟩ := ((((((PQ.out.far (p := ⟨w.heap.size + 2, 0, none⟩) (by simp) (.slice none 0 0)).far (p := ⟨w.heap.size + 2, 1, none⟩) (by simp) (.slice none 0 0)).far (p := ⟨w.heap.size + 2, 2, none⟩) (by simp) (.bool false)).setCell 0 (.int .i64 0)).setCell 1 (.int .i64 0)).setCell 2 (.int .u64 0)).cells3
    rw [show spStepF (ws, ls, f) (a, p, t) = (150, ([], [], false), (0, 0, 0)) from HE.out.trans ((if_neg (not_not_intro HG.out)).trans (if_pos hs))]
    refine bodyPost_ret (v := .tuple #[mv none 0 0 none 0 0 false, sv 0 0 0, .int .i64 150]) (by simp [results, Try.results29, go_sem, q0, q1, q2, v0, v1, v2]) rfl ?_
    exact ⟨none, 0, 0, none, 0, 0, rfl, Mown.none _ _, ((((((HB.out.setCell (p := ⟨w.heap.size + 2, 0, none⟩) (by simp) (.slice none 0 0)).setCell (p := ⟨w.heap.size + 2, 1, none⟩) (by simp) (.slice none 0 0)).setCell (p := ⟨w.heap.size + 2, 2, none⟩) (by simp) (.bool false)).setCell (p := ⟨w.heap.size + 3, 0, none⟩) (by simp) (.int .i64 0)).setCell (p := ⟨w.heap.size + 3, 1, none⟩) (by simp) (.int .i64 0)).setCell (p := ⟨w.heap.size + 3, 2, none⟩) (by simp) (.int .u64 0))⟩
  rw [HCS.out, if_pos hs]
  have HS := hid hs
  clear hs
  have hsz := hid (show w.heap.size + 3 < w2.heap.size from PQ.out.lt)
  obtain ⟨y00, y01, y02, yf0⟩ := PM.out.cells3
  obtain ⟨y10, y11, y12, yf1⟩ := PS.out.cells3
  go_upto_region 7 with fail
  clear y00 y01 y02 yf0 y10 y11 y12 yf1
  have XM := HM; have XPM := PM; have XPS := PS; have H2 := hid (Below.refl w2.heap.size w2)
  go_cut [9] (fun s9 wx => ∃ P gr, s9 = ptr P ∧ w2.heap.size ≤ P ∧ P < wx.heap.size ∧ w2.heap.size ≤ gr ∧ gr ≠ P ∧ Plm wx P w2.heap.size (ws, ls, f) (some ⟨gr, 0, none⟩) 1 1 w2.heap.size [(a, p, t)] ∧ Below w2.heap.size w2 wx)
  case first =>
    have bx := (Below.refl w2.heap.size w2).drew
    replace H2 := hid (below_then H2.out bx)
    clear bx
    have hszd := hid (show w2.drew.heap.size = w2.heap.size from rfl)
    refine wp_region_noPanic ?_
    refine wp_region_held_drew (S := (fun W' : World => W'.cell? ⟨w.heap.size, 0, none⟩ = some (.slice A n c) ∧ W'.cell? ⟨w.heap.size, 1, none⟩ = some (.slice B k d) ∧ W'.cell? ⟨w.heap.size, 2, none⟩ = some (.bool f) ∧ W'.cell? ⟨w.heap.size + 1, 0, none⟩ = some (.int .i64 a) ∧ W'.cell? ⟨w.heap.size + 1, 1, none⟩ = some (.int .i64 p) ∧ W'.cell? ⟨w.heap.size + 1, 2, none⟩ = some (.int .u64 t))) (by kernel_rfl) ⟨(XPM.out.step H2.out).cells3.1, (XPM.out.step H2.out).cells3.2.1, (XPM.out.step H2.out).cells3.2.2.1, (XPS.out.step H2.out).cells3.1, (XPS.out.step H2.out).cells3.2.1, (XPS.out.step H2.out).cells3.2.2.1⟩ (fun hS => ?_)
    generalize w2.drew = Wd at *
    refine wpAnyH_take (i := 0) (v := ?_) (by simp only [List.getElem?_toArray, List.getElem?_cons_succ, List.getElem?_cons_zero]; rfl) (by kernel_rfl) (by kernel_rfl) (by kernel_rfl) (fun _ _ _ h => h) (Or.inl ⟨by rfl, ?_⟩) hS ?_
    rotate_left
    · intro w' hSw; (try dsimp only at hSw); go_split_ands; go_simp; (try with_reducible rfl)
    (try simp only [Act.put, List.setIfInBounds_toArray, List.set_cons_zero, List.set_cons_succ])
    refine wpAnyH_take (i := 2) (v := ?_) (by simp only [List.getElem?_toArray, List.getElem?_cons_succ, List.getElem?_cons_zero]; rfl) (by kernel_rfl) (by kernel_rfl) (by kernel_rfl) (fun _ _ _ h => h) (Or.inl ⟨by rfl, ?_⟩) hS ?_
    rotate_left
    · intro w' hSw; (try dsimp only at hSw); go_split_ands; go_simp; (try with_reducible rfl)
    (try simp only [Act.put, List.setIfInBounds_toArray, List.set_cons_zero, List.set_cons_succ])
    refine wpAnyH_ready (rs := [1, 3]) (by kernel_rfl) (by simp) ?_
    refine AllReadyH.cons (by simp only [List.getElem?_toArray, List.getElem?_cons_succ, List.getElem?_cons_zero]; rfl) (fun K hK => ?_) ?_
    · skip
      go_simp
      refine (spown_any A n c B k d f ws ls _ (XM.out.step H2.out)).mono ?_
      rintro e w3 ⟨ga, gb, rfl, ho, hb⟩
      have hsz0 := hid (show Wd.heap.size ≤ w3.heap.size from hb.size)
      replace H2 := hid (below_then H2.out hb)
      clear hb
      have HO := hid ho
      clear ho
      go_wp2_with fail
      have hS' : (fun W' : World => W'.cell? ⟨w.heap.size, 0, none⟩ = some (.slice A n c) ∧ W'.cell? ⟨w.heap.size, 1, none⟩ = some (.slice B k d) ∧ W'.cell? ⟨w.heap.size, 2, none⟩ = some (.bool f) ∧ W'.cell? ⟨w.heap.size + 1, 0, none⟩ = some (.int .i64 a) ∧ W'.cell? ⟨w.heap.size + 1, 1, none⟩ = some (.int .i64 p) ∧ W'.cell? ⟨w.heap.size + 1, 2, none⟩ = some (.int .u64 t)) _ := ⟨(XPM.out.step H2.out).cells3.1, (XPM.out.step H2.out).cells3.2.1, (XPM.out.step H2.out).cells3.2.2.1, (XPS.out.step H2.out).cells3.1, (XPS.out.step H2.out).cells3.2.1, (XPS.out.step H2.out).cells3.2.2.1⟩
      refine hK.out _ _ hS' (fun _ => ?_)
      clear hK K hS
      have hS := hS'
      clear hS'
      (try simp only [Act.put, List.setIfInBounds_toArray, List.set_cons_zero, List.set_cons_succ])
      refine wpAnyH_ready (rs := [3]) (by kernel_rfl) (by simp) ?_
      refine AllReadyH.cons (by simp only [List.getElem?_toArray, List.getElem?_cons_succ, List.getElem?_cons_zero]; rfl) (fun K hK => ?_) ?_
      · skip
        go_simp
        refine named_alloc ?_
        intro Wa3 hbk hb hsz
        have hsz1 := hid hsz
        replace HO := hid (HO.out.step hb); replace H2 := hid (below_then H2.out hb)
        have RW := hid hbk
        clear hb hbk hsz
        have hS' : (fun W' : World => W'.cell? ⟨w.heap.size, 0, none⟩ = some (.slice A n c) ∧ W'.cell? ⟨w.heap.size, 1, none⟩ = some (.slice B k d) ∧ W'.cell? ⟨w.heap.size, 2, none⟩ = some (.bool f) ∧ W'.cell? ⟨w.heap.size + 1, 0, none⟩ = some (.int .i64 a) ∧ W'.cell? ⟨w.heap.size + 1, 1, none⟩ = some (.int .i64 p) ∧ W'.cell? ⟨w.heap.size + 1, 2, none⟩ = some (.int .u64 t)) _ := ⟨(XPM.out.step H2.out).cells3.1, (XPM.out.step H2.out).cells3.2.1, (XPM.out.step H2.out).cells3.2.2.1, (XPS.out.step H2.out).cells3.1, (XPS.out.step H2.out).cells3.2.1, (XPS.out.step H2.out).cells3.2.2.1⟩
        refine hK.out _ _ hS' (fun _ => ?_)
        clear hK K hS
        have hS := hS'
        clear hS'
        (try simp only [Act.put, List.setIfInBounds_toArray, List.set_cons_zero, List.set_cons_succ])
        refine wpAnyH_take (i := 4) (v := ?_) (by simp only [List.getElem?_toArray, List.getElem?_cons_succ, List.getElem?_cons_zero]; rfl) (by kernel_rfl) (by kernel_rfl) (by kernel_rfl) (fun _ _ _ h => h) (Or.inl ⟨by rfl, ?_⟩) hS ?_
        rotate_left
        · intro w' hSw; (try dsimp only at hSw); go_split_ands; go_simp; (try with_reducible rfl)
        (try simp only [Act.put, List.setIfInBounds_toArray, List.set_cons_zero, List.set_cons_succ])
        refine wpAnyH_ready (rs := [5]) (by kernel_rfl) (by simp) ?_
        refine AllReadyH.cons (by simp only [List.getElem?_toArray, List.getElem?_cons_succ, List.getElem?_cons_zero]; rfl) (fun K hK => ?_) ?_
        · skip
          go_simp
          refine named_alloc ?_
          intro Wa5 hbk hb hsz
          have hsz2 := hid hsz
          replace HO := hid (HO.out.step hb); replace RW := hid (RW.out.step hb); replace H2 := hid (below_then H2.out hb)
          have PP := hid hbk
          clear hb hbk hsz
          have hS' : (fun W' : World => W'.cell? ⟨w.heap.size, 0, none⟩ = some (.slice A n c) ∧ W'.cell? ⟨w.heap.size, 1, none⟩ = some (.slice B k d) ∧ W'.cell? ⟨w.heap.size, 2, none⟩ = some (.bool f) ∧ W'.cell? ⟨w.heap.size + 1, 0, none⟩ = some (.int .i64 a) ∧ W'.cell? ⟨w.heap.size + 1, 1, none⟩ = some (.int .i64 p) ∧ W'.cell? ⟨w.heap.size + 1, 2, none⟩ = some (.int .u64 t)) _ := ⟨(XPM.out.step H2.out).cells3.1, (XPM.out.step H2.out).cells3.2.1, (XPM.out.step H2.out).cells3.2.2.1, (XPS.out.step H2.out).cells3.1, (XPS.out.step H2.out).cells3.2.1, (XPS.out.step H2.out).cells3.2.2.1⟩
          refine hK.out _ _ hS' (fun _ => ?_)
          clear hK K hS
          have hS := hS'
          clear hS'
          (try simp only [Act.put, List.setIfInBounds_toArray, List.set_cons_zero, List.set_cons_succ])
          refine wpAnyH_take (i := 6) (v := ?_) (by simp only [List.getElem?_toArray, List.getElem?_cons_succ, List.getElem?_cons_zero]; rfl) (by kernel_rfl) (by kernel_rfl) (by kernel_rfl) (fun _ _ _ h => h) (Or.inl ⟨by rfl, ?_⟩) hS ?_
          rotate_left
          · intro w' hSw; (try dsimp only at hSw); go_split_ands; go_simp; (try with_reducible rfl)
          (try simp only [Act.put, List.setIfInBounds_toArray, List.set_cons_zero, List.set_cons_succ])
          refine wpAnyH_done (by kernel_rfl) ?_ _
          refine NoPanic.normal ?_
          clear hS
          go_wp2_with fail
          go_meet
          exact ⟨_, _, rfl, by have := hszd.out; have := hsz0.out; have := hsz1.out; have := hsz2.out; omega, PP.out.lt, by have := hszd.out; have := hsz0.out; have := hsz1.out; have := hsz2.out; omega, by have := hszd.out; have := hsz0.out; have := hsz1.out; have := hsz2.out; omega, ⟨⟨_, _, _, _, _, _, PP.out, HO.out.mono (by have := hszd.out; have := hsz0.out; have := hsz1.out; have := hsz2.out; omega)⟩, Om.oneS RW.out (by have := hszd.out; have := hsz0.out; have := hsz1.out; have := hsz2.out; omega), H2.out.size⟩, H2.out⟩
        exact AllReadyH.nil
      exact AllReadyH.nil
    refine AllReadyH.cons (by simp only [List.getElem?_toArray, List.getElem?_cons_succ, List.getElem?_cons_zero]; rfl) (fun K hK => ?_) ?_
    · skip
      go_simp
      refine named_alloc ?_
      intro Wa3 hbk hb hsz
      have hsz0 := hid hsz
      replace H2 := hid (below_then H2.out hb)
      have RW := hid hbk
      clear hb hbk hsz
      have hS' : (fun W' : World => W'.cell? ⟨w.heap.size, 0, none⟩ = some (.slice A n c) ∧ W'.cell? ⟨w.heap.size, 1, none⟩ = some (.slice B k d) ∧ W'.cell? ⟨w.heap.size, 2, none⟩ = some (.bool f) ∧ W'.cell? ⟨w.heap.size + 1, 0, none⟩ = some (.int .i64 a) ∧ W'.cell? ⟨w.heap.size + 1, 1, none⟩ = some (.int .i64 p) ∧ W'.cell? ⟨w.heap.size + 1, 2, none⟩ = some (.int .u64 t)) _ := ⟨(XPM.out.step H2.out).cells3.1, (XPM.out.step H2.out).cells3.2.1, (XPM.out.step H2.out).cells3.2.2.1, (XPS.out.step H2.out).cells3.1, (XPS.out.step H2.out).cells3.2.1, (XPS.out.step H2.out).cells3.2.2.1⟩
      refine hK.out _ _ hS' (fun _ => ?_)
      clear hK K hS
      have hS := hS'
      clear hS'
      (try simp only [Act.put, List.setIfInBounds_toArray, List.set_cons_zero, List.set_cons_succ])
      refine wpAnyH_ready (rs := [1]) (by kernel_rfl) (by simp) ?_
      refine AllReadyH.cons (by simp only [List.getElem?_toArray, List.getElem?_cons_succ, List.getElem?_cons_zero]; rfl) (fun K hK => ?_) ?_
      · skip
        go_simp
        refine (spown_any A n c B k d f ws ls _ (XM.out.step H2.out)).mono ?_
        rintro e w3 ⟨ga, gb, rfl, ho, hb⟩
        have hsz1 := hid (show Wa3.heap.size ≤ w3.heap.size from hb.size)
        replace RW := hid (RW.out.step hb); replace H2 := hid (below_then H2.out hb)
        clear hb
        have HO := hid ho
        clear ho
        go_wp2_with fail
        have hS' : (fun W' : World => W'.cell? ⟨w.heap.size, 0, none⟩ = some (.slice A n c) ∧ W'.cell? ⟨w.heap.size, 1, none⟩ = some (.slice B k d) ∧ W'.cell? ⟨w.heap.size, 2, none⟩ = some (.bool f) ∧ W'.cell? ⟨w.heap.size + 1, 0, none⟩ = some (.int .i64 a) ∧ W'.cell? ⟨w.heap.size + 1, 1, none⟩ = some (.int .i64 p) ∧ W'.cell? ⟨w.heap.size + 1, 2, none⟩ = some (.int .u64 t)) _ := ⟨(XPM.out.step H2.out).cells3.1, (XPM.out.step H2.out).cells3.2.1, (XPM.out.step H2.out).cells3.2.2.1, (XPS.out.step H2.out).cells3.1, (XPS.out.step H2.out).cells3.2.1, (XPS.out.step H2.out).cells3.2.2.1⟩
        refine hK.out _ _ hS' (fun _ => ?_)
        clear hK K hS
        have hS := hS'
        clear hS'
        (try simp only [Act.put, List.setIfInBounds_toArray, List.set_cons_zero, List.set_cons_succ])
        refine wpAnyH_take (i := 4) (v := ?_) (by simp only [List.getElem?_toArray, List.getElem?_cons_succ, List.getElem?_cons_zero]; rfl) (by kernel_rfl) (by kernel_rfl) (by kernel_rfl) (fun _ _ _ h => h) (Or.inl ⟨by rfl, ?_⟩) hS ?_
        rotate_left
        · intro w' hSw; (try dsimp only at hSw); go_split_ands; go_simp; (try with_reducible rfl)
        (try simp only [Act.put, List.setIfInBounds_toArray, List.set_cons_zero, List.set_cons_succ])
        refine wpAnyH_ready (rs := [5]) (by kernel_rfl) (by simp) ?_
        refine AllReadyH.cons (by simp only [List.getElem?_toArray, List.getElem?_cons_succ, List.getElem?_cons_zero]; rfl) (fun K hK => ?_) ?_
        · skip
          go_simp
          refine named_alloc ?_
          intro Wa5 hbk hb hsz
          have hsz2 := hid hsz
          replace RW := hid (RW.out.step hb); replace HO := hid (HO.out.step hb); replace H2 := hid (below_then H2.out hb)
          have PP := hid hbk
          clear hb hbk hsz
          have hS' : (fun W' : World => W'.cell? ⟨w.heap.size, 0, none⟩ = some (.slice A n c) ∧ W'.cell? ⟨w.heap.size, 1, none⟩ = some (.slice B k d) ∧ W'.cell? ⟨w.heap.size, 2, none⟩ = some (.bool f) ∧ W'.cell? ⟨w.heap.size + 1, 0, none⟩ = some (.int .i64 a) ∧ W'.cell? ⟨w.heap.size + 1, 1, none⟩ = some (.int .i64 p) ∧ W'.cell? ⟨w.heap.size + 1, 2, none⟩ = some (.int .u64 t)) _ := ⟨(XPM.out.step H2.out).cells3.1, (XPM.out.step H2.out).cells3.2.1, (XPM.out.step H2.out).cells3.2.2.1, (XPS.out.step H2.out).cells3.1, (XPS.out.step H2.out).cells3.2.1, (XPS.out.step H2.out).cells3.2.2.1⟩
          refine hK.out _ _ hS' (fun _ => ?_)
          clear hK K hS
          have hS := hS'
          clear hS'
          (try simp only [Act.put, List.setIfInBounds_toArray, List.set_cons_zero, List.set_cons_succ])
          refine wpAnyH_take (i := 6) (v := ?_) (by simp only [List.getElem?_toArray, List.getElem?_cons_succ, List.getElem?_cons_zero]; rfl) (by kernel_rfl) (by kernel_rfl) (by kernel_rfl) (fun _ _ _ h => h) (Or.inl ⟨by rfl, ?_⟩) hS ?_
          rotate_left
          · intro w' hSw; (try dsimp only at hSw); go_split_ands; go_simp; (try with_reducible rfl)
          (try simp only [Act.put, List.setIfInBounds_toArray, List.set_cons_zero, List.set_cons_succ])
          refine wpAnyH_done (by kernel_rfl) ?_ _
          refine NoPanic.normal ?_
          clear hS
          go_wp2_with fail
          go_meet
          exact ⟨_, _, rfl, by have := hszd.out; have := hsz0.out; have := hsz1.out; have := hsz2.out; omega, PP.out.lt, by have := hszd.out; have := hsz0.out; have := hsz1.out; have := hsz2.out; omega, by have := hszd.out; have := hsz0.out; have := hsz1.out; have := hsz2.out; omega, ⟨⟨_, _, _, _, _, _, PP.out, HO.out.mono (by have := hszd.out; have := hsz0.out; have := hsz1.out; have := hsz2.out; omega)⟩, Om.oneS RW.out (by have := hszd.out; have := hsz0.out; have := hsz1.out; have := hsz2.out; omega), H2.out.size⟩, H2.out⟩
        exact AllReadyH.nil
      exact AllReadyH.nil
    exact AllReadyH.nil
  case rest =>
    obtain ⟨P, gr, rfl, hP, hPl, hgr, hgp, hpl, hb⟩ := hcut
    rename World => W4
    replace PR := hid (PR.out.step hb); replace PQ := hid (PQ.out.step hb); replace PS := hid (PS.out.step hb); replace HB := hid (below_then HB.out hb)
    have HPL := hid hpl
    have hsz4 := hid hb.size
    clear hb hpl XM XPM XPS H2 HM PM
    have HGR := hid hgr
    clear hgr
    by_cases h3 : p = 3
    · skip
      subst h3
      have HE2 := hid (show spStepF (ws, ls, f) (a, 3, t) = (0, (ws, ls, f), (a, 3, t)) from HE.out.trans ((if_neg (not_not_intro HG.out)).trans ((if_neg (not_not_intro HS.out)).trans (if_pos rfl))))
      obtain ⟨y00, y01, y02, yf0⟩ := PS.out.cells3
      go_upto_region 11 with fail
      clear y00 y01 y02 yf0
      obtain ⟨⟨A5, n5, c5, B5, k5, d5, hpb, hpm⟩, hrw, _⟩ := HPL.out
      obtain ⟨g5, hL5, hg5, hrb⟩ := Om.one_blk hrw
      obtain rfl : gr = g5 := by simpa using hL5
      have PP := hid hpb; have PO := hid hpm; have RW := hid hrb
      clear hpb hpm hrw hL5 hrb HPL
      go_upto_region 11 with fail
      have bx := (Below.refl W4.heap.size W4).drew
      replace PR := hid (PR.out.step bx); replace PQ := hid (PQ.out.step bx); replace PP := hid (PP.out.step bx); replace RW := hid (RW.out.step bx); replace PO := hid (PO.out.step bx); replace HB := hid (below_then HB.out bx)
      clear bx
      have hszd := hid (show W4.drew.heap.size = W4.heap.size from rfl)
      refine wp_region_noPanic ?_
      refine wp_region_held_drew (S := (fun W' : World => W'.cell? ⟨P, 0, none⟩ = some (.slice A5 n5 c5) ∧ W'.cell? ⟨P, 1, none⟩ = some (.slice B5 k5 d5) ∧ W'.cell? ⟨P, 2, none⟩ = some (.bool f) ∧ W'.cell? ⟨P, 3, none⟩ = some (.slice (some ⟨gr, 0, none⟩) 1 1) ∧ W'.cell? ⟨gr, 0, none⟩ = some (.int .i64 a) ∧ W'.cell? ⟨gr, 1, none⟩ = some (.int .i64 3) ∧ W'.cell? ⟨gr, 2, none⟩ = some (.int .u64 t))) (by kernel_rfl) ⟨PP.out.cells4.1, PP.out.cells4.2.1, PP.out.cells4.2.2.1, PP.out.cells4.2.2.2.1, RW.out.cells3.1, RW.out.cells3.2.1, RW.out.cells3.2.2.1⟩ (fun hS => ?_)
      generalize W4.drew = Wd at *
      refine wpAnyH_take (i := 0) (v := ?_) (by simp only [List.getElem?_toArray, List.getElem?_cons_succ, List.getElem?_cons_zero]; rfl) (by kernel_rfl) (by kernel_rfl) (by kernel_rfl) (fun _ _ _ h => h) (Or.inl ⟨by rfl, ?_⟩) hS ?_
      rotate_left
      · intro w' hSw; (try dsimp only at hSw); go_split_ands; go_simp; (try with_reducible rfl)
      (try simp only [Act.put, List.setIfInBounds_toArray, List.set_cons_zero, List.set_cons_succ])
      refine wpAnyH_take (i := 1) (v := ?_) (by simp only [List.getElem?_toArray, List.getElem?_cons_succ, List.getElem?_cons_zero]; rfl) (by kernel_rfl) (by kernel_rfl) (by kernel_rfl) (fun _ _ _ h => h) (Or.inl ⟨by rfl, ?_⟩) hS ?_
      rotate_left
      · intro w' hSw; (try dsimp only at hSw); go_split_ands; go_simp; (try with_reducible rfl)
      (try simp only [Act.put, List.setIfInBounds_toArray, List.set_cons_zero, List.set_cons_succ])
      refine wpAnyH_take (i := 2) (v := ?_) (by simp only [List.getElem?_toArray, List.getElem?_cons_succ, List.getElem?_cons_zero]; rfl) (by kernel_rfl) (by kernel_rfl) (by kernel_rfl) (fun _ _ _ h => h) (Or.inl ⟨by rfl, ?_⟩) hS ?_
      rotate_left
      · intro w' hSw; (try dsimp only at hSw); go_split_ands; go_simp; (try with_reducible rfl)
      (try simp only [Act.put, List.setIfInBounds_toArray, List.set_cons_zero, List.set_cons_succ])
      refine wpAnyH_take (i := 3) (v := ?_) (by simp only [List.getElem?_toArray, List.getElem?_cons_succ, List.getElem?_cons_zero]; rfl) (by kernel_rfl) (by kernel_rfl) (by kernel_rfl) (fun _ _ _ h => h) (Or.inl ⟨by rfl, ?_⟩) hS ?_
      rotate_left
      · intro w' hSw; (try dsimp only at hSw); go_split_ands; go_simp; (try with_reducible rfl)
      (try simp only [Act.put, List.setIfInBounds_toArray, List.set_cons_zero, List.set_cons_succ])
      refine wpAnyH_take (i := 4) (v := ?_) (by simp only [List.getElem?_toArray, List.getElem?_cons_succ, List.getElem?_cons_zero]; rfl) (by kernel_rfl) (by kernel_rfl) (by kernel_rfl) (fun _ _ _ h => h) (Or.inl ⟨by rfl, ?_⟩) hS ?_
      rotate_left
      · intro w' hSw; (try dsimp only at hSw); go_split_ands; go_simp; (try with_reducible rfl)
      (try simp only [Act.put, List.setIfInBounds_toArray, List.set_cons_zero, List.set_cons_succ])
      refine wpAnyH_take (i := 5) (v := ?_) (by simp only [List.getElem?_toArray, List.getElem?_cons_succ, List.getElem?_cons_zero]; rfl) (by kernel_rfl) (by kernel_rfl) (by kernel_rfl) (fun _ _ _ h => h) (Or.inl ⟨by rfl, ?_⟩) hS ?_
      rotate_left
      · intro w' hSw; (try dsimp only at hSw); go_split_ands; go_simp; (try with_reducible rfl)
      (try simp only [Act.put, List.setIfInBounds_toArray, List.set_cons_zero, List.set_cons_succ])
      refine wpAnyH_take (i := 6) (v := ?_) (by simp only [List.getElem?_toArray, List.getElem?_cons_succ, List.getElem?_cons_zero]; rfl) (by kernel_rfl) (by kernel_rfl) (by kernel_rfl) (fun _ _ _ h => h) (Or.inl ⟨by rfl, ?_⟩) hS ?_
      rotate_left
      · intro w' hSw; (try dsimp only at hSw); go_split_ands; go_simp; (try with_reducible rfl)
      (try simp only [Act.put, List.setIfInBounds_toArray, List.set_cons_zero, List.set_cons_succ])
      refine wpAnyH_take (i := 7) (v := ?_) (by simp only [List.getElem?_toArray, List.getElem?_cons_succ, List.getElem?_cons_zero]; rfl) (by kernel_rfl) (by kernel_rfl) (by kernel_rfl) (fun _ _ _ h => h) (Or.inl ⟨by rfl, ?_⟩) hS ?_
      rotate_left
      · intro w' hSw; (try dsimp only at hSw); go_split_ands; go_simp; (try with_reducible rfl)
      (try simp only [Act.put, List.setIfInBounds_toArray, List.set_cons_zero, List.set_cons_succ])
      refine wpAnyH_take (i := 8) (v := ?_) (by simp only [List.getElem?_toArray, List.getElem?_cons_succ, List.getElem?_cons_zero]; rfl) (by kernel_rfl) (by kernel_rfl) (by kernel_rfl) (fun _ _ _ h => h) (Or.inl ⟨by rfl, ?_⟩) hS ?_
      rotate_left
      · intro w' hSw; (try dsimp only at hSw); go_split_ands; go_simp; (try with_reducible rfl)
      (try simp only [Act.put, List.setIfInBounds_toArray, List.set_cons_zero, List.set_cons_succ])
      refine wpAnyH_take (i := 9) (v := ?_) (by simp only [List.getElem?_toArray, List.getElem?_cons_succ, List.getElem?_cons_zero]; rfl) (by kernel_rfl) (by kernel_rfl) (by kernel_rfl) (fun _ _ _ h => h) (Or.inl ⟨by rfl, ?_⟩) hS ?_
      rotate_left
      · intro w' hSw; (try dsimp only at hSw); go_split_ands; go_simp; (try with_reducible rfl)
      (try simp only [Act.put, List.setIfInBounds_toArray, List.set_cons_zero, List.set_cons_succ])
      refine wpAnyH_ready (rs := [10]) (by kernel_rfl) (by simp) ?_
      refine AllReadyH.cons (by simp only [List.getElem?_toArray, List.getElem?_cons_succ, List.getElem?_cons_zero]; rfl) (fun K hK => ?_) ?_
      · skip
        obtain ⟨y00, y01, y02, yf0⟩ := PR.out.cells3
        go_simp
        clear y00 y01 y02 yf0
        refine named_store3 PR.out ?_
        intro Ws10 hbk hgr hsz
        have hsz0 := hid hsz
        clear hsz
        replace PQ := hid (PQ.out.grown hgr (by simp))
        replace PP := hid (PP.out.grown hgr (by simp; have := hsz.out; omega))
        replace RW := hid (RW.out.grown hgr (by simp; have := hsz.out; omega))
        replace PO := hid (mown_kept PO.out PR.out tne1 tne2 hgr)
        replace HB := hid (HB.out.grown hgr HB.out.size (fun r e => by cases e; omega))
        replace PR := hid hbk
        clear hbk hgr
        have hS' : (fun W' : World => W'.cell? ⟨P, 0, none⟩ = some (.slice A5 n5 c5) ∧ W'.cell? ⟨P, 1, none⟩ = some (.slice B5 k5 d5) ∧ W'.cell? ⟨P, 2, none⟩ = some (.bool f) ∧ W'.cell? ⟨P, 3, none⟩ = some (.slice (some ⟨gr, 0, none⟩) 1 1) ∧ W'.cell? ⟨gr, 0, none⟩ = some (.int .i64 a) ∧ W'.cell? ⟨gr, 1, none⟩ = some (.int .i64 3) ∧ W'.cell? ⟨gr, 2, none⟩ = some (.int .u64 t)) _ := ⟨PP.out.cells4.1, PP.out.cells4.2.1, PP.out.cells4.2.2.1, PP.out.cells4.2.2.2.1, RW.out.cells3.1, RW.out.cells3.2.1, RW.out.cells3.2.2.1⟩
        refine hK.out _ _ hS' (fun _ => ?_)
        clear hK K hS
        have hS := hS'
        clear hS'
        (try simp only [Act.put, List.setIfInBounds_toArray, List.set_cons_zero, List.set_cons_succ])
        refine wpAnyH_ready (rs := [11]) (by kernel_rfl) (by simp) ?_
        refine AllReadyH.cons (by simp only [List.getElem?_toArray, List.getElem?_cons_succ, List.getElem?_cons_zero]; rfl) (fun K hK => ?_) ?_
        · skip
          obtain ⟨y00, y01, y02, yf0⟩ := PQ.out.cells3
          go_simp
          clear y00 y01 y02 yf0
          refine named_store3 PQ.out ?_
          intro Ws11 hbk hgr hsz
          have hsz1 := hid hsz
          clear hsz
          replace PR := hid (PR.out.grown hgr (by simp))
          replace PP := hid (PP.out.grown hgr (by simp; have := hsz.out; omega))
          replace RW := hid (RW.out.grown hgr (by simp; have := hsz.out; omega))
          replace PO := hid (mown_kept PO.out PQ.out tne8 tne9 hgr)
          replace HB := hid (HB.out.grown hgr HB.out.size (fun r e => by cases e; omega))
          replace PQ := hid hbk
          clear hbk hgr
          have hS' : (fun W' : World => W'.cell? ⟨P, 0, none⟩ = some (.slice A5 n5 c5) ∧ W'.cell? ⟨P, 1, none⟩ = some (.slice B5 k5 d5) ∧ W'.cell? ⟨P, 2, none⟩ = some (.bool f) ∧ W'.cell? ⟨P, 3, none⟩ = some (.slice (some ⟨gr, 0, none⟩) 1 1) ∧ W'.cell? ⟨gr, 0, none⟩ = some (.int .i64 a) ∧ W'.cell? ⟨gr, 1, none⟩ = some (.int .i64 3) ∧ W'.cell? ⟨gr, 2, none⟩ = some (.int .u64 t)) _ := ⟨PP.out.cells4.1, PP.out.cells4.2.1, PP.out.cells4.2.2.1, PP.out.cells4.2.2.2.1, RW.out.cells3.1, RW.out.cells3.2.1, RW.out.cells3.2.2.1⟩
          refine hK.out _ _ hS' (fun _ => ?_)
          clear hK K hS
          have hS := hS'
          clear hS'
          (try simp only [Act.put, List.setIfInBounds_toArray, List.set_cons_zero, List.set_cons_succ])
          refine wpAnyH_take (i := 12) (v := ?_) (by simp only [List.getElem?_toArray, List.getElem?_cons_succ, List.getElem?_cons_zero]; rfl) (by kernel_rfl) (by kernel_rfl) (by kernel_rfl) (fun _ _ _ h => h) (Or.inl ⟨by rfl, ?_⟩) hS ?_
          rotate_left
          · intro w' hSw; (try dsimp only at hSw); go_split_ands; go_simp; (try with_reducible rfl)
          (try simp only [Act.put, List.setIfInBounds_toArray, List.set_cons_zero, List.set_cons_succ])
          refine wpAnyH_done (by kernel_rfl) ?_ _
          refine NoPanic.normal ?_
          clear hS
          go_wp2
          obtain ⟨q0, q1, q2, qf⟩ := PR.out.cells3; obtain ⟨v0, v1, v2, vf⟩ := PQ.out.cells3
          refine bodyPost_ret (v := .tuple #[mv A5 n5 c5 B5 k5 d5 f, sv a 3 t, .int .i64 0]) (by simp [results, Try.results29, go_sem, q0, q1, q2, v0, v1, v2]) rfl ?_
          rw [HE2.out]
          exact ⟨A5, n5, c5, B5, k5, d5, rfl, PO.out.mono (by have := hsz.out; omega), HB.out⟩
        exact AllReadyH.nil
      exact AllReadyH.nil
    have h3b : (p != 3) = true := by simpa using h3
    have HSTEP := hid (pstep_any P w2.heap.size (ws, ls, f) (some ⟨gr, 0, none⟩) 1 1 w2.heap.size [(a, p, t)] 0 W4 HPL.out (by omega) (by omega) HG.out HS.out)
    have HE1 := hid (show spStepF (ws, ls, f) (a, p, t) = (0, (pstepF (ws, ls, f) [(a, p, t)] 0).1, (pstepF (ws, ls, f) [(a, p, t)] 0).2[0]?.getD (0, 0, 0)) from HE.out.trans ((if_neg (not_not_intro HG.out)).trans ((if_neg (not_not_intro HS.out)).trans (if_neg h3))))
    have H3 := hid h3
    clear h3
    obtain ⟨y00, y01, y02, yf0⟩ := PS.out.cells3
    go_wp2_with fail
    clear y00 y01 y02 yf0
    refine HSTEP.out.mono ?_
    rintro e W5 ⟨rfl, hpl, hg⟩
    obtain ⟨⟨wz, lz, fz⟩, hmz⟩ : ∃ x, x = (pstepF (ws, ls, f) [(a, p, t)] 0).1 := ⟨_, rfl⟩
    obtain ⟨⟨az, pz, tz⟩, hsz'⟩ : ∃ x, x = (pstepF (ws, ls, f) [(a, p, t)] 0).2[0]?.getD (0, 0, 0) := ⟨_, rfl⟩
    rw [pstepF_one, ← hmz, ← hsz'] at hpl
    have HE2 := HE1
    rw [← hmz, ← hsz'] at HE2
    clear hmz hsz' HSTEP HPL HE1
    have hnp : ∀ i, i < w2.heap.size → ¬ plp P (some ⟨gr, 0, none⟩) i := by
      have := HGR.out
      rintro i hi (e | ⟨b, hb, e⟩)
      · omega
      · cases hb; have h9 : gr = i := e; omega
    replace PR := hid (show Blk W5 _ _ _ from (hg.block _ PR.out.lt (hnp _ (by have := hsz.out; omega))).trans PR.out)
    replace PQ := hid (show Blk W5 _ _ _ from (hg.block _ PQ.out.lt (hnp _ (by have := hsz.out; omega))).trans PQ.out)
    replace PS := hid (show Blk W5 _ _ _ from (hg.block _ PS.out.lt (hnp _ (by have := hsz.out; omega))).trans PS.out)
    replace HB := hid (GrownP.below HB.out hg (fun i hi => by
      have := HGR.out; have := hsz.out
      rcases hi with e | ⟨b, hb, e⟩
      · omega
      · cases hb; have h9 : gr = i := e; omega) HB.out.size)
    have HPL := hid hpl
    clear hpl hg hnp
    obtain ⟨⟨A5, n5, c5, B5, k5, d5, hpb, hpm⟩, hrw, _⟩ := HPL.out
    obtain ⟨g5, hL5, hg5, hrb⟩ := Om.one_blk hrw
    obtain rfl : gr = g5 := by simpa using hL5
    have PP := hid hpb; have PO := hid hpm; have RW := hid hrb
    clear hpb hpm hrw hL5 hrb HPL
    go_upto_region 11 with fail
    have bx := (Below.refl W5.heap.size W5).drew
    replace PR := hid (PR.out.step bx); replace PQ := hid (PQ.out.step bx); replace PP := hid (PP.out.step bx); replace RW := hid (RW.out.step bx); replace PO := hid (PO.out.step bx); replace HB := hid (below_then HB.out bx)
    clear bx
    have hszd := hid (show W5.drew.heap.size = W5.heap.size from rfl)
    refine wp_region_noPanic ?_
    refine wp_region_held_drew (S := (fun W' : World => W'.cell? ⟨P, 0, none⟩ = some (.slice A5 n5 c5) ∧ W'.cell? ⟨P, 1, none⟩ = some (.slice B5 k5 d5) ∧ W'.cell? ⟨P, 2, none⟩ = some (.bool fz) ∧ W'.cell? ⟨P, 3, none⟩ = some (.slice (some ⟨gr, 0, none⟩) 1 1) ∧ W'.cell? ⟨gr, 0, none⟩ = some (.int .i64 az) ∧ W'.cell? ⟨gr, 1, none⟩ = some (.int .i64 pz) ∧ W'.cell? ⟨gr, 2, none⟩ = some (.int .u64 tz))) (by kernel_rfl) ⟨PP.out.cells4.1, PP.out.cells4.2.1, PP.out.cells4.2.2.1, PP.out.cells4.2.2.2.1, RW.out.cells3.1, RW.out.cells3.2.1, RW.out.cells3.2.2.1⟩ (fun hS => ?_)
    generalize W5.drew = Wd at *
    refine wpAnyH_take (i := 0) (v := ?_) (by simp only [List.getElem?_toArray, List.getElem?_cons_succ, List.getElem?_cons_zero]; rfl) (by kernel_rfl) (by kernel_rfl) (by kernel_rfl) (fun _ _ _ h => h) (Or.inl ⟨by rfl, ?_⟩) hS ?_
    rotate_left
    · intro w' hSw; (try dsimp only at hSw); go_split_ands; go_simp; (try with_reducible rfl)
    (try simp only [Act.put, List.setIfInBounds_toArray, List.set_cons_zero, List.set_cons_succ])
    refine wpAnyH_take (i := 1) (v := ?_) (by simp only [List.getElem?_toArray, List.getElem?_cons_succ, List.getElem?_cons_zero]; rfl) (by kernel_rfl) (by kernel_rfl) (by kernel_rfl) (fun _ _ _ h => h) (Or.inl ⟨by rfl, ?_⟩) hS ?_
    rotate_left
    · intro w' hSw; (try dsimp only at hSw); go_split_ands; go_simp; (try with_reducible rfl)
    (try simp only [Act.put, List.setIfInBounds_toArray, List.set_cons_zero, List.set_cons_succ])
    refine wpAnyH_take (i := 2) (v := ?_) (by simp only [List.getElem?_toArray, List.getElem?_cons_succ, List.getElem?_cons_zero]; rfl) (by kernel_rfl) (by kernel_rfl) (by kernel_rfl) (fun _ _ _ h => h) (Or.inl ⟨by rfl, ?_⟩) hS ?_
    rotate_left
    · intro w' hSw; (try dsimp only at hSw); go_split_ands; go_simp; (try with_reducible rfl)
    (try simp only [Act.put, List.setIfInBounds_toArray, List.set_cons_zero, List.set_cons_succ])
    refine wpAnyH_take (i := 3) (v := ?_) (by simp only [List.getElem?_toArray, List.getElem?_cons_succ, List.getElem?_cons_zero]; rfl) (by kernel_rfl) (by kernel_rfl) (by kernel_rfl) (fun _ _ _ h => h) (Or.inl ⟨by rfl, ?_⟩) hS ?_
    rotate_left
    · intro w' hSw; (try dsimp only at hSw); go_split_ands; go_simp; (try with_reducible rfl)
    (try simp only [Act.put, List.setIfInBounds_toArray, List.set_cons_zero, List.set_cons_succ])
    refine wpAnyH_take (i := 4) (v := ?_) (by simp only [List.getElem?_toArray, List.getElem?_cons_succ, List.getElem?_cons_zero]; rfl) (by kernel_rfl) (by kernel_rfl) (by kernel_rfl) (fun _ _ _ h => h) (Or.inl ⟨by rfl, ?_⟩) hS ?_
    rotate_left
    · intro w' hSw; (try dsimp only at hSw); go_split_ands; go_simp; (try with_reducible rfl)
    (try simp only [Act.put, List.setIfInBounds_toArray, List.set_cons_zero, List.set_cons_succ])
    refine wpAnyH_take (i := 5) (v := ?_) (by simp only [List.getElem?_toArray, List.getElem?_cons_succ, List.getElem?_cons_zero]; rfl) (by kernel_rfl) (by kernel_rfl) (by kernel_rfl) (fun _ _ _ h => h) (Or.inl ⟨by rfl, ?_⟩) hS ?_
    rotate_left
    · intro w' hSw; (try dsimp only at hSw); go_split_ands; go_simp; (try with_reducible rfl)
    (try simp only [Act.put, List.setIfInBounds_toArray, List.set_cons_zero, List.set_cons_succ])
    refine wpAnyH_take (i := 6) (v := ?_) (by simp only [List.getElem?_toArray, List.getElem?_cons_succ, List.getElem?_cons_zero]; rfl) (by kernel_rfl) (by kernel_rfl) (by kernel_rfl) (fun _ _ _ h => h) (Or.inl ⟨by rfl, ?_⟩) hS ?_
    rotate_left
    · intro w' hSw; (try dsimp only at hSw); go_split_ands; go_simp; (try with_reducible rfl)
    (try simp only [Act.put, List.setIfInBounds_toArray, List.set_cons_zero, List.set_cons_succ])
    refine wpAnyH_take (i := 7) (v := ?_) (by simp only [List.getElem?_toArray, List.getElem?_cons_succ, List.getElem?_cons_zero]; rfl) (by kernel_rfl) (by kernel_rfl) (by kernel_rfl) (fun _ _ _ h => h) (Or.inl ⟨by rfl, ?_⟩) hS ?_
    rotate_left
    · intro w' hSw; (try dsimp only at hSw); go_split_ands; go_simp; (try with_reducible rfl)
    (try simp only [Act.put, List.setIfInBounds_toArray, List.set_cons_zero, List.set_cons_succ])
    refine wpAnyH_take (i := 8) (v := ?_) (by simp only [List.getElem?_toArray, List.getElem?_cons_succ, List.getElem?_cons_zero]; rfl) (by kernel_rfl) (by kernel_rfl) (by kernel_rfl) (fun _ _ _ h => h) (Or.inl ⟨by rfl, ?_⟩) hS ?_
    rotate_left
    · intro w' hSw; (try dsimp only at hSw); go_split_ands; go_simp; (try with_reducible rfl)
    (try simp only [Act.put, List.setIfInBounds_toArray, List.set_cons_zero, List.set_cons_succ])
    refine wpAnyH_take (i := 9) (v := ?_) (by simp only [List.getElem?_toArray, List.getElem?_cons_succ, List.getElem?_cons_zero]; rfl) (by kernel_rfl) (by kernel_rfl) (by kernel_rfl) (fun _ _ _ h => h) (Or.inl ⟨by rfl, ?_⟩) hS ?_
    rotate_left
    · intro w' hSw; (try dsimp only at hSw); go_split_ands; go_simp; (try with_reducible rfl)
    (try simp only [Act.put, List.setIfInBounds_toArray, List.set_cons_zero, List.set_cons_succ])
    refine wpAnyH_ready (rs := [10]) (by kernel_rfl) (by simp) ?_
    refine AllReadyH.cons (by simp only [List.getElem?_toArray, List.getElem?_cons_succ, List.getElem?_cons_zero]; rfl) (fun K hK => ?_) ?_
    · skip
      obtain ⟨y00, y01, y02, yf0⟩ := PR.out.cells3
      go_simp
      clear y00 y01 y02 yf0
      refine named_store3 PR.out ?_
      intro Ws10 hbk hgr hsz
      have hsz0 := hid hsz
      clear hsz
      replace PQ := hid (PQ.out.grown hgr (by simp))
      replace PP := hid (PP.out.grown hgr (by simp; have := hsz.out; omega))
      replace RW := hid (RW.out.grown hgr (by simp; have := hsz.out; omega))
      replace PO := hid (mown_kept PO.out PR.out tne1 tne2 hgr)
      replace HB := hid (HB.out.grown hgr HB.out.size (fun r e => by cases e; omega))
      replace PR := hid hbk
      clear hbk hgr
      have hS' : (fun W' : World => W'.cell? ⟨P, 0, none⟩ = some (.slice A5 n5 c5) ∧ W'.cell? ⟨P, 1, none⟩ = some (.slice B5 k5 d5) ∧ W'.cell? ⟨P, 2, none⟩ = some (.bool fz) ∧ W'.cell? ⟨P, 3, none⟩ = some (.slice (some ⟨gr, 0, none⟩) 1 1) ∧ W'.cell? ⟨gr, 0, none⟩ = some (.int .i64 az) ∧ W'.cell? ⟨gr, 1, none⟩ = some (.int .i64 pz) ∧ W'.cell? ⟨gr, 2, none⟩ = some (.int .u64 tz)) _ := ⟨PP.out.cells4.1, PP.out.cells4.2.1, PP.out.cells4.2.2.1, PP.out.cells4.2.2.2.1, RW.out.cells3.1, RW.out.cells3.2.1, RW.out.cells3.2.2.1⟩
      refine hK.out _ _ hS' (fun _ => ?_)
      clear hK K hS
      have hS := hS'
      clear hS'
      (try simp only [Act.put, List.setIfInBounds_toArray, List.set_cons_zero, List.set_cons_succ])
      refine wpAnyH_ready (rs := [11]) (by kernel_rfl) (by simp) ?_
      refine AllReadyH.cons (by simp only [List.getElem?_toArray, List.getElem?_cons_succ, List.getElem?_cons_zero]; rfl) (fun K hK => ?_) ?_
      · skip
        obtain ⟨y00, y01, y02, yf0⟩ := PQ.out.cells3
        go_simp
        clear y00 y01 y02 yf0
        refine named_store3 PQ.out ?_
        intro Ws11 hbk hgr hsz
        have hsz1 := hid hsz
        clear hsz
        replace PR := hid (PR.out.grown hgr (by simp))
        replace PP := hid (PP.out.grown hgr (by simp; have := hsz.out; omega))
        replace RW := hid (RW.out.grown hgr (by simp; have := hsz.out; omega))
        replace PO := hid (mown_kept PO.out PQ.out tne8 tne9 hgr)
        replace HB := hid (HB.out.grown hgr HB.out.size (fun r e => by cases e; omega))
        replace PQ := hid hbk
        clear hbk hgr
        have hS' : (fun W' : World => W'.cell? ⟨P, 0, none⟩ = some (.slice A5 n5 c5) ∧ W'.cell? ⟨P, 1, none⟩ = some (.slice B5 k5 d5) ∧ W'.cell? ⟨P, 2, none⟩ = some (.bool fz) ∧ W'.cell? ⟨P, 3, none⟩ = some (.slice (some ⟨gr, 0, none⟩) 1 1) ∧ W'.cell? ⟨gr, 0, none⟩ = some (.int .i64 az) ∧ W'.cell? ⟨gr, 1, none⟩ = some (.int .i64 pz) ∧ W'.cell? ⟨gr, 2, none⟩ = some (.int .u64 tz)) _ := ⟨PP.out.cells4.1, PP.out.cells4.2.1, PP.out.cells4.2.2.1, PP.out.cells4.2.2.2.1, RW.out.cells3.1, RW.out.cells3.2.1, RW.out.cells3.2.2.1⟩
        refine hK.out _ _ hS' (fun _ => ?_)
        clear hK K hS
        have hS := hS'
        clear hS'
        (try simp only [Act.put, List.setIfInBounds_toArray, List.set_cons_zero, List.set_cons_succ])
        refine wpAnyH_take (i := 12) (v := ?_) (by simp only [List.getElem?_toArray, List.getElem?_cons_succ, List.getElem?_cons_zero]; rfl) (by kernel_rfl) (by kernel_rfl) (by kernel_rfl) (fun _ _ _ h => h) (Or.inl ⟨by rfl, ?_⟩) hS ?_
        rotate_left
        · intro w' hSw; (try dsimp only at hSw); go_split_ands; go_simp; (try with_reducible rfl)
        (try simp only [Act.put, List.setIfInBounds_toArray, List.set_cons_zero, List.set_cons_succ])
        refine wpAnyH_done (by kernel_rfl) ?_ _
        refine NoPanic.normal ?_
        clear hS
        go_wp2
        obtain ⟨q0, q1, q2, qf⟩ := PR.out.cells3; obtain ⟨v0, v1, v2, vf⟩ := PQ.out.cells3
        refine bodyPost_ret (v := .tuple #[mv A5 n5 c5 B5 k5 d5 fz, sv az pz tz, .int .i64 0]) (by simp [results, Try.results29, go_sem, q0, q1, q2, v0, v1, v2]) rfl ?_
        rw [HE2.out]
        exact ⟨A5, n5, c5, B5, k5, d5, rfl, PO.out.mono (by have := hsz.out; omega), HB.out⟩
      exact AllReadyH.nil
    exact AllReadyH.nil
end Go.Proofs.Ytaeanmkbongfcaa
