/- afterglowlaw05.SpinSteps returns true at every memory, place, and one who wants a lock, and turns nothing old. No condition but the sizes of memory. -/
import Derived.Test.YtaeanmkbongfcaaSp18
namespace Go.Proofs.Ytaeanmkbongfcaa
open Go.RowKit
theorem spStepF_ref {m : MSt} {s : Spn} (hg : MGood m.1 m.2.1) (hs : SpGood s) : spStepF m s = (0, rspStep m s) := by
  unfold spStepF
  rw [if_neg (not_not_intro hg), if_neg (not_not_intro hs)]
  obtain ⟨a, p, t⟩ := s
  by_cases h3 : p = 3
  · subst h3
    rw [if_pos rfl]
    unfold rspStep
    rw [if_neg (show ¬ spHas 3 by decide)]
  · rw [if_neg h3, pstepF_ref m [(a, p, t)] 0 (by simp)]
    simp only [List.getElem?_cons_zero, Option.getD_some, List.set_cons_zero]
    rw [show spUp (a, p, t) = (a, p, t) from if_neg h3]
/-- the reference's answer, boxed -/
structure StMid (w W : World) (g15 g16 : Nat) (A : Option Addr) (n c : Nat) (B : Option Addr) (d : Nat) (m : MSt) (s : Spn) : Prop where
  b6 : Blk W g15 25 (mcs A n c B n d m.2.2)
  b7 : Blk W g16 38 (scs s.1 s.2.1 s.2.2)
  mem : Mem W A n c B n d m.1 m.2.1
  be : Below w.heap.size w W
/-- what the last loop keeps -/
structure LpI (W6 W : World) (A : Option Addr) (n c : Nat) (B : Option Addr) (k d : Nat) (f : Bool) (g : Nat) : Prop where
  own : ∃ xs, Ow u64v W W6.heap.size 36 A n c xs
  pn : Blk W g 25 (mcs A n c B k d f)
  be : Below W6.heap.size W6 W
theorem farM_own {W W' : World} {lo n c d m : Nat} {A B : Option Addr} {ws : List Int} {ls : List Bool} {g : Nat} {t : TypeId} {cs : Array Value} (oa : Ow u64v W lo 36 A n c ws) (ob : Ow blv W lo 4 B m d ls) (_ : Blk W' g t cs) (h : g < lo) : FarM n A B g :=
  fun _ => ⟨fun a ha => by have := (oa.blk a ha).1; omega, fun a ha => by have := (ob.blk a ha).1; omega⟩
set_option maxRecDepth 100000 in
set_option maxHeartbeats 8000000 in
theorem spsteps_any (A : Option Addr) (n c : Nat) (B : Option Addr) (k d : Nat) (f : Bool) (xs : List Int) (ys : List Bool) (at_ : Int) (a p t : Int) (w : World) (hx : Sl u64v 0 w 0 w.heap.size A n xs) (hy : Sl blv false w 0 w.heap.size B k ys) (hnc : n ≤ c) (hkd : k ≤ d) :
    Calls Try.prog 5 #[mv A n c B k d f, .int .i64 at_, sv a p t] w fun e w' => e = .returned (.bool true) ∧ Below w.heap.size w w' := by
  have HX := hid hx; have HY := hid hy; have HB := hid (Below.refl w.heap.size w)
  clear hx hy
  have bx := below_box w (.cells (mcs A n c B k d f) 25)
  replace HX := hid (HX.out.step bx); replace HY := hid (HY.out.step bx); replace HB := hid (below_then HB.out bx)
  clear bx
  have PX := hid (Blk.new w 25 (mcs A n c B k d f))
  have bx := below_box (w.alloc (.cells (mcs A n c B k d f) 25)) (.cells (scs a p t) 38)
  replace HX := hid (HX.out.step bx); replace HY := hid (HY.out.step bx); replace PX := hid (PX.out.step bx); replace HB := hid (below_then HB.out bx)
  clear bx
  have PS := hid (Blk.new2 w 38 (scs a p t) (.cells (mcs A n c B k d f) 25))
  go_enter Try.func5, Try.ntmps5
  go_wp2_with fail
  generalize (w.alloc (.cells (mcs A n c B k d f) 25)).alloc (.cells (scs a p t) 38) = W0 at *
  refine (spwakes_any W0).mono ?_
  rintro e w1 ⟨rfl, hb⟩
  replace HX := hid (HX.out.step hb); replace HY := hid (HY.out.step hb); replace PX := hid (PX.out.step hb); replace PS := hid (PS.out.step hb); replace HB := hid (below_then HB.out hb)
  clear hb
  obtain ⟨y00, y01, y02, yf0⟩ := PX.out.cells3
  go_wp2_with fail
  clear y00 y01 y02 yf0
  refine (lown_r A n c B k d f xs ys w1 HX.out HY.out hnc hkd).mono ?_
  rintro e w2 ⟨A2, n2, c2, B2, k2, d2, rfl, oa, ob, hb, hn2, hk2⟩
  replace HX := hid (HX.out.step hb); replace HY := hid (HY.out.step hb); replace PX := hid (PX.out.step hb); replace PS := hid (PS.out.step hb); replace HB := hid (below_then HB.out hb)
  obtain ⟨ws, hws⟩ : ∃ ws, ws = xs.take 16 := ⟨_, rfl⟩
  obtain ⟨ls, hls⟩ : ∃ ls, ls = ys.take 16 := ⟨_, rfl⟩
  rw [← hws] at oa
  rw [← hls] at ob
  have HWS := hid hws; have HLS := hid hls
  have M2 := hid (Mem.ofOw oa ob (by omega) (by omega))
  clear hb hws hls oa ob
  have bx := below_box w2 (.cells (mcs A2 n2 c2 B2 k2 d2 f) 25)
  replace HX := hid (HX.out.step bx); replace HY := hid (HY.out.step bx); replace PX := hid (PX.out.step bx); replace PS := hid (PS.out.step bx); replace M2 := hid (M2.out.step bx); replace HB := hid (below_then HB.out bx)
  clear bx
  have PM := hid (Blk.new w2 25 (mcs A2 n2 c2 B2 k2 d2 f))
  obtain ⟨y00, y01, y02, yf0⟩ := PM.out.cells3
  clear y00 y01 y02 yf0
  go_upto_region 4 with fail
  generalize w2.alloc (.cells (mcs A2 n2 c2 B2 k2 d2 f) 25) = W3 at *
  obtain ⟨y00, y01, y02, yf0⟩ := PM.out.cells3
  go_wp2_with fail
  clear y00 y01 y02 yf0
  refine (rright_any A2 n2 c2 B2 k2 d2 f ws ls _ M2.out).mono ?_
  rintro e w4 ⟨rfl, hb⟩
  replace HX := hid (HX.out.step hb); replace HY := hid (HY.out.step hb); replace PX := hid (PX.out.step hb); replace PS := hid (PS.out.step hb); replace M2 := hid (M2.out.step hb); replace PM := hid (PM.out.step hb); replace HB := hid (below_then HB.out hb)
  clear hb
  obtain ⟨y00, y01, y02, yf0⟩ := PM.out.cells3
  go_wp2_with fail
  clear y00 y01 y02 yf0
  obtain ⟨⟨lc, ⟨lw, ll, lf⟩⟩, hly⟩ : ∃ x, x = layF (ws, ls, f) at_ := ⟨_, rfl⟩
  have HLY := hid hly
  clear hly
  refine (splay_any A2 n2 c2 B2 k2 d2 f ws ls at_ _ M2.out).mono ?_
  rintro e w5 ⟨A5, n5, c5, B5, k5, d5, rfl, om, hb⟩
  rw [← HLY.out] at om ⊢
  dsimp only at om ⊢
  replace HX := hid (HX.out.step hb); replace HY := hid (HY.out.step hb); replace PX := hid (PX.out.step hb); replace PS := hid (PS.out.step hb); replace M2 := hid (M2.out.step hb); replace PM := hid (PM.out.step hb); replace HB := hid (below_then HB.out hb)
  have M5 := hid om
  clear hb om
  have bx := below_box w5 (.cells (mcs A5 n5 c5 B5 k5 d5 lf) 25)
  replace HX := hid (HX.out.step bx); replace HY := hid (HY.out.step bx); replace PX := hid (PX.out.step bx); replace PS := hid (PS.out.step bx); replace M2 := hid (M2.out.step bx); replace PM := hid (PM.out.step bx); replace M5 := hid (M5.out.step bx); replace HB := hid (below_then HB.out bx)
  clear bx
  have PL := hid (Blk.new w5 25 (mcs A5 n5 c5 B5 k5 d5 lf))
  obtain ⟨y00, y01, y02, yf0⟩ := PM.out.cells3
  obtain ⟨y10, y11, y12, yf1⟩ := PS.out.cells3
  go_upto_region 6 with fail
  clear y00 y01 y02 yf0 y10 y11 y12 yf1
  generalize w5.alloc (.cells (mcs A5 n5 c5 B5 k5 d5 lf) 25) = W6 at *
  obtain ⟨y00, y01, y02, yf0⟩ := PM.out.cells3
  obtain ⟨y10, y11, y12, yf1⟩ := PS.out.cells3
  go_wp2_with fail
  clear y00 y01 y02 yf0 y10 y11 y12 yf1
  obtain ⟨⟨sc, ⟨sw, sl, sf⟩, ⟨sa, sp, st⟩⟩, hst⟩ : ∃ x, x = spStepF (ws, ls, f) (a, p, t) := ⟨_, rfl⟩
  have HST := hid hst
  clear hst
  have XX := HX; have XY := HY; have XPX := PX; have XPM := PM; have XM2 := M2; have XB := HB; have H6 := hid (Below.refl W6.heap.size W6)
  refine (spstep_any A2 n2 c2 B2 k2 d2 f ws ls a p t _ M2.out).mono ?_
  rintro e w7 ⟨A7, n7, c7, B7, k7, d7, rfl, om, hb⟩
  rw [← HST.out] at om ⊢
  dsimp only at om ⊢
  replace HX := hid (HX.out.step hb); replace HY := hid (HY.out.step hb); replace PX := hid (PX.out.step hb); replace PS := hid (PS.out.step hb); replace M2 := hid (M2.out.step hb); replace PM := hid (PM.out.step hb); replace M5 := hid (M5.out.step hb); replace PL := hid (PL.out.step hb); replace HB := hid (below_then HB.out hb); replace H6 := hid (below_then H6.out hb)
  have M7 := hid om
  clear hb om
  have bx := below_box w7 (.cells (mcs A7 n7 c7 B7 k7 d7 sf) 25)
  replace HX := hid (HX.out.step bx); replace HY := hid (HY.out.step bx); replace PX := hid (PX.out.step bx); replace PS := hid (PS.out.step bx); replace M2 := hid (M2.out.step bx); replace PM := hid (PM.out.step bx); replace M5 := hid (M5.out.step bx); replace PL := hid (PL.out.step bx); replace M7 := hid (M7.out.step bx); replace HB := hid (below_then HB.out bx); replace H6 := hid (below_then H6.out bx)
  clear bx
  have PN := hid (Blk.new w7 25 (mcs A7 n7 c7 B7 k7 d7 sf))
  have bx := below_box (w7.alloc (.cells (mcs A7 n7 c7 B7 k7 d7 sf) 25)) (.cells (scs sa sp st) 38)
  replace HX := hid (HX.out.step bx); replace HY := hid (HY.out.step bx); replace PX := hid (PX.out.step bx); replace PS := hid (PS.out.step bx); replace M2 := hid (M2.out.step bx); replace PM := hid (PM.out.step bx); replace M5 := hid (M5.out.step bx); replace PL := hid (PL.out.step bx); replace M7 := hid (M7.out.step bx); replace PN := hid (PN.out.step bx); replace HB := hid (below_then HB.out bx); replace H6 := hid (below_then H6.out bx)
  clear bx
  have PT := hid (Blk.new2 w7 38 (scs sa sp st) (.cells (mcs A7 n7 c7 B7 k7 d7 sf) 25))
  go_upto_block 0 with fail
  have hz8 := hid (show ((w7.alloc (.cells (mcs A7 n7 c7 B7 k7 d7 sf) 25)).alloc (.cells (scs sa sp st) 38)).heap.size = w7.heap.size + 2 by simp)
  generalize (w7.alloc (.cells (mcs A7 n7 c7 B7 k7 d7 sf) 25)).alloc (.cells (scs sa sp st) 38) = W8 at *
  have HEL := hid (show layF (ws, ls, f) at_ = if ¬ MGood ws ls then (120, ([], [], false)) else if ¬ LayOk ls at_ then (2, ([], [], false)) else (0, ((ws.set at_.toNat 0).set (at_.toNat + 1) 0, ls, f)) from rfl)
  have HES := hid (show spStepF (ws, ls, f) (a, p, t) = if ¬ MGood ws ls then (120, ([], [], false), (0, 0, 0)) else if ¬ SpGood (a, p, t) then (150, ([], [], false), (0, 0, 0)) else if p = 3 then (0, (ws, ls, f), (a, p, t)) else (0, (pstepF (ws, ls, f) [(a, p, t)] 0).1, (pstepF (ws, ls, f) [(a, p, t)] 0).2[0]?.getD (0, 0, 0)) from rfl)
  have HS2 := hid (show sameM (ws, ls, f) (ws, ls, f) = true from decide_eq_true ⟨rfl, rfl, rfl⟩)
  by_cases hg : MGood ws ls
  rotate_left
  · rw [show decide (MGood ws ls) = false from decide_eq_false hg]
    as_aux_lemma =>
      have he := HLY.out.trans (HEL.out.trans (if_pos hg))
      simp only [Prod.mk.injEq] at he
      obtain ⟨rfl, rfl, rfl, rfl⟩ := he
      have he := HST.out.trans (HES.out.trans (if_pos hg))
      simp only [Prod.mk.injEq] at he
      obtain ⟨rfl, ⟨rfl, rfl, rfl⟩, rfl, rfl, rfl⟩ := he
      obtain rfl : 0 = n5 := M5.out.oa.len
      obtain rfl : 0 = n7 := M7.out.oa.len
      have hns := neqs_spn 0 0 0
      obtain ⟨y00, y01, y02, yf0⟩ := PL.out.cells3
      obtain ⟨y10, y11, y12, yf1⟩ := PN.out.cells3
      obtain ⟨y20, y21, y22, yf2⟩ := PT.out.cells3
      go_upto_region 14 with fail
      clear y00 y01 y02 yf0 y10 y11 y12 yf1 y20 y21 y22 yf2 hns
      have bx := (Below.refl W8.heap.size W8).drew
      replace HX := hid (HX.out.step bx); replace HY := hid (HY.out.step bx); replace PX := hid (PX.out.step bx); replace PM := hid (PM.out.step bx); replace M2 := hid (M2.out.step bx); replace HB := hid (below_then HB.out bx)
      clear bx
      have hszd := hid (show W8.drew.heap.size = W8.heap.size from rfl)
      refine wp_region_noPanic ?_
      refine wp_region_held_drew (S := (fun W' : World => W'.cell? ⟨w2.heap.size, 0, none⟩ = some (.slice A2 n2 c2) ∧ W'.cell? ⟨w2.heap.size, 1, none⟩ = some (.slice B2 k2 d2) ∧ W'.cell? ⟨w2.heap.size, 2, none⟩ = some (.bool f) ∧ W'.cell? ⟨w.heap.size, 0, none⟩ = some (.slice A n c) ∧ W'.cell? ⟨w.heap.size, 1, none⟩ = some (.slice B k d) ∧ W'.cell? ⟨w.heap.size, 2, none⟩ = some (.bool f))) (by kernel_rfl) ⟨PM.out.cells3.1, PM.out.cells3.2.1, PM.out.cells3.2.2.1, PX.out.cells3.1, PX.out.cells3.2.1, PX.out.cells3.2.2.1⟩ (fun hS => ?_)
      generalize W8.drew = Wd at *
      refine wpAnyH_take (i := 0) (v := ?_) (by simp only [List.getElem?_toArray, List.getElem?_cons_succ, List.getElem?_cons_zero]; rfl) (by kernel_rfl) (by kernel_rfl) (by kernel_rfl) (fun _ _ _ h => h) (Or.inl ⟨by rfl, ?_⟩) hS ?_
      rotate_left
      · intro w' hSw; (try dsimp only at hSw); go_split_ands; go_simp; (try with_reducible rfl)
      (try simp only [Act.put, List.setIfInBounds_toArray, List.set_cons_zero, List.set_cons_succ])
      refine wpAnyH_take (i := 1) (v := ?_) (by simp only [List.getElem?_toArray, List.getElem?_cons_succ, List.getElem?_cons_zero]; rfl) (by kernel_rfl) (by kernel_rfl) (by kernel_rfl) (fun _ _ _ h => h) (Or.inl ⟨by rfl, ?_⟩) hS ?_
      rotate_left
      · intro w' hSw; (try dsimp only at hSw); go_split_ands; go_simp; (try with_reducible rfl)
      (try simp only [Act.put, List.setIfInBounds_toArray, List.set_cons_zero, List.set_cons_succ])
      refine wpAnyH_ready (rs := [2]) (by kernel_rfl) (by simp) ?_
      refine AllReadyH.cons (by simp only [List.getElem?_toArray, List.getElem?_cons_succ, List.getElem?_cons_zero]; rfl) (fun K hK => ?_) ?_
      · skip
        go_simp
        refine (lown_r A n c B k d f xs ys _ HX.out HY.out hnc hkd).mono ?_
        rintro e w18 ⟨A9, n9, c9, B9, k9, d9, rfl, oa, ob, hb, hn9, hk9⟩
        have hsz0 := hid (show Wd.heap.size ≤ w18.heap.size from hb.size)
        replace HX := hid (HX.out.step hb); replace HY := hid (HY.out.step hb); replace PX := hid (PX.out.step hb); replace PM := hid (PM.out.step hb); replace M2 := hid (M2.out.step hb); replace HB := hid (below_then HB.out hb)
        clear hb
        rw [← HWS.out] at oa
        rw [← HLS.out] at ob
        have M9 := hid (Mem.ofOw oa ob (by omega) (by omega))
        clear oa ob
        go_wp2_with fail
        have hS' : (fun W' : World => W'.cell? ⟨w2.heap.size, 0, none⟩ = some (.slice A2 n2 c2) ∧ W'.cell? ⟨w2.heap.size, 1, none⟩ = some (.slice B2 k2 d2) ∧ W'.cell? ⟨w2.heap.size, 2, none⟩ = some (.bool f) ∧ W'.cell? ⟨w.heap.size, 0, none⟩ = some (.slice A n c) ∧ W'.cell? ⟨w.heap.size, 1, none⟩ = some (.slice B k d) ∧ W'.cell? ⟨w.heap.size, 2, none⟩ = some (.bool f)) _ := ⟨PM.out.cells3.1, PM.out.cells3.2.1, PM.out.cells3.2.2.1, PX.out.cells3.1, PX.out.cells3.2.1, PX.out.cells3.2.2.1⟩
        refine hK.out _ _ hS' (fun _ => ?_)
        clear hK K hS
        have hS := hS'
        clear hS'
        (try simp only [Act.put, List.setIfInBounds_toArray, List.set_cons_zero, List.set_cons_succ])
        refine wpAnyH_ready (rs := [3]) (by kernel_rfl) (by simp) ?_
        refine AllReadyH.cons (by simp only [List.getElem?_toArray, List.getElem?_cons_succ, List.getElem?_cons_zero]; rfl) (fun K hK => ?_) ?_
        · skip
          go_simp
          refine (rmsame_any A2 n2 c2 B2 k2 d2 f ws ls A9 n9 c9 B9 k9 d9 f ws ls _ M2.out M9.out).mono ?_
          rintro e w19 ⟨rfl, hb⟩
          have hsz1 := hid (show w18.heap.size ≤ w19.heap.size from hb.size)
          replace HX := hid (HX.out.step hb); replace HY := hid (HY.out.step hb); replace PX := hid (PX.out.step hb); replace PM := hid (PM.out.step hb); replace M2 := hid (M2.out.step hb); replace M9 := hid (M9.out.step hb); replace HB := hid (below_then HB.out hb)
          clear hb
          rw [HS2.out]
          go_wp2_with fail
          have hS' : (fun W' : World => W'.cell? ⟨w2.heap.size, 0, none⟩ = some (.slice A2 n2 c2) ∧ W'.cell? ⟨w2.heap.size, 1, none⟩ = some (.slice B2 k2 d2) ∧ W'.cell? ⟨w2.heap.size, 2, none⟩ = some (.bool f) ∧ W'.cell? ⟨w.heap.size, 0, none⟩ = some (.slice A n c) ∧ W'.cell? ⟨w.heap.size, 1, none⟩ = some (.slice B k d) ∧ W'.cell? ⟨w.heap.size, 2, none⟩ = some (.bool f)) _ := ⟨PM.out.cells3.1, PM.out.cells3.2.1, PM.out.cells3.2.2.1, PX.out.cells3.1, PX.out.cells3.2.1, PX.out.cells3.2.2.1⟩
          refine hK.out _ _ hS' (fun _ => ?_)
          clear hK K hS
          have hS := hS'
          clear hS'
          (try simp only [Act.put, List.setIfInBounds_toArray, List.set_cons_zero, List.set_cons_succ])
          refine wpAnyH_take (i := 4) (v := ?_) (by simp only [List.getElem?_toArray, List.getElem?_cons_succ, List.getElem?_cons_zero]; rfl) (by kernel_rfl) (by kernel_rfl) (by kernel_rfl) (fun _ _ _ h => h) (Or.inl ⟨by rfl, ?_⟩) hS ?_
          rotate_left
          · intro w' hSw; (try dsimp only at hSw); go_split_ands; go_simp; (try with_reducible rfl)
          (try simp only [Act.put, List.setIfInBounds_toArray, List.set_cons_zero, List.set_cons_succ])
          refine wpAnyH_done (by kernel_rfl) ?_ _
          refine NoPanic.normal ?_
          clear hS
          go_wp2
          refine bodyPost_ret (v := .bool true) (by simp [results, Try.results5, go_sem]) rfl ⟨rfl, HB.out⟩
        exact AllReadyH.nil
      exact AllReadyH.nil
  rw [show decide (MGood ws ls) = true from decide_eq_true hg]
  have HG := hid hg
  clear hg
  obtain rfl : k2 = n2 := by rw [← M2.out.lenx, ← M2.out.leny]; exact HG.out.1.2.2
  have hl3 := hid M2.out.leny
  have hn1 : 1 ≤ k2 := by have := HG.out.1.1; have := M2.out.lenx; omega
  have HLO := hid (show LayOk ls at_ ↔ (0 ≤ at_ ∧ at_ ≤ (ls.length : Int) - 2 ∧ ls[at_.toNat]?.getD false = true ∧ ls[at_.toNat + 1]?.getD false = true) from Iff.rfl)
  have H8 := hid (Below.refl W8.heap.size W8)
  have X8M2 := M2; have X8M5 := M5; have X8PM := PM; have X8PL := PL; have X8HX := HX; have X8HY := HY; have X8PX := PX
  go_cut [] (fun wx => Below W8.heap.size W8 wx)
  case first =>
    as_aux_lemma =>
      by_cases h0 : at_ < 0
      · have d0 : decide (at_ < 0) = true := decide_eq_true h0
        have HNO := hid (show ¬ (0 ≤ at_ ∧ at_ ≤ (ls.length : Int) - 2 ∧ ls[(at_).toNat]?.getD false = true ∧ ls[(at_).toNat + 1]?.getD false = true) by omega)
        clear h0
        have he := HLY.out.trans (HEL.out.trans ((if_neg (not_not_intro HG.out)).trans (if_pos (fun h => HNO.out (HLO.out.1 h)))))
        simp only [Prod.mk.injEq] at he
        obtain ⟨rfl, rfl, rfl, rfl⟩ := he
        obtain rfl : 0 = n5 := M5.out.oa.len
        obtain ⟨y00, y01, y02, yf0⟩ := PL.out.cells3
        go_wp2_with fail
        go_meet
        exact H8.out
      have d0 : decide (at_ < 0) = false := decide_eq_false h0
      obtain ⟨ai, rfl⟩ := Int.eq_ofNat_of_zero_le (by omega : 0 ≤ at_)
      have hs2 : IntKind.i64.wrap ((k2 : Int) - 2) = (k2 : Int) - 2 := by rw [IntKind.wrap_i64]; omega
      by_cases h2 : (k2 : Int) - 2 < (ai : Int)
      · have d1 : decide ((k2 : Int) - 2 < (ai : Int)) = true := decide_eq_true h2
        have HNO := hid (show ¬ (0 ≤ (ai : Int) ∧ (ai : Int) ≤ (ls.length : Int) - 2 ∧ ls[((ai : Int)).toNat]?.getD false = true ∧ ls[((ai : Int)).toNat + 1]?.getD false = true) by have := hl3.out; omega)
        have hgt : (k2 : Int) - 2 < (ai : Int) := by omega
        clear h0 h2
        have he := HLY.out.trans (HEL.out.trans ((if_neg (not_not_intro HG.out)).trans (if_pos (fun h => HNO.out (HLO.out.1 h)))))
        simp only [Prod.mk.injEq] at he
        obtain ⟨rfl, rfl, rfl, rfl⟩ := he
        obtain rfl : 0 = n5 := M5.out.oa.len
        obtain ⟨y00, y01, y02, yf0⟩ := PL.out.cells3
        obtain ⟨y10, y11, y12, yf1⟩ := PM.out.cells3
        go_wp2_with fail
        go_meet
        exact H8.out
      have d1 : decide ((k2 : Int) - 2 < (ai : Int)) = false := decide_eq_false h2
      have hak : ai + 1 < k2 := by omega
      have hai : (ai : Int) < (k2 : Int) := by omega
      have hai1 : (ai : Int) + 1 < (k2 : Int) := by omega
      have hle2 : ¬ (k2 : Int) - 2 < (ai : Int) := by omega
      have hw1 : IntKind.i64.wrap ((ai : Int) + 1) = (ai : Int) + 1 := by rw [IntKind.wrap_i64]; omega
      have ht1 : ((ai : Int) + 1).toNat = ai + 1 := by omega
      obtain ⟨b, off, hB2, _, hbh, hc⟩ := M2.out.hy.row (by omega)
      subst hB2
      have f0 := hc ai (by omega)
      have f1 := hc (ai + 1) hak
      obtain ⟨x0, hx0⟩ : ∃ x, x = ls[ai]?.getD false := ⟨_, rfl⟩
      obtain ⟨x1, hx1⟩ : ∃ x, x = ls[ai + 1]?.getD false := ⟨_, rfl⟩
      rw [← hx0] at f0
      rw [← hx1] at f1
      have HX0 := hid hx0; have HX1 := hid hx1
      clear hc hx0 hx1 h0 h2
      rcases x0 with _ | _
      · have HNO := hid (show ¬ (0 ≤ (ai : Int) ∧ (ai : Int) ≤ (ls.length : Int) - 2 ∧ ls[((ai : Int)).toNat]?.getD false = true ∧ ls[((ai : Int)).toNat + 1]?.getD false = true) from fun h => by have h1 := h.2.2.1; rw [show ((ai : Int)).toNat = ai from rfl, ← HX0.out] at h1; cases h1)
        have he := HLY.out.trans (HEL.out.trans ((if_neg (not_not_intro HG.out)).trans (if_pos (fun h => HNO.out (HLO.out.1 h)))))
        simp only [Prod.mk.injEq] at he
        obtain ⟨rfl, rfl, rfl, rfl⟩ := he
        obtain rfl : 0 = n5 := M5.out.oa.len
        obtain ⟨y00, y01, y02, yf0⟩ := PL.out.cells3
        obtain ⟨y10, y11, y12, yf1⟩ := PM.out.cells3
        go_wp2_with fail
        go_meet
        exact H8.out
      rcases x1 with _ | _
      · have HNO := hid (show ¬ (0 ≤ (ai : Int) ∧ (ai : Int) ≤ (ls.length : Int) - 2 ∧ ls[((ai : Int)).toNat]?.getD false = true ∧ ls[((ai : Int)).toNat + 1]?.getD false = true) from fun h => by have h1 := h.2.2.2; rw [show ((ai : Int)).toNat = ai from rfl, ← HX1.out] at h1; cases h1)
        have he := HLY.out.trans (HEL.out.trans ((if_neg (not_not_intro HG.out)).trans (if_pos (fun h => HNO.out (HLO.out.1 h)))))
        simp only [Prod.mk.injEq] at he
        obtain ⟨rfl, rfl, rfl, rfl⟩ := he
        obtain rfl : 0 = n5 := M5.out.oa.len
        obtain ⟨y00, y01, y02, yf0⟩ := PL.out.cells3
        obtain ⟨y10, y11, y12, yf1⟩ := PM.out.cells3
        go_wp2_with fail
        go_meet
        exact H8.out
      have he := HLY.out.trans (HEL.out.trans ((if_neg (not_not_intro HG.out)).trans (if_neg (not_not_intro (HLO.out.2 ⟨by omega, by have := hl3.out; omega, HX0.out.symm, HX1.out.symm⟩)))))
      simp only [Prod.mk.injEq, Int.toNat_natCast] at he
      obtain ⟨he1, he2, he3, he4⟩ := he
      subst lc lw ll lf
      obtain ⟨y00, y01, y02, yf0⟩ := PM.out.cells3
      go_upto_region 7 with fail
      clear y00 y01 y02 yf0 f0 f1
      obtain ⟨y00, y01, y02, yf0⟩ := PX.out.cells3
      go_wp2_with fail
      clear y00 y01 y02 yf0
      refine (lown_r A n c B k d f xs ys _ HX.out HY.out hnc hkd).mono ?_
      rintro e w9 ⟨A9, n9, c9, B9, k9, d9, rfl, oa, ob, hb, hn9, hk9⟩
      have hs98 := hid hb.size
      replace HX := hid (HX.out.step hb); replace HY := hid (HY.out.step hb); replace PX := hid (PX.out.step hb); replace PM := hid (PM.out.step hb); replace M2 := hid (M2.out.step hb); replace M5 := hid (M5.out.step hb); replace PL := hid (PL.out.step hb); replace H8 := hid (below_then H8.out hb)
      rw [← HWS.out] at oa
      rw [← HLS.out] at ob
      obtain rfl : k2 = n9 := by rw [← oa.len]; exact M2.out.lenx.symm
      have OA := hid oa; have OB := hid ob
      clear hb oa ob
      have bx := below_box w9 (.cells (mcs A9 k2 c9 B9 k9 d9 f) 25)
      replace HX := hid (HX.out.step bx); replace HY := hid (HY.out.step bx); replace PX := hid (PX.out.step bx); replace PM := hid (PM.out.step bx); replace M2 := hid (M2.out.step bx); replace M5 := hid (M5.out.step bx); replace PL := hid (PL.out.step bx); replace OA := hid (OA.out.step bx); replace OB := hid (OB.out.step bx); replace H8 := hid (below_then H8.out bx)
      clear bx
      have PW := hid (Blk.new w9 25 (mcs A9 k2 c9 B9 k9 d9 f))
      go_upto_region 8 with fail
      generalize w9.alloc (.cells (mcs A9 k2 c9 B9 k9 d9 f) 25) = W10 at *
      skip
      obtain ⟨y00, y01, y02, yf0⟩ := PW.out.cells3
      obtain ⟨g9, hA9, hg9, hgl, hce, hfz⟩ := OA.out.at_ 0 (show ai < k2 by omega)
      subst hA9
      have OA1 := OA.out.stored ai 0
      obtain ⟨g9', hA9', _, _, hce1, hfz1⟩ := OA1.at_ 0 (show ai + 1 < k2 by omega)
      obtain rfl : g9 = g9' := by simpa using hA9'
      clear hA9'
      dsimp only [u64v] at OA1 hce1 hfz1
      have OA2 := hid (OA1.stored (ai + 1) 0)
      have hgw := hid (show g9 ≠ w9.heap.size from OA.out.ne_blk PW.out tne1 ⟨g9, 0, none⟩ rfl)
      have hg8 := hid (show W8.heap.size ≤ g9 by have := H8.out.size; omega)
      obtain ⟨_, cs9, hb9⟩ := OA.out.blk ⟨g9, 0, none⟩ rfl
      have OB1 := OB.out.farT (g := g9) hb9 (by decide) ai (.int .u64 0)
      have OB2 := hid (OB1.farT (g := g9) (hb9.setCell ai (.int .u64 0)) (by decide) (ai + 1) (.int .u64 0))
      clear hb9 OB1
      obtain ⟨z0, z1, z2, zf⟩ := (PW.out.far (p := ⟨g9, ai, none⟩) (Ne.symm hgw.out) (.int .u64 0)).cells3
      clear OA1
      go_region
      have PW2 := hid ((PW.out.far (p := ⟨g9, ai, none⟩) (Ne.symm hgw.out) (.int .u64 0)).far (p := ⟨g9, ai + 1, none⟩) (Ne.symm hgw.out) (.int .u64 0))
      have H11 := hid (((H8.out.setCell (p := ⟨g9, ai, none⟩) hg8.out (.int .u64 0)).setCell (p := ⟨g9, ai + 1, none⟩) hg8.out (.int .u64 0)).drew)
      have OA3 := hid (show Ow u64v ((W10.setCell ⟨g9, ai, none⟩ (.int .u64 0)).setCell ⟨g9, ai + 1, none⟩ (.int .u64 0)).drew _ _ _ _ _ _ from OA2.out.drewN 1); have OB3 := hid (show Ow blv ((W10.setCell ⟨g9, ai, none⟩ (.int .u64 0)).setCell ⟨g9, ai + 1, none⟩ (.int .u64 0)).drew _ _ _ _ _ _ from OB2.out.drewN 1)
      have PW3 := hid (show Blk ((W10.setCell ⟨g9, ai, none⟩ (.int .u64 0)).setCell ⟨g9, ai + 1, none⟩ (.int .u64 0)).drew w9.heap.size 25 (mcs (some ⟨g9, 0, none⟩) k2 c9 B9 k9 d9 f) from PW2.out)
      clear OA2 OB2 PW2 PW OA OB z0 z1 z2 zf hce hce1 hfz hfz1 y00 y01 y02 yf0
      generalize ((W10.setCell ⟨g9, ai, none⟩ (.int .u64 0)).setCell ⟨g9, ai + 1, none⟩ (.int .u64 0)).drew = W11 at *
      have M9 := hid (Mem.ofOw OA3.out OB3.out (by omega) (by omega))
      replace PL := hid (X8PL.out.step H11.out)
      replace M5 := hid (X8M5.out.step H11.out)
      have HS5 := hid (show sameM ((ws.set ai 0).set (ai + 1) 0, ls, f) ((ws.set ai 0).set (ai + 1) 0, ls, f) = true from decide_eq_true ⟨rfl, rfl, rfl⟩)
      obtain ⟨y00, y01, y02, yf0⟩ := PL.out.cells3
      obtain ⟨y10, y11, y12, yf1⟩ := PW3.out.cells3
      go_wp2_with fail
      clear y00 y01 y02 yf0 y10 y11 y12 yf1
      refine (rmsame_any A5 n5 c5 B5 k5 d5 f ((ws.set ai 0).set (ai + 1) 0) ls (some ⟨g9, 0, none⟩) k2 c9 B9 k9 d9 f ((ws.set ai 0).set (ai + 1) 0) ls _ M5.out.mem M9.out).mono ?_
      rintro e w12 ⟨rfl, hb⟩
      replace M9 := hid (M9.out.step hb); replace PL := hid (PL.out.step hb); replace M5 := hid (M5.out.step hb); replace PW3 := hid (PW3.out.step hb); replace H11 := hid (below_then H11.out hb)
      clear hb
      rw [HS5.out]
      go_wp2_with fail
      go_meet
      exact H11.out
  case rest =>
    rename World => W12
    have hb := hcut
    clear hcut X8M2 X8M5 X8PM X8PL X8HX X8HY X8PX H8
    replace HX := hid (HX.out.step hb); replace HY := hid (HY.out.step hb); replace PX := hid (PX.out.step hb); replace PS := hid (PS.out.step hb); replace PM := hid (PM.out.step hb); replace M2 := hid (M2.out.step hb); replace M7 := hid (M7.out.step hb); replace PN := hid (PN.out.step hb); replace PT := hid (PT.out.step hb); replace HB := hid (below_then HB.out hb); replace H6 := hid (below_then H6.out hb)
    clear hb M5 PL HLY HEL HLO
    obtain ⟨y00, y01, y02, yf0⟩ := PS.out.cells3
    go_wp2_with fail
    clear y00 y01 y02 yf0
    refine (rspright_any a p t W12).mono ?_
    rintro e w13 ⟨rfl, hb⟩
    replace HX := hid (HX.out.step hb); replace HY := hid (HY.out.step hb); replace PX := hid (PX.out.step hb); replace PS := hid (PS.out.step hb); replace PM := hid (PM.out.step hb); replace M2 := hid (M2.out.step hb); replace M7 := hid (M7.out.step hb); replace PN := hid (PN.out.step hb); replace PT := hid (PT.out.step hb); replace HB := hid (below_then HB.out hb); replace H6 := hid (below_then H6.out hb)
    clear hb
    by_cases hs : SpGood (a, p, t)
    rotate_left
    · rw [show decide (SpGood (a, p, t)) = false from decide_eq_false hs]
      have he := HST.out.trans (HES.out.trans ((if_neg (not_not_intro HG.out)).trans (if_pos hs)))
      simp only [Prod.mk.injEq] at he
      obtain ⟨rfl, ⟨rfl, rfl, rfl⟩, rfl, rfl, rfl⟩ := he
      obtain rfl : 0 = n7 := M7.out.oa.len
      have hns := eqds_spn 0 0 0
      obtain ⟨y00, y01, y02, yf0⟩ := PN.out.cells3
      obtain ⟨y10, y11, y12, yf1⟩ := PT.out.cells3
      go_wp2
      refine bodyPost_ret (v := .bool true) (by simp [results, Try.results5, go_sem]) rfl ⟨rfl, HB.out⟩
    rw [show decide (SpGood (a, p, t)) = true from decide_eq_true hs]
    have HSG := hid hs
    have he := HST.out.trans (spStepF_ref HG.out hs)
    simp only [Prod.mk.injEq] at he
    obtain ⟨rfl, he⟩ := he
    have HRS := hid he
    clear he hs HES HST
    go_upto_region 20 with fail
    have XQX := HX; have XQY := HY; have XQPX := PX; have XQPS := PS; have HQ := hid (Below.refl w13.heap.size w13)
    go_cut [15, 16] (fun s15 s16 wx => ∃ g15 g16 A3 c3 B3 d3, s15 = ptr g15 ∧ s16 = ptr g16 ∧ StMid w13 wx g15 g16 A3 k2 c3 B3 d3 (sw, sl, sf) (sa, sp, st))
    case first =>
      as_aux_lemma =>
        have bx := (Below.refl w13.heap.size w13).drew
        replace HQ := hid (below_then HQ.out bx)
        clear bx
        have hszd := hid (show w13.drew.heap.size = w13.heap.size from rfl)
        refine wp_region_noPanic ?_
        refine wp_region_held_drew (S := (fun W' : World => W'.cell? ⟨w.heap.size, 0, none⟩ = some (.slice A n c) ∧ W'.cell? ⟨w.heap.size, 1, none⟩ = some (.slice B k d) ∧ W'.cell? ⟨w.heap.size, 2, none⟩ = some (.bool f) ∧ W'.cell? ⟨w.heap.size + 1, 0, none⟩ = some (.int .i64 a) ∧ W'.cell? ⟨w.heap.size + 1, 1, none⟩ = some (.int .i64 p) ∧ W'.cell? ⟨w.heap.size + 1, 2, none⟩ = some (.int .u64 t))) (by kernel_rfl) ⟨(XQPX.out.step HQ.out).cells3.1, (XQPX.out.step HQ.out).cells3.2.1, (XQPX.out.step HQ.out).cells3.2.2.1, (XQPS.out.step HQ.out).cells3.1, (XQPS.out.step HQ.out).cells3.2.1, (XQPS.out.step HQ.out).cells3.2.2.1⟩ (fun hS => ?_)
        generalize w13.drew = Wd at *
        refine wpAnyH_take (i := 0) (v := ?_) (by simp only [List.getElem?_toArray, List.getElem?_cons_succ, List.getElem?_cons_zero]; rfl) (by kernel_rfl) (by kernel_rfl) (by kernel_rfl) (fun _ _ _ h => h) (Or.inl ⟨by rfl, ?_⟩) hS ?_
        rotate_left
        · intro w' hSw; (try dsimp only at hSw); go_split_ands; go_simp; (try with_reducible rfl)
        (try simp only [Act.put, List.setIfInBounds_toArray, List.set_cons_zero, List.set_cons_succ])
        refine wpAnyH_take (i := 2) (v := ?_) (by simp only [List.getElem?_toArray, List.getElem?_cons_succ, List.getElem?_cons_zero]; rfl) (by kernel_rfl) (by kernel_rfl) (by kernel_rfl) (fun _ _ _ h => h) (Or.inl ⟨by rfl, ?_⟩) hS ?_
        rotate_left
        · intro w' hSw; (try dsimp only at hSw); go_split_ands; go_simp; (try with_reducible rfl)
        (try simp only [Act.put, List.setIfInBounds_toArray, List.set_cons_zero, List.set_cons_succ])
        refine wpAnyH_ready (rs := [1, 7, 8]) (by kernel_rfl) (by simp) ?_
        refine AllReadyH.cons (by simp only [List.getElem?_toArray, List.getElem?_cons_succ, List.getElem?_cons_zero]; rfl) (fun K hK => ?_) ?_
        · skip
          go_simp
          refine (lown_r A n c B k d f xs ys _ (XQX.out.step HQ.out) (XQY.out.step HQ.out) hnc hkd).mono ?_
          rintro e ws1 ⟨A9, n9, c9, B9, k9, d9, rfl, oa, ob, hb, hn9, hk9⟩
          have hsz0 := hid (show Wd.heap.size ≤ ws1.heap.size from hb.size)
          replace HQ := hid (below_then HQ.out hb)
          clear hb
          rw [← HWS.out] at oa
          rw [← HLS.out] at ob
          obtain rfl : k2 = n9 := by rw [← oa.len]; exact M2.out.lenx.symm
          obtain rfl : k2 = k9 := by rw [← ob.len]; exact hl3.out.symm
          have M9 := hid (Mem.ofOw oa ob (by omega) (by omega))
          clear oa ob
          go_wp2_with fail
          have hS' : (fun W' : World => W'.cell? ⟨w.heap.size, 0, none⟩ = some (.slice A n c) ∧ W'.cell? ⟨w.heap.size, 1, none⟩ = some (.slice B k d) ∧ W'.cell? ⟨w.heap.size, 2, none⟩ = some (.bool f) ∧ W'.cell? ⟨w.heap.size + 1, 0, none⟩ = some (.int .i64 a) ∧ W'.cell? ⟨w.heap.size + 1, 1, none⟩ = some (.int .i64 p) ∧ W'.cell? ⟨w.heap.size + 1, 2, none⟩ = some (.int .u64 t)) _ := ⟨(XQPX.out.step HQ.out).cells3.1, (XQPX.out.step HQ.out).cells3.2.1, (XQPX.out.step HQ.out).cells3.2.2.1, (XQPS.out.step HQ.out).cells3.1, (XQPS.out.step HQ.out).cells3.2.1, (XQPS.out.step HQ.out).cells3.2.2.1⟩
          refine hK.out _ _ hS' (fun _ => ?_)
          clear hK K hS
          have hS := hS'
          clear hS'
          (try simp only [Act.put, List.setIfInBounds_toArray, List.set_cons_zero, List.set_cons_succ])
          refine wpAnyH_ready (rs := [3, 7, 8]) (by kernel_rfl) (by simp) ?_
          refine AllReadyH.cons (by simp only [List.getElem?_toArray, List.getElem?_cons_succ, List.getElem?_cons_zero]; rfl) (fun K hK => ?_) ?_
          · skip
            go_simp
            refine (rspstep_any A9 k2 c9 B9 k2 d9 f ws ls a p t _ M9.out rfl).mono ?_
            rintro e ws3 ⟨A3, c3, B3, d3, rfl, hmn, hb, htr⟩
            have hsz1 := hid (show ws1.heap.size ≤ ws3.heap.size from hb.size)
            replace M9 := hid (M9.out.step hb); replace HQ := hid (below_then HQ.out hb)
            clear hb
            rw [← HRS.out] at hmn ⊢
            dsimp only at hmn ⊢
            have MN := hid hmn
            clear hmn htr
            go_wp2_with fail
            have hS' : (fun W' : World => W'.cell? ⟨w.heap.size, 0, none⟩ = some (.slice A n c) ∧ W'.cell? ⟨w.heap.size, 1, none⟩ = some (.slice B k d) ∧ W'.cell? ⟨w.heap.size, 2, none⟩ = some (.bool f) ∧ W'.cell? ⟨w.heap.size + 1, 0, none⟩ = some (.int .i64 a) ∧ W'.cell? ⟨w.heap.size + 1, 1, none⟩ = some (.int .i64 p) ∧ W'.cell? ⟨w.heap.size + 1, 2, none⟩ = some (.int .u64 t)) _ := ⟨(XQPX.out.step HQ.out).cells3.1, (XQPX.out.step HQ.out).cells3.2.1, (XQPX.out.step HQ.out).cells3.2.2.1, (XQPS.out.step HQ.out).cells3.1, (XQPS.out.step HQ.out).cells3.2.1, (XQPS.out.step HQ.out).cells3.2.2.1⟩
            refine hK.out _ _ hS' (fun _ => ?_)
            clear hK K hS
            have hS := hS'
            clear hS'
            (try simp only [Act.put, List.setIfInBounds_toArray, List.set_cons_zero, List.set_cons_succ])
            refine wpAnyH_take (i := 4) (v := ?_) (by simp only [List.getElem?_toArray, List.getElem?_cons_succ, List.getElem?_cons_zero]; rfl) (by kernel_rfl) (by kernel_rfl) (by kernel_rfl) (fun _ _ _ h => h) (Or.inl ⟨by rfl, ?_⟩) hS ?_
            rotate_left
            · intro w' hSw; (try dsimp only at hSw); go_split_ands; go_simp; (try with_reducible rfl)
            (try simp only [Act.put, List.setIfInBounds_toArray, List.set_cons_zero, List.set_cons_succ])
            refine wpAnyH_take (i := 5) (v := ?_) (by simp only [List.getElem?_toArray, List.getElem?_cons_succ, List.getElem?_cons_zero]; rfl) (by kernel_rfl) (by kernel_rfl) (by kernel_rfl) (fun _ _ _ h => h) (Or.inl ⟨by rfl, ?_⟩) hS ?_
            rotate_left
            · intro w' hSw; (try dsimp only at hSw); go_split_ands; go_simp; (try with_reducible rfl)
            (try simp only [Act.put, List.setIfInBounds_toArray, List.set_cons_zero, List.set_cons_succ])
            refine wpAnyH_take (i := 6) (v := ?_) (by simp only [List.getElem?_toArray, List.getElem?_cons_succ, List.getElem?_cons_zero]; rfl) (by kernel_rfl) (by kernel_rfl) (by kernel_rfl) (fun _ _ _ h => h) (Or.inl ⟨by rfl, ?_⟩) hS ?_
            rotate_left
            · intro w' hSw; (try dsimp only at hSw); go_split_ands; go_simp; (try with_reducible rfl)
            (try simp only [Act.put, List.setIfInBounds_toArray, List.set_cons_zero, List.set_cons_succ])
            refine wpAnyH_ready (rs := [7, 8]) (by kernel_rfl) (by simp) ?_
            refine AllReadyH.cons (by simp only [List.getElem?_toArray, List.getElem?_cons_succ, List.getElem?_cons_zero]; rfl) (fun K hK => ?_) ?_
            · skip
              go_simp
              refine named_alloc ?_
              intro Wa7 hbk hb hsz
              have hsz2 := hid hsz
              have F6 := hid (show FarM k2 A3 B3 ws3.heap.size from MN.out.far (Nat.le_refl _))
              replace M9 := hid (M9.out.step hb); replace MN := hid (MN.out.step hb); replace HQ := hid (below_then HQ.out hb)
              have P6 := hid hbk
              clear hb hbk hsz
              have hS' : (fun W' : World => W'.cell? ⟨w.heap.size, 0, none⟩ = some (.slice A n c) ∧ W'.cell? ⟨w.heap.size, 1, none⟩ = some (.slice B k d) ∧ W'.cell? ⟨w.heap.size, 2, none⟩ = some (.bool f) ∧ W'.cell? ⟨w.heap.size + 1, 0, none⟩ = some (.int .i64 a) ∧ W'.cell? ⟨w.heap.size + 1, 1, none⟩ = some (.int .i64 p) ∧ W'.cell? ⟨w.heap.size + 1, 2, none⟩ = some (.int .u64 t)) _ := ⟨(XQPX.out.step HQ.out).cells3.1, (XQPX.out.step HQ.out).cells3.2.1, (XQPX.out.step HQ.out).cells3.2.2.1, (XQPS.out.step HQ.out).cells3.1, (XQPS.out.step HQ.out).cells3.2.1, (XQPS.out.step HQ.out).cells3.2.2.1⟩
              refine hK.out _ _ hS' (fun _ => ?_)
              clear hK K hS
              have hS := hS'
              clear hS'
              (try simp only [Act.put, List.setIfInBounds_toArray, List.set_cons_zero, List.set_cons_succ])
              refine wpAnyH_ready (rs := [8]) (by kernel_rfl) (by simp) ?_
              refine AllReadyH.cons (by simp only [List.getElem?_toArray, List.getElem?_cons_succ, List.getElem?_cons_zero]; rfl) (fun K hK => ?_) ?_
              · skip
                go_simp
                refine named_alloc ?_
                intro Wa8 hbk hb hsz
                have hsz3 := hid hsz
                have F7 := hid (show FarM k2 A3 B3 Wa7.heap.size from MN.out.far (Nat.le_refl _))
                replace M9 := hid (M9.out.step hb); replace MN := hid (MN.out.step hb); replace P6 := hid (P6.out.step hb); replace HQ := hid (below_then HQ.out hb)
                have P7 := hid hbk
                clear hb hbk hsz
                have hS' : (fun W' : World => W'.cell? ⟨w.heap.size, 0, none⟩ = some (.slice A n c) ∧ W'.cell? ⟨w.heap.size, 1, none⟩ = some (.slice B k d) ∧ W'.cell? ⟨w.heap.size, 2, none⟩ = some (.bool f) ∧ W'.cell? ⟨w.heap.size + 1, 0, none⟩ = some (.int .i64 a) ∧ W'.cell? ⟨w.heap.size + 1, 1, none⟩ = some (.int .i64 p) ∧ W'.cell? ⟨w.heap.size + 1, 2, none⟩ = some (.int .u64 t)) _ := ⟨(XQPX.out.step HQ.out).cells3.1, (XQPX.out.step HQ.out).cells3.2.1, (XQPX.out.step HQ.out).cells3.2.2.1, (XQPS.out.step HQ.out).cells3.1, (XQPS.out.step HQ.out).cells3.2.1, (XQPS.out.step HQ.out).cells3.2.2.1⟩
                refine hK.out _ _ hS' (fun _ => ?_)
                clear hK K hS
                have hS := hS'
                clear hS'
                (try simp only [Act.put, List.setIfInBounds_toArray, List.set_cons_zero, List.set_cons_succ])
                refine wpAnyH_ready (rs := [9]) (by kernel_rfl) (by simp) ?_
                refine AllReadyH.cons (by simp only [List.getElem?_toArray, List.getElem?_cons_succ, List.getElem?_cons_zero]; rfl) (fun K hK => ?_) ?_
                · skip
                  obtain ⟨y00, y01, y02, yf0⟩ := P6.out.cells3
                  go_simp
                  clear y00 y01 y02 yf0
                  refine named_store3 P6.out ?_
                  intro Ws9 hbk hgr hsz
                  have hsz4 := hid hsz
                  clear hsz
                  replace P7 := hid (P7.out.grown hgr (fun e => P6.out.ne P7.out (by decide) (by simpa using e.symm)))
                  replace MN := hid (mem_kept MN.out F6.out hgr)
                  replace HQ := hid (HQ.out.grown hgr HQ.out.size (fun r e => by cases e; have := hszd.out; have := hsz0.out; have := hsz1.out; have := hsz2.out; have := hsz3.out; have := hsz4.out; omega))
                  replace P6 := hid hbk
                  clear hbk hgr
                  have hS' : (fun W' : World => W'.cell? ⟨w.heap.size, 0, none⟩ = some (.slice A n c) ∧ W'.cell? ⟨w.heap.size, 1, none⟩ = some (.slice B k d) ∧ W'.cell? ⟨w.heap.size, 2, none⟩ = some (.bool f) ∧ W'.cell? ⟨w.heap.size + 1, 0, none⟩ = some (.int .i64 a) ∧ W'.cell? ⟨w.heap.size + 1, 1, none⟩ = some (.int .i64 p) ∧ W'.cell? ⟨w.heap.size + 1, 2, none⟩ = some (.int .u64 t)) _ := ⟨(XQPX.out.step HQ.out).cells3.1, (XQPX.out.step HQ.out).cells3.2.1, (XQPX.out.step HQ.out).cells3.2.2.1, (XQPS.out.step HQ.out).cells3.1, (XQPS.out.step HQ.out).cells3.2.1, (XQPS.out.step HQ.out).cells3.2.2.1⟩
                  refine hK.out _ _ hS' (fun _ => ?_)
                  clear hK K hS
                  have hS := hS'
                  clear hS'
                  (try simp only [Act.put, List.setIfInBounds_toArray, List.set_cons_zero, List.set_cons_succ])
                  refine wpAnyH_ready (rs := [10]) (by kernel_rfl) (by simp) ?_
                  refine AllReadyH.cons (by simp only [List.getElem?_toArray, List.getElem?_cons_succ, List.getElem?_cons_zero]; rfl) (fun K hK => ?_) ?_
                  · skip
                    obtain ⟨y00, y01, y02, yf0⟩ := P7.out.cells3
                    go_simp
                    clear y00 y01 y02 yf0
                    refine named_store3 P7.out ?_
                    intro Ws10 hbk hgr hsz
                    have hsz5 := hid hsz
                    clear hsz
                    replace P6 := hid (P6.out.grown hgr (fun e => P6.out.ne P7.out (by decide) (by simpa using e)))
                    replace MN := hid (mem_kept MN.out F7.out hgr)
                    replace HQ := hid (HQ.out.grown hgr HQ.out.size (fun r e => by cases e; have := hszd.out; have := hsz0.out; have := hsz1.out; have := hsz2.out; have := hsz3.out; have := hsz4.out; have := hsz5.out; omega))
                    replace P7 := hid hbk
                    clear hbk hgr
                    have hS' : (fun W' : World => W'.cell? ⟨w.heap.size, 0, none⟩ = some (.slice A n c) ∧ W'.cell? ⟨w.heap.size, 1, none⟩ = some (.slice B k d) ∧ W'.cell? ⟨w.heap.size, 2, none⟩ = some (.bool f) ∧ W'.cell? ⟨w.heap.size + 1, 0, none⟩ = some (.int .i64 a) ∧ W'.cell? ⟨w.heap.size + 1, 1, none⟩ = some (.int .i64 p) ∧ W'.cell? ⟨w.heap.size + 1, 2, none⟩ = some (.int .u64 t)) _ := ⟨(XQPX.out.step HQ.out).cells3.1, (XQPX.out.step HQ.out).cells3.2.1, (XQPX.out.step HQ.out).cells3.2.2.1, (XQPS.out.step HQ.out).cells3.1, (XQPS.out.step HQ.out).cells3.2.1, (XQPS.out.step HQ.out).cells3.2.2.1⟩
                    refine hK.out _ _ hS' (fun _ => ?_)
                    clear hK K hS
                    have hS := hS'
                    clear hS'
                    (try simp only [Act.put, List.setIfInBounds_toArray, List.set_cons_zero, List.set_cons_succ])
                    refine wpAnyH_done (by kernel_rfl) ?_ _
                    refine NoPanic.normal ?_
                    clear hS
                    go_wp2_with fail
                    go_meet
                    exact ⟨_, _, A3, c3, B3, d3, rfl, rfl, ⟨P6.out, P7.out, MN.out, HQ.out⟩⟩
                  exact AllReadyH.nil
                exact AllReadyH.nil
              exact AllReadyH.nil
            refine AllReadyH.cons (by simp only [List.getElem?_toArray, List.getElem?_cons_succ, List.getElem?_cons_zero]; rfl) (fun K hK => ?_) ?_
            · skip
              go_simp
              refine named_alloc ?_
              intro Wa8 hbk hb hsz
              have hsz2 := hid hsz
              have F7 := hid (show FarM k2 A3 B3 ws3.heap.size from MN.out.far (Nat.le_refl _))
              replace M9 := hid (M9.out.step hb); replace MN := hid (MN.out.step hb); replace HQ := hid (below_then HQ.out hb)
              have P7 := hid hbk
              clear hb hbk hsz
              have hS' : (fun W' : World => W'.cell? ⟨w.heap.size, 0, none⟩ = some (.slice A n c) ∧ W'.cell? ⟨w.heap.size, 1, none⟩ = some (.slice B k d) ∧ W'.cell? ⟨w.heap.size, 2, none⟩ = some (.bool f) ∧ W'.cell? ⟨w.heap.size + 1, 0, none⟩ = some (.int .i64 a) ∧ W'.cell? ⟨w.heap.size + 1, 1, none⟩ = some (.int .i64 p) ∧ W'.cell? ⟨w.heap.size + 1, 2, none⟩ = some (.int .u64 t)) _ := ⟨(XQPX.out.step HQ.out).cells3.1, (XQPX.out.step HQ.out).cells3.2.1, (XQPX.out.step HQ.out).cells3.2.2.1, (XQPS.out.step HQ.out).cells3.1, (XQPS.out.step HQ.out).cells3.2.1, (XQPS.out.step HQ.out).cells3.2.2.1⟩
              refine hK.out _ _ hS' (fun _ => ?_)
              clear hK K hS
              have hS := hS'
              clear hS'
              (try simp only [Act.put, List.setIfInBounds_toArray, List.set_cons_zero, List.set_cons_succ])
              refine wpAnyH_ready (rs := [7]) (by kernel_rfl) (by simp) ?_
              refine AllReadyH.cons (by simp only [List.getElem?_toArray, List.getElem?_cons_succ, List.getElem?_cons_zero]; rfl) (fun K hK => ?_) ?_
              · skip
                go_simp
                refine named_alloc ?_
                intro Wa7 hbk hb hsz
                have hsz3 := hid hsz
                have F6 := hid (show FarM k2 A3 B3 Wa8.heap.size from MN.out.far (Nat.le_refl _))
                replace M9 := hid (M9.out.step hb); replace MN := hid (MN.out.step hb); replace P7 := hid (P7.out.step hb); replace HQ := hid (below_then HQ.out hb)
                have P6 := hid hbk
                clear hb hbk hsz
                have hS' : (fun W' : World => W'.cell? ⟨w.heap.size, 0, none⟩ = some (.slice A n c) ∧ W'.cell? ⟨w.heap.size, 1, none⟩ = some (.slice B k d) ∧ W'.cell? ⟨w.heap.size, 2, none⟩ = some (.bool f) ∧ W'.cell? ⟨w.heap.size + 1, 0, none⟩ = some (.int .i64 a) ∧ W'.cell? ⟨w.heap.size + 1, 1, none⟩ = some (.int .i64 p) ∧ W'.cell? ⟨w.heap.size + 1, 2, none⟩ = some (.int .u64 t)) _ := ⟨(XQPX.out.step HQ.out).cells3.1, (XQPX.out.step HQ.out).cells3.2.1, (XQPX.out.step HQ.out).cells3.2.2.1, (XQPS.out.step HQ.out).cells3.1, (XQPS.out.step HQ.out).cells3.2.1, (XQPS.out.step HQ.out).cells3.2.2.1⟩
                refine hK.out _ _ hS' (fun _ => ?_)
                clear hK K hS
                have hS := hS'
                clear hS'
                (try simp only [Act.put, List.setIfInBounds_toArray, List.set_cons_zero, List.set_cons_succ])
                refine wpAnyH_ready (rs := [9]) (by kernel_rfl) (by simp) ?_
                refine AllReadyH.cons (by simp only [List.getElem?_toArray, List.getElem?_cons_succ, List.getElem?_cons_zero]; rfl) (fun K hK => ?_) ?_
                · skip
                  obtain ⟨y00, y01, y02, yf0⟩ := P6.out.cells3
                  go_simp
                  clear y00 y01 y02 yf0
                  refine named_store3 P6.out ?_
                  intro Ws9 hbk hgr hsz
                  have hsz4 := hid hsz
                  clear hsz
                  replace P7 := hid (P7.out.grown hgr (fun e => P6.out.ne P7.out (by decide) (by simpa using e.symm)))
                  replace MN := hid (mem_kept MN.out F6.out hgr)
                  replace HQ := hid (HQ.out.grown hgr HQ.out.size (fun r e => by cases e; have := hszd.out; have := hsz0.out; have := hsz1.out; have := hsz2.out; have := hsz3.out; have := hsz4.out; omega))
                  replace P6 := hid hbk
                  clear hbk hgr
                  have hS' : (fun W' : World => W'.cell? ⟨w.heap.size, 0, none⟩ = some (.slice A n c) ∧ W'.cell? ⟨w.heap.size, 1, none⟩ = some (.slice B k d) ∧ W'.cell? ⟨w.heap.size, 2, none⟩ = some (.bool f) ∧ W'.cell? ⟨w.heap.size + 1, 0, none⟩ = some (.int .i64 a) ∧ W'.cell? ⟨w.heap.size + 1, 1, none⟩ = some (.int .i64 p) ∧ W'.cell? ⟨w.heap.size + 1, 2, none⟩ = some (.int .u64 t)) _ := ⟨(XQPX.out.step HQ.out).cells3.1, (XQPX.out.step HQ.out).cells3.2.1, (XQPX.out.step HQ.out).cells3.2.2.1, (XQPS.out.step HQ.out).cells3.1, (XQPS.out.step HQ.out).cells3.2.1, (XQPS.out.step HQ.out).cells3.2.2.1⟩
                  refine hK.out _ _ hS' (fun _ => ?_)
                  clear hK K hS
                  have hS := hS'
                  clear hS'
                  (try simp only [Act.put, List.setIfInBounds_toArray, List.set_cons_zero, List.set_cons_succ])
                  refine wpAnyH_ready (rs := [10]) (by kernel_rfl) (by simp) ?_
                  refine AllReadyH.cons (by simp only [List.getElem?_toArray, List.getElem?_cons_succ, List.getElem?_cons_zero]; rfl) (fun K hK => ?_) ?_
                  · skip
                    obtain ⟨y00, y01, y02, yf0⟩ := P7.out.cells3
                    go_simp
                    clear y00 y01 y02 yf0
                    refine named_store3 P7.out ?_
                    intro Ws10 hbk hgr hsz
                    have hsz5 := hid hsz
                    clear hsz
                    replace P6 := hid (P6.out.grown hgr (fun e => P6.out.ne P7.out (by decide) (by simpa using e)))
                    replace MN := hid (mem_kept MN.out F7.out hgr)
                    replace HQ := hid (HQ.out.grown hgr HQ.out.size (fun r e => by cases e; have := hszd.out; have := hsz0.out; have := hsz1.out; have := hsz2.out; have := hsz3.out; have := hsz4.out; have := hsz5.out; omega))
                    replace P7 := hid hbk
                    clear hbk hgr
                    have hS' : (fun W' : World => W'.cell? ⟨w.heap.size, 0, none⟩ = some (.slice A n c) ∧ W'.cell? ⟨w.heap.size, 1, none⟩ = some (.slice B k d) ∧ W'.cell? ⟨w.heap.size, 2, none⟩ = some (.bool f) ∧ W'.cell? ⟨w.heap.size + 1, 0, none⟩ = some (.int .i64 a) ∧ W'.cell? ⟨w.heap.size + 1, 1, none⟩ = some (.int .i64 p) ∧ W'.cell? ⟨w.heap.size + 1, 2, none⟩ = some (.int .u64 t)) _ := ⟨(XQPX.out.step HQ.out).cells3.1, (XQPX.out.step HQ.out).cells3.2.1, (XQPX.out.step HQ.out).cells3.2.2.1, (XQPS.out.step HQ.out).cells3.1, (XQPS.out.step HQ.out).cells3.2.1, (XQPS.out.step HQ.out).cells3.2.2.1⟩
                    refine hK.out _ _ hS' (fun _ => ?_)
                    clear hK K hS
                    have hS := hS'
                    clear hS'
                    (try simp only [Act.put, List.setIfInBounds_toArray, List.set_cons_zero, List.set_cons_succ])
                    refine wpAnyH_done (by kernel_rfl) ?_ _
                    refine NoPanic.normal ?_
                    clear hS
                    go_wp2_with fail
                    go_meet
                    exact ⟨_, _, A3, c3, B3, d3, rfl, rfl, ⟨P6.out, P7.out, MN.out, HQ.out⟩⟩
                  exact AllReadyH.nil
                exact AllReadyH.nil
              exact AllReadyH.nil
            exact AllReadyH.nil
          refine AllReadyH.cons (by simp only [List.getElem?_toArray, List.getElem?_cons_succ, List.getElem?_cons_zero]; rfl) (fun K hK => ?_) ?_
          · skip
            go_simp
            refine named_alloc ?_
            intro Wa7 hbk hb hsz
            have hsz1 := hid hsz
            have F60 := hid (show FarM k2 A9 B9 ws1.heap.size from M9.out.far (Nat.le_refl _))
            replace M9 := hid (M9.out.step hb); replace HQ := hid (below_then HQ.out hb)
            have P6 := hid hbk
            clear hb hbk hsz
            have hS' : (fun W' : World => W'.cell? ⟨w.heap.size, 0, none⟩ = some (.slice A n c) ∧ W'.cell? ⟨w.heap.size, 1, none⟩ = some (.slice B k d) ∧ W'.cell? ⟨w.heap.size, 2, none⟩ = some (.bool f) ∧ W'.cell? ⟨w.heap.size + 1, 0, none⟩ = some (.int .i64 a) ∧ W'.cell? ⟨w.heap.size + 1, 1, none⟩ = some (.int .i64 p) ∧ W'.cell? ⟨w.heap.size + 1, 2, none⟩ = some (.int .u64 t)) _ := ⟨(XQPX.out.step HQ.out).cells3.1, (XQPX.out.step HQ.out).cells3.2.1, (XQPX.out.step HQ.out).cells3.2.2.1, (XQPS.out.step HQ.out).cells3.1, (XQPS.out.step HQ.out).cells3.2.1, (XQPS.out.step HQ.out).cells3.2.2.1⟩
            refine hK.out _ _ hS' (fun _ => ?_)
            clear hK K hS
            have hS := hS'
            clear hS'
            (try simp only [Act.put, List.setIfInBounds_toArray, List.set_cons_zero, List.set_cons_succ])
            refine wpAnyH_ready (rs := [3, 8]) (by kernel_rfl) (by simp) ?_
            refine AllReadyH.cons (by simp only [List.getElem?_toArray, List.getElem?_cons_succ, List.getElem?_cons_zero]; rfl) (fun K hK => ?_) ?_
            · skip
              go_simp
              refine (rspstep_any A9 k2 c9 B9 k2 d9 f ws ls a p t _ M9.out rfl).mono ?_
              rintro e ws3 ⟨A3, c3, B3, d3, rfl, hmn, hb, htr⟩
              have hsz2 := hid (show Wa7.heap.size ≤ ws3.heap.size from hb.size)
              replace M9 := hid (M9.out.step hb); replace P6 := hid (P6.out.step hb); replace HQ := hid (below_then HQ.out hb)
              clear hb
              rw [← HRS.out] at hmn ⊢
              dsimp only at hmn ⊢
              have MN := hid hmn
              have F6 := hid (htr _ (by have := hszd.out; have := hsz0.out; have := hsz1.out; omega) F60.out)
              clear hmn htr
              go_wp2_with fail
              have hS' : (fun W' : World => W'.cell? ⟨w.heap.size, 0, none⟩ = some (.slice A n c) ∧ W'.cell? ⟨w.heap.size, 1, none⟩ = some (.slice B k d) ∧ W'.cell? ⟨w.heap.size, 2, none⟩ = some (.bool f) ∧ W'.cell? ⟨w.heap.size + 1, 0, none⟩ = some (.int .i64 a) ∧ W'.cell? ⟨w.heap.size + 1, 1, none⟩ = some (.int .i64 p) ∧ W'.cell? ⟨w.heap.size + 1, 2, none⟩ = some (.int .u64 t)) _ := ⟨(XQPX.out.step HQ.out).cells3.1, (XQPX.out.step HQ.out).cells3.2.1, (XQPX.out.step HQ.out).cells3.2.2.1, (XQPS.out.step HQ.out).cells3.1, (XQPS.out.step HQ.out).cells3.2.1, (XQPS.out.step HQ.out).cells3.2.2.1⟩
              refine hK.out _ _ hS' (fun _ => ?_)
              clear hK K hS
              have hS := hS'
              clear hS'
              (try simp only [Act.put, List.setIfInBounds_toArray, List.set_cons_zero, List.set_cons_succ])
              refine wpAnyH_take (i := 4) (v := ?_) (by simp only [List.getElem?_toArray, List.getElem?_cons_succ, List.getElem?_cons_zero]; rfl) (by kernel_rfl) (by kernel_rfl) (by kernel_rfl) (fun _ _ _ h => h) (Or.inl ⟨by rfl, ?_⟩) hS ?_
              rotate_left
              · intro w' hSw; (try dsimp only at hSw); go_split_ands; go_simp; (try with_reducible rfl)
              (try simp only [Act.put, List.setIfInBounds_toArray, List.set_cons_zero, List.set_cons_succ])
              refine wpAnyH_take (i := 5) (v := ?_) (by simp only [List.getElem?_toArray, List.getElem?_cons_succ, List.getElem?_cons_zero]; rfl) (by kernel_rfl) (by kernel_rfl) (by kernel_rfl) (fun _ _ _ h => h) (Or.inl ⟨by rfl, ?_⟩) hS ?_
              rotate_left
              · intro w' hSw; (try dsimp only at hSw); go_split_ands; go_simp; (try with_reducible rfl)
              (try simp only [Act.put, List.setIfInBounds_toArray, List.set_cons_zero, List.set_cons_succ])
              refine wpAnyH_take (i := 6) (v := ?_) (by simp only [List.getElem?_toArray, List.getElem?_cons_succ, List.getElem?_cons_zero]; rfl) (by kernel_rfl) (by kernel_rfl) (by kernel_rfl) (fun _ _ _ h => h) (Or.inl ⟨by rfl, ?_⟩) hS ?_
              rotate_left
              · intro w' hSw; (try dsimp only at hSw); go_split_ands; go_simp; (try with_reducible rfl)
              (try simp only [Act.put, List.setIfInBounds_toArray, List.set_cons_zero, List.set_cons_succ])
              refine wpAnyH_ready (rs := [8]) (by kernel_rfl) (by simp) ?_
              refine AllReadyH.cons (by simp only [List.getElem?_toArray, List.getElem?_cons_succ, List.getElem?_cons_zero]; rfl) (fun K hK => ?_) ?_
              · skip
                go_simp
                refine named_alloc ?_
                intro Wa8 hbk hb hsz
                have hsz3 := hid hsz
                have F7 := hid (show FarM k2 A3 B3 ws3.heap.size from MN.out.far (Nat.le_refl _))
                replace M9 := hid (M9.out.step hb); replace P6 := hid (P6.out.step hb); replace MN := hid (MN.out.step hb); replace HQ := hid (below_then HQ.out hb)
                have P7 := hid hbk
                clear hb hbk hsz
                have hS' : (fun W' : World => W'.cell? ⟨w.heap.size, 0, none⟩ = some (.slice A n c) ∧ W'.cell? ⟨w.heap.size, 1, none⟩ = some (.slice B k d) ∧ W'.cell? ⟨w.heap.size, 2, none⟩ = some (.bool f) ∧ W'.cell? ⟨w.heap.size + 1, 0, none⟩ = some (.int .i64 a) ∧ W'.cell? ⟨w.heap.size + 1, 1, none⟩ = some (.int .i64 p) ∧ W'.cell? ⟨w.heap.size + 1, 2, none⟩ = some (.int .u64 t)) _ := ⟨(XQPX.out.step HQ.out).cells3.1, (XQPX.out.step HQ.out).cells3.2.1, (XQPX.out.step HQ.out).cells3.2.2.1, (XQPS.out.step HQ.out).cells3.1, (XQPS.out.step HQ.out).cells3.2.1, (XQPS.out.step HQ.out).cells3.2.2.1⟩
                refine hK.out _ _ hS' (fun _ => ?_)
                clear hK K hS
                have hS := hS'
                clear hS'
                (try simp only [Act.put, List.setIfInBounds_toArray, List.set_cons_zero, List.set_cons_succ])
                refine wpAnyH_ready (rs := [9]) (by kernel_rfl) (by simp) ?_
                refine AllReadyH.cons (by simp only [List.getElem?_toArray, List.getElem?_cons_succ, List.getElem?_cons_zero]; rfl) (fun K hK => ?_) ?_
                · skip
                  obtain ⟨y00, y01, y02, yf0⟩ := P6.out.cells3
                  go_simp
                  clear y00 y01 y02 yf0
                  refine named_store3 P6.out ?_
                  intro Ws9 hbk hgr hsz
                  have hsz4 := hid hsz
                  clear hsz
                  replace P7 := hid (P7.out.grown hgr (fun e => P6.out.ne P7.out (by decide) (by simpa using e.symm)))
                  replace MN := hid (mem_kept MN.out F6.out hgr)
                  replace HQ := hid (HQ.out.grown hgr HQ.out.size (fun r e => by cases e; have := hszd.out; have := hsz0.out; have := hsz1.out; have := hsz2.out; have := hsz3.out; have := hsz4.out; omega))
                  replace P6 := hid hbk
                  clear hbk hgr
                  have hS' : (fun W' : World => W'.cell? ⟨w.heap.size, 0, none⟩ = some (.slice A n c) ∧ W'.cell? ⟨w.heap.size, 1, none⟩ = some (.slice B k d) ∧ W'.cell? ⟨w.heap.size, 2, none⟩ = some (.bool f) ∧ W'.cell? ⟨w.heap.size + 1, 0, none⟩ = some (.int .i64 a) ∧ W'.cell? ⟨w.heap.size + 1, 1, none⟩ = some (.int .i64 p) ∧ W'.cell? ⟨w.heap.size + 1, 2, none⟩ = some (.int .u64 t)) _ := ⟨(XQPX.out.step HQ.out).cells3.1, (XQPX.out.step HQ.out).cells3.2.1, (XQPX.out.step HQ.out).cells3.2.2.1, (XQPS.out.step HQ.out).cells3.1, (XQPS.out.step HQ.out).cells3.2.1, (XQPS.out.step HQ.out).cells3.2.2.1⟩
                  refine hK.out _ _ hS' (fun _ => ?_)
                  clear hK K hS
                  have hS := hS'
                  clear hS'
                  (try simp only [Act.put, List.setIfInBounds_toArray, List.set_cons_zero, List.set_cons_succ])
                  refine wpAnyH_ready (rs := [10]) (by kernel_rfl) (by simp) ?_
                  refine AllReadyH.cons (by simp only [List.getElem?_toArray, List.getElem?_cons_succ, List.getElem?_cons_zero]; rfl) (fun K hK => ?_) ?_
                  · skip
                    obtain ⟨y00, y01, y02, yf0⟩ := P7.out.cells3
                    go_simp
                    clear y00 y01 y02 yf0
                    refine named_store3 P7.out ?_
                    intro Ws10 hbk hgr hsz
                    have hsz5 := hid hsz
                    clear hsz
                    replace P6 := hid (P6.out.grown hgr (fun e => P6.out.ne P7.out (by decide) (by simpa using e)))
                    replace MN := hid (mem_kept MN.out F7.out hgr)
                    replace HQ := hid (HQ.out.grown hgr HQ.out.size (fun r e => by cases e; have := hszd.out; have := hsz0.out; have := hsz1.out; have := hsz2.out; have := hsz3.out; have := hsz4.out; have := hsz5.out; omega))
                    replace P7 := hid hbk
                    clear hbk hgr
                    have hS' : (fun W' : World => W'.cell? ⟨w.heap.size, 0, none⟩ = some (.slice A n c) ∧ W'.cell? ⟨w.heap.size, 1, none⟩ = some (.slice B k d) ∧ W'.cell? ⟨w.heap.size, 2, none⟩ = some (.bool f) ∧ W'.cell? ⟨w.heap.size + 1, 0, none⟩ = some (.int .i64 a) ∧ W'.cell? ⟨w.heap.size + 1, 1, none⟩ = some (.int .i64 p) ∧ W'.cell? ⟨w.heap.size + 1, 2, none⟩ = some (.int .u64 t)) _ := ⟨(XQPX.out.step HQ.out).cells3.1, (XQPX.out.step HQ.out).cells3.2.1, (XQPX.out.step HQ.out).cells3.2.2.1, (XQPS.out.step HQ.out).cells3.1, (XQPS.out.step HQ.out).cells3.2.1, (XQPS.out.step HQ.out).cells3.2.2.1⟩
                    refine hK.out _ _ hS' (fun _ => ?_)
                    clear hK K hS
                    have hS := hS'
                    clear hS'
                    (try simp only [Act.put, List.setIfInBounds_toArray, List.set_cons_zero, List.set_cons_succ])
                    refine wpAnyH_done (by kernel_rfl) ?_ _
                    refine NoPanic.normal ?_
                    clear hS
                    go_wp2_with fail
                    go_meet
                    exact ⟨_, _, A3, c3, B3, d3, rfl, rfl, ⟨P6.out, P7.out, MN.out, HQ.out⟩⟩
                  exact AllReadyH.nil
                exact AllReadyH.nil
              exact AllReadyH.nil
            refine AllReadyH.cons (by simp only [List.getElem?_toArray, List.getElem?_cons_succ, List.getElem?_cons_zero]; rfl) (fun K hK => ?_) ?_
            · skip
              go_simp
              refine named_alloc ?_
              intro Wa8 hbk hb hsz
              have hsz2 := hid hsz
              have F70 := hid (show FarM k2 A9 B9 Wa7.heap.size from M9.out.far (Nat.le_refl _))
              replace M9 := hid (M9.out.step hb); replace P6 := hid (P6.out.step hb); replace HQ := hid (below_then HQ.out hb)
              have P7 := hid hbk
              clear hb hbk hsz
              have hS' : (fun W' : World => W'.cell? ⟨w.heap.size, 0, none⟩ = some (.slice A n c) ∧ W'.cell? ⟨w.heap.size, 1, none⟩ = some (.slice B k d) ∧ W'.cell? ⟨w.heap.size, 2, none⟩ = some (.bool f) ∧ W'.cell? ⟨w.heap.size + 1, 0, none⟩ = some (.int .i64 a) ∧ W'.cell? ⟨w.heap.size + 1, 1, none⟩ = some (.int .i64 p) ∧ W'.cell? ⟨w.heap.size + 1, 2, none⟩ = some (.int .u64 t)) _ := ⟨(XQPX.out.step HQ.out).cells3.1, (XQPX.out.step HQ.out).cells3.2.1, (XQPX.out.step HQ.out).cells3.2.2.1, (XQPS.out.step HQ.out).cells3.1, (XQPS.out.step HQ.out).cells3.2.1, (XQPS.out.step HQ.out).cells3.2.2.1⟩
              refine hK.out _ _ hS' (fun _ => ?_)
              clear hK K hS
              have hS := hS'
              clear hS'
              (try simp only [Act.put, List.setIfInBounds_toArray, List.set_cons_zero, List.set_cons_succ])
              refine wpAnyH_ready (rs := [3]) (by kernel_rfl) (by simp) ?_
              refine AllReadyH.cons (by simp only [List.getElem?_toArray, List.getElem?_cons_succ, List.getElem?_cons_zero]; rfl) (fun K hK => ?_) ?_
              · skip
                go_simp
                refine (rspstep_any A9 k2 c9 B9 k2 d9 f ws ls a p t _ M9.out rfl).mono ?_
                rintro e ws3 ⟨A3, c3, B3, d3, rfl, hmn, hb, htr⟩
                have hsz3 := hid (show Wa8.heap.size ≤ ws3.heap.size from hb.size)
                replace M9 := hid (M9.out.step hb); replace P6 := hid (P6.out.step hb); replace P7 := hid (P7.out.step hb); replace HQ := hid (below_then HQ.out hb)
                clear hb
                rw [← HRS.out] at hmn ⊢
                dsimp only at hmn ⊢
                have MN := hid hmn
                have F6 := hid (htr _ (by have := hszd.out; have := hsz0.out; have := hsz1.out; have := hsz2.out; omega) F60.out)
                have F7 := hid (htr _ (by have := hszd.out; have := hsz0.out; have := hsz1.out; have := hsz2.out; omega) F70.out)
                clear hmn htr
                go_wp2_with fail
                have hS' : (fun W' : World => W'.cell? ⟨w.heap.size, 0, none⟩ = some (.slice A n c) ∧ W'.cell? ⟨w.heap.size, 1, none⟩ = some (.slice B k d) ∧ W'.cell? ⟨w.heap.size, 2, none⟩ = some (.bool f) ∧ W'.cell? ⟨w.heap.size + 1, 0, none⟩ = some (.int .i64 a) ∧ W'.cell? ⟨w.heap.size + 1, 1, none⟩ = some (.int .i64 p) ∧ W'.cell? ⟨w.heap.size + 1, 2, none⟩ = some (.int .u64 t)) _ := ⟨(XQPX.out.step HQ.out).cells3.1, (XQPX.out.step HQ.out).cells3.2.1, (XQPX.out.step HQ.out).cells3.2.2.1, (XQPS.out.step HQ.out).cells3.1, (XQPS.out.step HQ.out).cells3.2.1, (XQPS.out.step HQ.out).cells3.2.2.1⟩
                refine hK.out _ _ hS' (fun _ => ?_)
                clear hK K hS
                have hS := hS'
                clear hS'
                (try simp only [Act.put, List.setIfInBounds_toArray, List.set_cons_zero, List.set_cons_succ])
                refine wpAnyH_take (i := 4) (v := ?_) (by simp only [List.getElem?_toArray, List.getElem?_cons_succ, List.getElem?_cons_zero]; rfl) (by kernel_rfl) (by kernel_rfl) (by kernel_rfl) (fun _ _ _ h => h) (Or.inl ⟨by rfl, ?_⟩) hS ?_
                rotate_left
                · intro w' hSw; (try dsimp only at hSw); go_split_ands; go_simp; (try with_reducible rfl)
                (try simp only [Act.put, List.setIfInBounds_toArray, List.set_cons_zero, List.set_cons_succ])
                refine wpAnyH_take (i := 5) (v := ?_) (by simp only [List.getElem?_toArray, List.getElem?_cons_succ, List.getElem?_cons_zero]; rfl) (by kernel_rfl) (by kernel_rfl) (by kernel_rfl) (fun _ _ _ h => h) (Or.inl ⟨by rfl, ?_⟩) hS ?_
                rotate_left
                · intro w' hSw; (try dsimp only at hSw); go_split_ands; go_simp; (try with_reducible rfl)
                (try simp only [Act.put, List.setIfInBounds_toArray, List.set_cons_zero, List.set_cons_succ])
                refine wpAnyH_take (i := 6) (v := ?_) (by simp only [List.getElem?_toArray, List.getElem?_cons_succ, List.getElem?_cons_zero]; rfl) (by kernel_rfl) (by kernel_rfl) (by kernel_rfl) (fun _ _ _ h => h) (Or.inl ⟨by rfl, ?_⟩) hS ?_
                rotate_left
                · intro w' hSw; (try dsimp only at hSw); go_split_ands; go_simp; (try with_reducible rfl)
                (try simp only [Act.put, List.setIfInBounds_toArray, List.set_cons_zero, List.set_cons_succ])
                refine wpAnyH_ready (rs := [9]) (by kernel_rfl) (by simp) ?_
                refine AllReadyH.cons (by simp only [List.getElem?_toArray, List.getElem?_cons_succ, List.getElem?_cons_zero]; rfl) (fun K hK => ?_) ?_
                · skip
                  obtain ⟨y00, y01, y02, yf0⟩ := P6.out.cells3
                  go_simp
                  clear y00 y01 y02 yf0
                  refine named_store3 P6.out ?_
                  intro Ws9 hbk hgr hsz
                  have hsz4 := hid hsz
                  clear hsz
                  replace P7 := hid (P7.out.grown hgr (fun e => P6.out.ne P7.out (by decide) (by simpa using e.symm)))
                  replace MN := hid (mem_kept MN.out F6.out hgr)
                  replace HQ := hid (HQ.out.grown hgr HQ.out.size (fun r e => by cases e; have := hszd.out; have := hsz0.out; have := hsz1.out; have := hsz2.out; have := hsz3.out; have := hsz4.out; omega))
                  replace P6 := hid hbk
                  clear hbk hgr
                  have hS' : (fun W' : World => W'.cell? ⟨w.heap.size, 0, none⟩ = some (.slice A n c) ∧ W'.cell? ⟨w.heap.size, 1, none⟩ = some (.slice B k d) ∧ W'.cell? ⟨w.heap.size, 2, none⟩ = some (.bool f) ∧ W'.cell? ⟨w.heap.size + 1, 0, none⟩ = some (.int .i64 a) ∧ W'.cell? ⟨w.heap.size + 1, 1, none⟩ = some (.int .i64 p) ∧ W'.cell? ⟨w.heap.size + 1, 2, none⟩ = some (.int .u64 t)) _ := ⟨(XQPX.out.step HQ.out).cells3.1, (XQPX.out.step HQ.out).cells3.2.1, (XQPX.out.step HQ.out).cells3.2.2.1, (XQPS.out.step HQ.out).cells3.1, (XQPS.out.step HQ.out).cells3.2.1, (XQPS.out.step HQ.out).cells3.2.2.1⟩
                  refine hK.out _ _ hS' (fun _ => ?_)
                  clear hK K hS
                  have hS := hS'
                  clear hS'
                  (try simp only [Act.put, List.setIfInBounds_toArray, List.set_cons_zero, List.set_cons_succ])
                  refine wpAnyH_ready (rs := [10]) (by kernel_rfl) (by simp) ?_
                  refine AllReadyH.cons (by simp only [List.getElem?_toArray, List.getElem?_cons_succ, List.getElem?_cons_zero]; rfl) (fun K hK => ?_) ?_
                  · skip
                    obtain ⟨y00, y01, y02, yf0⟩ := P7.out.cells3
                    go_simp
                    clear y00 y01 y02 yf0
                    refine named_store3 P7.out ?_
                    intro Ws10 hbk hgr hsz
                    have hsz5 := hid hsz
                    clear hsz
                    replace P6 := hid (P6.out.grown hgr (fun e => P6.out.ne P7.out (by decide) (by simpa using e)))
                    replace MN := hid (mem_kept MN.out F7.out hgr)
                    replace HQ := hid (HQ.out.grown hgr HQ.out.size (fun r e => by cases e; have := hszd.out; have := hsz0.out; have := hsz1.out; have := hsz2.out; have := hsz3.out; have := hsz4.out; have := hsz5.out; omega))
                    replace P7 := hid hbk
                    clear hbk hgr
                    have hS' : (fun W' : World => W'.cell? ⟨w.heap.size, 0, none⟩ = some (.slice A n c) ∧ W'.cell? ⟨w.heap.size, 1, none⟩ = some (.slice B k d) ∧ W'.cell? ⟨w.heap.size, 2, none⟩ = some (.bool f) ∧ W'.cell? ⟨w.heap.size + 1, 0, none⟩ = some (.int .i64 a) ∧ W'.cell? ⟨w.heap.size + 1, 1, none⟩ = some (.int .i64 p) ∧ W'.cell? ⟨w.heap.size + 1, 2, none⟩ = some (.int .u64 t)) _ := ⟨(XQPX.out.step HQ.out).cells3.1, (XQPX.out.step HQ.out).cells3.2.1, (XQPX.out.step HQ.out).cells3.2.2.1, (XQPS.out.step HQ.out).cells3.1, (XQPS.out.step HQ.out).cells3.2.1, (XQPS.out.step HQ.out).cells3.2.2.1⟩
                    refine hK.out _ _ hS' (fun _ => ?_)
                    clear hK K hS
                    have hS := hS'
                    clear hS'
                    (try simp only [Act.put, List.setIfInBounds_toArray, List.set_cons_zero, List.set_cons_succ])
                    refine wpAnyH_done (by kernel_rfl) ?_ _
                    refine NoPanic.normal ?_
                    clear hS
                    go_wp2_with fail
                    go_meet
                    exact ⟨_, _, A3, c3, B3, d3, rfl, rfl, ⟨P6.out, P7.out, MN.out, HQ.out⟩⟩
                  exact AllReadyH.nil
                exact AllReadyH.nil
              exact AllReadyH.nil
            exact AllReadyH.nil
          refine AllReadyH.cons (by simp only [List.getElem?_toArray, List.getElem?_cons_succ, List.getElem?_cons_zero]; rfl) (fun K hK => ?_) ?_
          · skip
            go_simp
            refine named_alloc ?_
            intro Wa8 hbk hb hsz
            have hsz1 := hid hsz
            have F70 := hid (show FarM k2 A9 B9 ws1.heap.size from M9.out.far (Nat.le_refl _))
            replace M9 := hid (M9.out.step hb); replace HQ := hid (below_then HQ.out hb)
            have P7 := hid hbk
            clear hb hbk hsz
            have hS' : (fun W' : World => W'.cell? ⟨w.heap.size, 0, none⟩ = some (.slice A n c) ∧ W'.cell? ⟨w.heap.size, 1, none⟩ = some (.slice B k d) ∧ W'.cell? ⟨w.heap.size, 2, none⟩ = some (.bool f) ∧ W'.cell? ⟨w.heap.size + 1, 0, none⟩ = some (.int .i64 a) ∧ W'.cell? ⟨w.heap.size + 1, 1, none⟩ = some (.int .i64 p) ∧ W'.cell? ⟨w.heap.size + 1, 2, none⟩ = some (.int .u64 t)) _ := ⟨(XQPX.out.step HQ.out).cells3.1, (XQPX.out.step HQ.out).cells3.2.1, (XQPX.out.step HQ.out).cells3.2.2.1, (XQPS.out.step HQ.out).cells3.1, (XQPS.out.step HQ.out).cells3.2.1, (XQPS.out.step HQ.out).cells3.2.2.1⟩
            refine hK.out _ _ hS' (fun _ => ?_)
            clear hK K hS
            have hS := hS'
            clear hS'
            (try simp only [Act.put, List.setIfInBounds_toArray, List.set_cons_zero, List.set_cons_succ])
            refine wpAnyH_ready (rs := [3, 7]) (by kernel_rfl) (by simp) ?_
            refine AllReadyH.cons (by simp only [List.getElem?_toArray, List.getElem?_cons_succ, List.getElem?_cons_zero]; rfl) (fun K hK => ?_) ?_
            · skip
              go_simp
              refine (rspstep_any A9 k2 c9 B9 k2 d9 f ws ls a p t _ M9.out rfl).mono ?_
              rintro e ws3 ⟨A3, c3, B3, d3, rfl, hmn, hb, htr⟩
              have hsz2 := hid (show Wa8.heap.size ≤ ws3.heap.size from hb.size)
              replace M9 := hid (M9.out.step hb); replace P7 := hid (P7.out.step hb); replace HQ := hid (below_then HQ.out hb)
              clear hb
              rw [← HRS.out] at hmn ⊢
              dsimp only at hmn ⊢
              have MN := hid hmn
              have F7 := hid (htr _ (by have := hszd.out; have := hsz0.out; have := hsz1.out; omega) F70.out)
              clear hmn htr
              go_wp2_with fail
              have hS' : (fun W' : World => W'.cell? ⟨w.heap.size, 0, none⟩ = some (.slice A n c) ∧ W'.cell? ⟨w.heap.size, 1, none⟩ = some (.slice B k d) ∧ W'.cell? ⟨w.heap.size, 2, none⟩ = some (.bool f) ∧ W'.cell? ⟨w.heap.size + 1, 0, none⟩ = some (.int .i64 a) ∧ W'.cell? ⟨w.heap.size + 1, 1, none⟩ = some (.int .i64 p) ∧ W'.cell? ⟨w.heap.size + 1, 2, none⟩ = some (.int .u64 t)) _ := ⟨(XQPX.out.step HQ.out).cells3.1, (XQPX.out.step HQ.out).cells3.2.1, (XQPX.out.step HQ.out).cells3.2.2.1, (XQPS.out.step HQ.out).cells3.1, (XQPS.out.step HQ.out).cells3.2.1, (XQPS.out.step HQ.out).cells3.2.2.1⟩
              refine hK.out _ _ hS' (fun _ => ?_)
              clear hK K hS
              have hS := hS'
              clear hS'
              (try simp only [Act.put, List.setIfInBounds_toArray, List.set_cons_zero, List.set_cons_succ])
              refine wpAnyH_take (i := 4) (v := ?_) (by simp only [List.getElem?_toArray, List.getElem?_cons_succ, List.getElem?_cons_zero]; rfl) (by kernel_rfl) (by kernel_rfl) (by kernel_rfl) (fun _ _ _ h => h) (Or.inl ⟨by rfl, ?_⟩) hS ?_
              rotate_left
              · intro w' hSw; (try dsimp only at hSw); go_split_ands; go_simp; (try with_reducible rfl)
              (try simp only [Act.put, List.setIfInBounds_toArray, List.set_cons_zero, List.set_cons_succ])
              refine wpAnyH_take (i := 5) (v := ?_) (by simp only [List.getElem?_toArray, List.getElem?_cons_succ, List.getElem?_cons_zero]; rfl) (by kernel_rfl) (by kernel_rfl) (by kernel_rfl) (fun _ _ _ h => h) (Or.inl ⟨by rfl, ?_⟩) hS ?_
              rotate_left
              · intro w' hSw; (try dsimp only at hSw); go_split_ands; go_simp; (try with_reducible rfl)
              (try simp only [Act.put, List.setIfInBounds_toArray, List.set_cons_zero, List.set_cons_succ])
              refine wpAnyH_take (i := 6) (v := ?_) (by simp only [List.getElem?_toArray, List.getElem?_cons_succ, List.getElem?_cons_zero]; rfl) (by kernel_rfl) (by kernel_rfl) (by kernel_rfl) (fun _ _ _ h => h) (Or.inl ⟨by rfl, ?_⟩) hS ?_
              rotate_left
              · intro w' hSw; (try dsimp only at hSw); go_split_ands; go_simp; (try with_reducible rfl)
              (try simp only [Act.put, List.setIfInBounds_toArray, List.set_cons_zero, List.set_cons_succ])
              refine wpAnyH_ready (rs := [7]) (by kernel_rfl) (by simp) ?_
              refine AllReadyH.cons (by simp only [List.getElem?_toArray, List.getElem?_cons_succ, List.getElem?_cons_zero]; rfl) (fun K hK => ?_) ?_
              · skip
                go_simp
                refine named_alloc ?_
                intro Wa7 hbk hb hsz
                have hsz3 := hid hsz
                have F6 := hid (show FarM k2 A3 B3 ws3.heap.size from MN.out.far (Nat.le_refl _))
                replace M9 := hid (M9.out.step hb); replace P7 := hid (P7.out.step hb); replace MN := hid (MN.out.step hb); replace HQ := hid (below_then HQ.out hb)
                have P6 := hid hbk
                clear hb hbk hsz
                have hS' : (fun W' : World => W'.cell? ⟨w.heap.size, 0, none⟩ = some (.slice A n c) ∧ W'.cell? ⟨w.heap.size, 1, none⟩ = some (.slice B k d) ∧ W'.cell? ⟨w.heap.size, 2, none⟩ = some (.bool f) ∧ W'.cell? ⟨w.heap.size + 1, 0, none⟩ = some (.int .i64 a) ∧ W'.cell? ⟨w.heap.size + 1, 1, none⟩ = some (.int .i64 p) ∧ W'.cell? ⟨w.heap.size + 1, 2, none⟩ = some (.int .u64 t)) _ := ⟨(XQPX.out.step HQ.out).cells3.1, (XQPX.out.step HQ.out).cells3.2.1, (XQPX.out.step HQ.out).cells3.2.2.1, (XQPS.out.step HQ.out).cells3.1, (XQPS.out.step HQ.out).cells3.2.1, (XQPS.out.step HQ.out).cells3.2.2.1⟩
                refine hK.out _ _ hS' (fun _ => ?_)
                clear hK K hS
                have hS := hS'
                clear hS'
                (try simp only [Act.put, List.setIfInBounds_toArray, List.set_cons_zero, List.set_cons_succ])
                refine wpAnyH_ready (rs := [9]) (by kernel_rfl) (by simp) ?_
                refine AllReadyH.cons (by simp only [List.getElem?_toArray, List.getElem?_cons_succ, List.getElem?_cons_zero]; rfl) (fun K hK => ?_) ?_
                · skip
                  obtain ⟨y00, y01, y02, yf0⟩ := P6.out.cells3
                  go_simp
                  clear y00 y01 y02 yf0
                  refine named_store3 P6.out ?_
                  intro Ws9 hbk hgr hsz
                  have hsz4 := hid hsz
                  clear hsz
                  replace P7 := hid (P7.out.grown hgr (fun e => P6.out.ne P7.out (by decide) (by simpa using e.symm)))
                  replace MN := hid (mem_kept MN.out F6.out hgr)
                  replace HQ := hid (HQ.out.grown hgr HQ.out.size (fun r e => by cases e; have := hszd.out; have := hsz0.out; have := hsz1.out; have := hsz2.out; have := hsz3.out; have := hsz4.out; omega))
                  replace P6 := hid hbk
                  clear hbk hgr
                  have hS' : (fun W' : World => W'.cell? ⟨w.heap.size, 0, none⟩ = some (.slice A n c) ∧ W'.cell? ⟨w.heap.size, 1, none⟩ = some (.slice B k d) ∧ W'.cell? ⟨w.heap.size, 2, none⟩ = some (.bool f) ∧ W'.cell? ⟨w.heap.size + 1, 0, none⟩ = some (.int .i64 a) ∧ W'.cell? ⟨w.heap.size + 1, 1, none⟩ = some (.int .i64 p) ∧ W'.cell? ⟨w.heap.size + 1, 2, none⟩ = some (.int .u64 t)) _ := ⟨(XQPX.out.step HQ.out).cells3.1, (XQPX.out.step HQ.out).cells3.2.1, (XQPX.out.step HQ.out).cells3.2.2.1, (XQPS.out.step HQ.out).cells3.1, (XQPS.out.step HQ.out).cells3.2.1, (XQPS.out.step HQ.out).cells3.2.2.1⟩
                  refine hK.out _ _ hS' (fun _ => ?_)
                  clear hK K hS
                  have hS := hS'
                  clear hS'
                  (try simp only [Act.put, List.setIfInBounds_toArray, List.set_cons_zero, List.set_cons_succ])
                  refine wpAnyH_ready (rs := [10]) (by kernel_rfl) (by simp) ?_
                  refine AllReadyH.cons (by simp only [List.getElem?_toArray, List.getElem?_cons_succ, List.getElem?_cons_zero]; rfl) (fun K hK => ?_) ?_
                  · skip
                    obtain ⟨y00, y01, y02, yf0⟩ := P7.out.cells3
                    go_simp
                    clear y00 y01 y02 yf0
                    refine named_store3 P7.out ?_
                    intro Ws10 hbk hgr hsz
                    have hsz5 := hid hsz
                    clear hsz
                    replace P6 := hid (P6.out.grown hgr (fun e => P6.out.ne P7.out (by decide) (by simpa using e)))
                    replace MN := hid (mem_kept MN.out F7.out hgr)
                    replace HQ := hid (HQ.out.grown hgr HQ.out.size (fun r e => by cases e; have := hszd.out; have := hsz0.out; have := hsz1.out; have := hsz2.out; have := hsz3.out; have := hsz4.out; have := hsz5.out; omega))
                    replace P7 := hid hbk
                    clear hbk hgr
                    have hS' : (fun W' : World => W'.cell? ⟨w.heap.size, 0, none⟩ = some (.slice A n c) ∧ W'.cell? ⟨w.heap.size, 1, none⟩ = some (.slice B k d) ∧ W'.cell? ⟨w.heap.size, 2, none⟩ = some (.bool f) ∧ W'.cell? ⟨w.heap.size + 1, 0, none⟩ = some (.int .i64 a) ∧ W'.cell? ⟨w.heap.size + 1, 1, none⟩ = some (.int .i64 p) ∧ W'.cell? ⟨w.heap.size + 1, 2, none⟩ = some (.int .u64 t)) _ := ⟨(XQPX.out.step HQ.out).cells3.1, (XQPX.out.step HQ.out).cells3.2.1, (XQPX.out.step HQ.out).cells3.2.2.1, (XQPS.out.step HQ.out).cells3.1, (XQPS.out.step HQ.out).cells3.2.1, (XQPS.out.step HQ.out).cells3.2.2.1⟩
                    refine hK.out _ _ hS' (fun _ => ?_)
                    clear hK K hS
                    have hS := hS'
                    clear hS'
                    (try simp only [Act.put, List.setIfInBounds_toArray, List.set_cons_zero, List.set_cons_succ])
                    refine wpAnyH_done (by kernel_rfl) ?_ _
                    refine NoPanic.normal ?_
                    clear hS
                    go_wp2_with fail
                    go_meet
                    exact ⟨_, _, A3, c3, B3, d3, rfl, rfl, ⟨P6.out, P7.out, MN.out, HQ.out⟩⟩
                  exact AllReadyH.nil
                exact AllReadyH.nil
              exact AllReadyH.nil
            refine AllReadyH.cons (by simp only [List.getElem?_toArray, List.getElem?_cons_succ, List.getElem?_cons_zero]; rfl) (fun K hK => ?_) ?_
            · skip
              go_simp
              refine named_alloc ?_
              intro Wa7 hbk hb hsz
              have hsz2 := hid hsz
              have F60 := hid (show FarM k2 A9 B9 Wa8.heap.size from M9.out.far (Nat.le_refl _))
              replace M9 := hid (M9.out.step hb); replace P7 := hid (P7.out.step hb); replace HQ := hid (below_then HQ.out hb)
              have P6 := hid hbk
              clear hb hbk hsz
              have hS' : (fun W' : World => W'.cell? ⟨w.heap.size, 0, none⟩ = some (.slice A n c) ∧ W'.cell? ⟨w.heap.size, 1, none⟩ = some (.slice B k d) ∧ W'.cell? ⟨w.heap.size, 2, none⟩ = some (.bool f) ∧ W'.cell? ⟨w.heap.size + 1, 0, none⟩ = some (.int .i64 a) ∧ W'.cell? ⟨w.heap.size + 1, 1, none⟩ = some (.int .i64 p) ∧ W'.cell? ⟨w.heap.size + 1, 2, none⟩ = some (.int .u64 t)) _ := ⟨(XQPX.out.step HQ.out).cells3.1, (XQPX.out.step HQ.out).cells3.2.1, (XQPX.out.step HQ.out).cells3.2.2.1, (XQPS.out.step HQ.out).cells3.1, (XQPS.out.step HQ.out).cells3.2.1, (XQPS.out.step HQ.out).cells3.2.2.1⟩
              refine hK.out _ _ hS' (fun _ => ?_)
              clear hK K hS
              have hS := hS'
              clear hS'
              (try simp only [Act.put, List.setIfInBounds_toArray, List.set_cons_zero, List.set_cons_succ])
              refine wpAnyH_ready (rs := [3]) (by kernel_rfl) (by simp) ?_
              refine AllReadyH.cons (by simp only [List.getElem?_toArray, List.getElem?_cons_succ, List.getElem?_cons_zero]; rfl) (fun K hK => ?_) ?_
              · skip
                go_simp
                refine (rspstep_any A9 k2 c9 B9 k2 d9 f ws ls a p t _ M9.out rfl).mono ?_
                rintro e ws3 ⟨A3, c3, B3, d3, rfl, hmn, hb, htr⟩
                have hsz3 := hid (show Wa7.heap.size ≤ ws3.heap.size from hb.size)
                replace M9 := hid (M9.out.step hb); replace P7 := hid (P7.out.step hb); replace P6 := hid (P6.out.step hb); replace HQ := hid (below_then HQ.out hb)
                clear hb
                rw [← HRS.out] at hmn ⊢
                dsimp only at hmn ⊢
                have MN := hid hmn
                have F6 := hid (htr _ (by have := hszd.out; have := hsz0.out; have := hsz1.out; have := hsz2.out; omega) F60.out)
                have F7 := hid (htr _ (by have := hszd.out; have := hsz0.out; have := hsz1.out; have := hsz2.out; omega) F70.out)
                clear hmn htr
                go_wp2_with fail
                have hS' : (fun W' : World => W'.cell? ⟨w.heap.size, 0, none⟩ = some (.slice A n c) ∧ W'.cell? ⟨w.heap.size, 1, none⟩ = some (.slice B k d) ∧ W'.cell? ⟨w.heap.size, 2, none⟩ = some (.bool f) ∧ W'.cell? ⟨w.heap.size + 1, 0, none⟩ = some (.int .i64 a) ∧ W'.cell? ⟨w.heap.size + 1, 1, none⟩ = some (.int .i64 p) ∧ W'.cell? ⟨w.heap.size + 1, 2, none⟩ = some (.int .u64 t)) _ := ⟨(XQPX.out.step HQ.out).cells3.1, (XQPX.out.step HQ.out).cells3.2.1, (XQPX.out.step HQ.out).cells3.2.2.1, (XQPS.out.step HQ.out).cells3.1, (XQPS.out.step HQ.out).cells3.2.1, (XQPS.out.step HQ.out).cells3.2.2.1⟩
                refine hK.out _ _ hS' (fun _ => ?_)
                clear hK K hS
                have hS := hS'
                clear hS'
                (try simp only [Act.put, List.setIfInBounds_toArray, List.set_cons_zero, List.set_cons_succ])
                refine wpAnyH_take (i := 4) (v := ?_) (by simp only [List.getElem?_toArray, List.getElem?_cons_succ, List.getElem?_cons_zero]; rfl) (by kernel_rfl) (by kernel_rfl) (by kernel_rfl) (fun _ _ _ h => h) (Or.inl ⟨by rfl, ?_⟩) hS ?_
                rotate_left
                · intro w' hSw; (try dsimp only at hSw); go_split_ands; go_simp; (try with_reducible rfl)
                (try simp only [Act.put, List.setIfInBounds_toArray, List.set_cons_zero, List.set_cons_succ])
                refine wpAnyH_take (i := 5) (v := ?_) (by simp only [List.getElem?_toArray, List.getElem?_cons_succ, List.getElem?_cons_zero]; rfl) (by kernel_rfl) (by kernel_rfl) (by kernel_rfl) (fun _ _ _ h => h) (Or.inl ⟨by rfl, ?_⟩) hS ?_
                rotate_left
                · intro w' hSw; (try dsimp only at hSw); go_split_ands; go_simp; (try with_reducible rfl)
                (try simp only [Act.put, List.setIfInBounds_toArray, List.set_cons_zero, List.set_cons_succ])
                refine wpAnyH_take (i := 6) (v := ?_) (by simp only [List.getElem?_toArray, List.getElem?_cons_succ, List.getElem?_cons_zero]; rfl) (by kernel_rfl) (by kernel_rfl) (by kernel_rfl) (fun _ _ _ h => h) (Or.inl ⟨by rfl, ?_⟩) hS ?_
                rotate_left
                · intro w' hSw; (try dsimp only at hSw); go_split_ands; go_simp; (try with_reducible rfl)
                (try simp only [Act.put, List.setIfInBounds_toArray, List.set_cons_zero, List.set_cons_succ])
                refine wpAnyH_ready (rs := [9]) (by kernel_rfl) (by simp) ?_
                refine AllReadyH.cons (by simp only [List.getElem?_toArray, List.getElem?_cons_succ, List.getElem?_cons_zero]; rfl) (fun K hK => ?_) ?_
                · skip
                  obtain ⟨y00, y01, y02, yf0⟩ := P6.out.cells3
                  go_simp
                  clear y00 y01 y02 yf0
                  refine named_store3 P6.out ?_
                  intro Ws9 hbk hgr hsz
                  have hsz4 := hid hsz
                  clear hsz
                  replace P7 := hid (P7.out.grown hgr (fun e => P6.out.ne P7.out (by decide) (by simpa using e.symm)))
                  replace MN := hid (mem_kept MN.out F6.out hgr)
                  replace HQ := hid (HQ.out.grown hgr HQ.out.size (fun r e => by cases e; have := hszd.out; have := hsz0.out; have := hsz1.out; have := hsz2.out; have := hsz3.out; have := hsz4.out; omega))
                  replace P6 := hid hbk
                  clear hbk hgr
                  have hS' : (fun W' : World => W'.cell? ⟨w.heap.size, 0, none⟩ = some (.slice A n c) ∧ W'.cell? ⟨w.heap.size, 1, none⟩ = some (.slice B k d) ∧ W'.cell? ⟨w.heap.size, 2, none⟩ = some (.bool f) ∧ W'.cell? ⟨w.heap.size + 1, 0, none⟩ = some (.int .i64 a) ∧ W'.cell? ⟨w.heap.size + 1, 1, none⟩ = some (.int .i64 p) ∧ W'.cell? ⟨w.heap.size + 1, 2, none⟩ = some (.int .u64 t)) _ := ⟨(XQPX.out.step HQ.out).cells3.1, (XQPX.out.step HQ.out).cells3.2.1, (XQPX.out.step HQ.out).cells3.2.2.1, (XQPS.out.step HQ.out).cells3.1, (XQPS.out.step HQ.out).cells3.2.1, (XQPS.out.step HQ.out).cells3.2.2.1⟩
                  refine hK.out _ _ hS' (fun _ => ?_)
                  clear hK K hS
                  have hS := hS'
                  clear hS'
                  (try simp only [Act.put, List.setIfInBounds_toArray, List.set_cons_zero, List.set_cons_succ])
                  refine wpAnyH_ready (rs := [10]) (by kernel_rfl) (by simp) ?_
                  refine AllReadyH.cons (by simp only [List.getElem?_toArray, List.getElem?_cons_succ, List.getElem?_cons_zero]; rfl) (fun K hK => ?_) ?_
                  · skip
                    obtain ⟨y00, y01, y02, yf0⟩ := P7.out.cells3
                    go_simp
                    clear y00 y01 y02 yf0
                    refine named_store3 P7.out ?_
                    intro Ws10 hbk hgr hsz
                    have hsz5 := hid hsz
                    clear hsz
                    replace P6 := hid (P6.out.grown hgr (fun e => P6.out.ne P7.out (by decide) (by simpa using e)))
                    replace MN := hid (mem_kept MN.out F7.out hgr)
                    replace HQ := hid (HQ.out.grown hgr HQ.out.size (fun r e => by cases e; have := hszd.out; have := hsz0.out; have := hsz1.out; have := hsz2.out; have := hsz3.out; have := hsz4.out; have := hsz5.out; omega))
                    replace P7 := hid hbk
                    clear hbk hgr
                    have hS' : (fun W' : World => W'.cell? ⟨w.heap.size, 0, none⟩ = some (.slice A n c) ∧ W'.cell? ⟨w.heap.size, 1, none⟩ = some (.slice B k d) ∧ W'.cell? ⟨w.heap.size, 2, none⟩ = some (.bool f) ∧ W'.cell? ⟨w.heap.size + 1, 0, none⟩ = some (.int .i64 a) ∧ W'.cell? ⟨w.heap.size + 1, 1, none⟩ = some (.int .i64 p) ∧ W'.cell? ⟨w.heap.size + 1, 2, none⟩ = some (.int .u64 t)) _ := ⟨(XQPX.out.step HQ.out).cells3.1, (XQPX.out.step HQ.out).cells3.2.1, (XQPX.out.step HQ.out).cells3.2.2.1, (XQPS.out.step HQ.out).cells3.1, (XQPS.out.step HQ.out).cells3.2.1, (XQPS.out.step HQ.out).cells3.2.2.1⟩
                    refine hK.out _ _ hS' (fun _ => ?_)
                    clear hK K hS
                    have hS := hS'
                    clear hS'
                    (try simp only [Act.put, List.setIfInBounds_toArray, List.set_cons_zero, List.set_cons_succ])
                    refine wpAnyH_done (by kernel_rfl) ?_ _
                    refine NoPanic.normal ?_
                    clear hS
                    go_wp2_with fail
                    go_meet
                    exact ⟨_, _, A3, c3, B3, d3, rfl, rfl, ⟨P6.out, P7.out, MN.out, HQ.out⟩⟩
                  exact AllReadyH.nil
                exact AllReadyH.nil
              exact AllReadyH.nil
            exact AllReadyH.nil
          exact AllReadyH.nil
        refine AllReadyH.cons (by simp only [List.getElem?_toArray, List.getElem?_cons_succ, List.getElem?_cons_zero]; rfl) (fun K hK => ?_) ?_
        · skip
          go_simp
          refine named_alloc ?_
          intro Wa7 hbk hb hsz
          have hsz0 := hid hsz

          replace HQ := hid (below_then HQ.out hb)
          have P6 := hid hbk
          clear hb hbk hsz
          have hS' : (fun W' : World => W'.cell? ⟨w.heap.size, 0, none⟩ = some (.slice A n c) ∧ W'.cell? ⟨w.heap.size, 1, none⟩ = some (.slice B k d) ∧ W'.cell? ⟨w.heap.size, 2, none⟩ = some (.bool f) ∧ W'.cell? ⟨w.heap.size + 1, 0, none⟩ = some (.int .i64 a) ∧ W'.cell? ⟨w.heap.size + 1, 1, none⟩ = some (.int .i64 p) ∧ W'.cell? ⟨w.heap.size + 1, 2, none⟩ = some (.int .u64 t)) _ := ⟨(XQPX.out.step HQ.out).cells3.1, (XQPX.out.step HQ.out).cells3.2.1, (XQPX.out.step HQ.out).cells3.2.2.1, (XQPS.out.step HQ.out).cells3.1, (XQPS.out.step HQ.out).cells3.2.1, (XQPS.out.step HQ.out).cells3.2.2.1⟩
          refine hK.out _ _ hS' (fun _ => ?_)
          clear hK K hS
          have hS := hS'
          clear hS'
          (try simp only [Act.put, List.setIfInBounds_toArray, List.set_cons_zero, List.set_cons_succ])
          refine wpAnyH_ready (rs := [1, 8]) (by kernel_rfl) (by simp) ?_
          refine AllReadyH.cons (by simp only [List.getElem?_toArray, List.getElem?_cons_succ, List.getElem?_cons_zero]; rfl) (fun K hK => ?_) ?_
          · skip
            go_simp
            refine (lown_r A n c B k d f xs ys _ (XQX.out.step HQ.out) (XQY.out.step HQ.out) hnc hkd).mono ?_
            rintro e ws1 ⟨A9, n9, c9, B9, k9, d9, rfl, oa, ob, hb, hn9, hk9⟩
            have hsz1 := hid (show Wa7.heap.size ≤ ws1.heap.size from hb.size)
            replace P6 := hid (P6.out.step hb); replace HQ := hid (below_then HQ.out hb)
            clear hb
            rw [← HWS.out] at oa
            rw [← HLS.out] at ob
            obtain rfl : k2 = n9 := by rw [← oa.len]; exact M2.out.lenx.symm
            obtain rfl : k2 = k9 := by rw [← ob.len]; exact hl3.out.symm
            have M9 := hid (Mem.ofOw oa ob (by omega) (by omega))
            have F60 := hid (farM_own oa ob P6.out (by have := hszd.out; have := hsz0.out; omega))
            clear oa ob
            go_wp2_with fail
            have hS' : (fun W' : World => W'.cell? ⟨w.heap.size, 0, none⟩ = some (.slice A n c) ∧ W'.cell? ⟨w.heap.size, 1, none⟩ = some (.slice B k d) ∧ W'.cell? ⟨w.heap.size, 2, none⟩ = some (.bool f) ∧ W'.cell? ⟨w.heap.size + 1, 0, none⟩ = some (.int .i64 a) ∧ W'.cell? ⟨w.heap.size + 1, 1, none⟩ = some (.int .i64 p) ∧ W'.cell? ⟨w.heap.size + 1, 2, none⟩ = some (.int .u64 t)) _ := ⟨(XQPX.out.step HQ.out).cells3.1, (XQPX.out.step HQ.out).cells3.2.1, (XQPX.out.step HQ.out).cells3.2.2.1, (XQPS.out.step HQ.out).cells3.1, (XQPS.out.step HQ.out).cells3.2.1, (XQPS.out.step HQ.out).cells3.2.2.1⟩
            refine hK.out _ _ hS' (fun _ => ?_)
            clear hK K hS
            have hS := hS'
            clear hS'
            (try simp only [Act.put, List.setIfInBounds_toArray, List.set_cons_zero, List.set_cons_succ])
            refine wpAnyH_ready (rs := [3, 8]) (by kernel_rfl) (by simp) ?_
            refine AllReadyH.cons (by simp only [List.getElem?_toArray, List.getElem?_cons_succ, List.getElem?_cons_zero]; rfl) (fun K hK => ?_) ?_
            · skip
              go_simp
              refine (rspstep_any A9 k2 c9 B9 k2 d9 f ws ls a p t _ M9.out rfl).mono ?_
              rintro e ws3 ⟨A3, c3, B3, d3, rfl, hmn, hb, htr⟩
              have hsz2 := hid (show ws1.heap.size ≤ ws3.heap.size from hb.size)
              replace P6 := hid (P6.out.step hb); replace M9 := hid (M9.out.step hb); replace HQ := hid (below_then HQ.out hb)
              clear hb
              rw [← HRS.out] at hmn ⊢
              dsimp only at hmn ⊢
              have MN := hid hmn
              have F6 := hid (htr _ (by have := hszd.out; have := hsz0.out; have := hsz1.out; omega) F60.out)
              clear hmn htr
              go_wp2_with fail
              have hS' : (fun W' : World => W'.cell? ⟨w.heap.size, 0, none⟩ = some (.slice A n c) ∧ W'.cell? ⟨w.heap.size, 1, none⟩ = some (.slice B k d) ∧ W'.cell? ⟨w.heap.size, 2, none⟩ = some (.bool f) ∧ W'.cell? ⟨w.heap.size + 1, 0, none⟩ = some (.int .i64 a) ∧ W'.cell? ⟨w.heap.size + 1, 1, none⟩ = some (.int .i64 p) ∧ W'.cell? ⟨w.heap.size + 1, 2, none⟩ = some (.int .u64 t)) _ := ⟨(XQPX.out.step HQ.out).cells3.1, (XQPX.out.step HQ.out).cells3.2.1, (XQPX.out.step HQ.out).cells3.2.2.1, (XQPS.out.step HQ.out).cells3.1, (XQPS.out.step HQ.out).cells3.2.1, (XQPS.out.step HQ.out).cells3.2.2.1⟩
              refine hK.out _ _ hS' (fun _ => ?_)
              clear hK K hS
              have hS := hS'
              clear hS'
              (try simp only [Act.put, List.setIfInBounds_toArray, List.set_cons_zero, List.set_cons_succ])
              refine wpAnyH_take (i := 4) (v := ?_) (by simp only [List.getElem?_toArray, List.getElem?_cons_succ, List.getElem?_cons_zero]; rfl) (by kernel_rfl) (by kernel_rfl) (by kernel_rfl) (fun _ _ _ h => h) (Or.inl ⟨by rfl, ?_⟩) hS ?_
              rotate_left
              · intro w' hSw; (try dsimp only at hSw); go_split_ands; go_simp; (try with_reducible rfl)
              (try simp only [Act.put, List.setIfInBounds_toArray, List.set_cons_zero, List.set_cons_succ])
              refine wpAnyH_take (i := 5) (v := ?_) (by simp only [List.getElem?_toArray, List.getElem?_cons_succ, List.getElem?_cons_zero]; rfl) (by kernel_rfl) (by kernel_rfl) (by kernel_rfl) (fun _ _ _ h => h) (Or.inl ⟨by rfl, ?_⟩) hS ?_
              rotate_left
              · intro w' hSw; (try dsimp only at hSw); go_split_ands; go_simp; (try with_reducible rfl)
              (try simp only [Act.put, List.setIfInBounds_toArray, List.set_cons_zero, List.set_cons_succ])
              refine wpAnyH_take (i := 6) (v := ?_) (by simp only [List.getElem?_toArray, List.getElem?_cons_succ, List.getElem?_cons_zero]; rfl) (by kernel_rfl) (by kernel_rfl) (by kernel_rfl) (fun _ _ _ h => h) (Or.inl ⟨by rfl, ?_⟩) hS ?_
              rotate_left
              · intro w' hSw; (try dsimp only at hSw); go_split_ands; go_simp; (try with_reducible rfl)
              (try simp only [Act.put, List.setIfInBounds_toArray, List.set_cons_zero, List.set_cons_succ])
              refine wpAnyH_ready (rs := [8]) (by kernel_rfl) (by simp) ?_
              refine AllReadyH.cons (by simp only [List.getElem?_toArray, List.getElem?_cons_succ, List.getElem?_cons_zero]; rfl) (fun K hK => ?_) ?_
              · skip
                go_simp
                refine named_alloc ?_
                intro Wa8 hbk hb hsz
                have hsz3 := hid hsz
                have F7 := hid (show FarM k2 A3 B3 ws3.heap.size from MN.out.far (Nat.le_refl _))
                replace P6 := hid (P6.out.step hb); replace M9 := hid (M9.out.step hb); replace MN := hid (MN.out.step hb); replace HQ := hid (below_then HQ.out hb)
                have P7 := hid hbk
                clear hb hbk hsz
                have hS' : (fun W' : World => W'.cell? ⟨w.heap.size, 0, none⟩ = some (.slice A n c) ∧ W'.cell? ⟨w.heap.size, 1, none⟩ = some (.slice B k d) ∧ W'.cell? ⟨w.heap.size, 2, none⟩ = some (.bool f) ∧ W'.cell? ⟨w.heap.size + 1, 0, none⟩ = some (.int .i64 a) ∧ W'.cell? ⟨w.heap.size + 1, 1, none⟩ = some (.int .i64 p) ∧ W'.cell? ⟨w.heap.size + 1, 2, none⟩ = some (.int .u64 t)) _ := ⟨(XQPX.out.step HQ.out).cells3.1, (XQPX.out.step HQ.out).cells3.2.1, (XQPX.out.step HQ.out).cells3.2.2.1, (XQPS.out.step HQ.out).cells3.1, (XQPS.out.step HQ.out).cells3.2.1, (XQPS.out.step HQ.out).cells3.2.2.1⟩
                refine hK.out _ _ hS' (fun _ => ?_)
                clear hK K hS
                have hS := hS'
                clear hS'
                (try simp only [Act.put, List.setIfInBounds_toArray, List.set_cons_zero, List.set_cons_succ])
                refine wpAnyH_ready (rs := [9]) (by kernel_rfl) (by simp) ?_
                refine AllReadyH.cons (by simp only [List.getElem?_toArray, List.getElem?_cons_succ, List.getElem?_cons_zero]; rfl) (fun K hK => ?_) ?_
                · skip
                  obtain ⟨y00, y01, y02, yf0⟩ := P6.out.cells3
                  go_simp
                  clear y00 y01 y02 yf0
                  refine named_store3 P6.out ?_
                  intro Ws9 hbk hgr hsz
                  have hsz4 := hid hsz
                  clear hsz
                  replace P7 := hid (P7.out.grown hgr (fun e => P6.out.ne P7.out (by decide) (by simpa using e.symm)))
                  replace MN := hid (mem_kept MN.out F6.out hgr)
                  replace HQ := hid (HQ.out.grown hgr HQ.out.size (fun r e => by cases e; have := hszd.out; have := hsz0.out; have := hsz1.out; have := hsz2.out; have := hsz3.out; have := hsz4.out; omega))
                  replace P6 := hid hbk
                  clear hbk hgr
                  have hS' : (fun W' : World => W'.cell? ⟨w.heap.size, 0, none⟩ = some (.slice A n c) ∧ W'.cell? ⟨w.heap.size, 1, none⟩ = some (.slice B k d) ∧ W'.cell? ⟨w.heap.size, 2, none⟩ = some (.bool f) ∧ W'.cell? ⟨w.heap.size + 1, 0, none⟩ = some (.int .i64 a) ∧ W'.cell? ⟨w.heap.size + 1, 1, none⟩ = some (.int .i64 p) ∧ W'.cell? ⟨w.heap.size + 1, 2, none⟩ = some (.int .u64 t)) _ := ⟨(XQPX.out.step HQ.out).cells3.1, (XQPX.out.step HQ.out).cells3.2.1, (XQPX.out.step HQ.out).cells3.2.2.1, (XQPS.out.step HQ.out).cells3.1, (XQPS.out.step HQ.out).cells3.2.1, (XQPS.out.step HQ.out).cells3.2.2.1⟩
                  refine hK.out _ _ hS' (fun _ => ?_)
                  clear hK K hS
                  have hS := hS'
                  clear hS'
                  (try simp only [Act.put, List.setIfInBounds_toArray, List.set_cons_zero, List.set_cons_succ])
                  refine wpAnyH_ready (rs := [10]) (by kernel_rfl) (by simp) ?_
                  refine AllReadyH.cons (by simp only [List.getElem?_toArray, List.getElem?_cons_succ, List.getElem?_cons_zero]; rfl) (fun K hK => ?_) ?_
                  · skip
                    obtain ⟨y00, y01, y02, yf0⟩ := P7.out.cells3
                    go_simp
                    clear y00 y01 y02 yf0
                    refine named_store3 P7.out ?_
                    intro Ws10 hbk hgr hsz
                    have hsz5 := hid hsz
                    clear hsz
                    replace P6 := hid (P6.out.grown hgr (fun e => P6.out.ne P7.out (by decide) (by simpa using e)))
                    replace MN := hid (mem_kept MN.out F7.out hgr)
                    replace HQ := hid (HQ.out.grown hgr HQ.out.size (fun r e => by cases e; have := hszd.out; have := hsz0.out; have := hsz1.out; have := hsz2.out; have := hsz3.out; have := hsz4.out; have := hsz5.out; omega))
                    replace P7 := hid hbk
                    clear hbk hgr
                    have hS' : (fun W' : World => W'.cell? ⟨w.heap.size, 0, none⟩ = some (.slice A n c) ∧ W'.cell? ⟨w.heap.size, 1, none⟩ = some (.slice B k d) ∧ W'.cell? ⟨w.heap.size, 2, none⟩ = some (.bool f) ∧ W'.cell? ⟨w.heap.size + 1, 0, none⟩ = some (.int .i64 a) ∧ W'.cell? ⟨w.heap.size + 1, 1, none⟩ = some (.int .i64 p) ∧ W'.cell? ⟨w.heap.size + 1, 2, none⟩ = some (.int .u64 t)) _ := ⟨(XQPX.out.step HQ.out).cells3.1, (XQPX.out.step HQ.out).cells3.2.1, (XQPX.out.step HQ.out).cells3.2.2.1, (XQPS.out.step HQ.out).cells3.1, (XQPS.out.step HQ.out).cells3.2.1, (XQPS.out.step HQ.out).cells3.2.2.1⟩
                    refine hK.out _ _ hS' (fun _ => ?_)
                    clear hK K hS
                    have hS := hS'
                    clear hS'
                    (try simp only [Act.put, List.setIfInBounds_toArray, List.set_cons_zero, List.set_cons_succ])
                    refine wpAnyH_done (by kernel_rfl) ?_ _
                    refine NoPanic.normal ?_
                    clear hS
                    go_wp2_with fail
                    go_meet
                    exact ⟨_, _, A3, c3, B3, d3, rfl, rfl, ⟨P6.out, P7.out, MN.out, HQ.out⟩⟩
                  exact AllReadyH.nil
                exact AllReadyH.nil
              exact AllReadyH.nil
            refine AllReadyH.cons (by simp only [List.getElem?_toArray, List.getElem?_cons_succ, List.getElem?_cons_zero]; rfl) (fun K hK => ?_) ?_
            · skip
              go_simp
              refine named_alloc ?_
              intro Wa8 hbk hb hsz
              have hsz2 := hid hsz
              have F70 := hid (show FarM k2 A9 B9 ws1.heap.size from M9.out.far (Nat.le_refl _))
              replace P6 := hid (P6.out.step hb); replace M9 := hid (M9.out.step hb); replace HQ := hid (below_then HQ.out hb)
              have P7 := hid hbk
              clear hb hbk hsz
              have hS' : (fun W' : World => W'.cell? ⟨w.heap.size, 0, none⟩ = some (.slice A n c) ∧ W'.cell? ⟨w.heap.size, 1, none⟩ = some (.slice B k d) ∧ W'.cell? ⟨w.heap.size, 2, none⟩ = some (.bool f) ∧ W'.cell? ⟨w.heap.size + 1, 0, none⟩ = some (.int .i64 a) ∧ W'.cell? ⟨w.heap.size + 1, 1, none⟩ = some (.int .i64 p) ∧ W'.cell? ⟨w.heap.size + 1, 2, none⟩ = some (.int .u64 t)) _ := ⟨(XQPX.out.step HQ.out).cells3.1, (XQPX.out.step HQ.out).cells3.2.1, (XQPX.out.step HQ.out).cells3.2.2.1, (XQPS.out.step HQ.out).cells3.1, (XQPS.out.step HQ.out).cells3.2.1, (XQPS.out.step HQ.out).cells3.2.2.1⟩
              refine hK.out _ _ hS' (fun _ => ?_)
              clear hK K hS
              have hS := hS'
              clear hS'
              (try simp only [Act.put, List.setIfInBounds_toArray, List.set_cons_zero, List.set_cons_succ])
              refine wpAnyH_ready (rs := [3]) (by kernel_rfl) (by simp) ?_
              refine AllReadyH.cons (by simp only [List.getElem?_toArray, List.getElem?_cons_succ, List.getElem?_cons_zero]; rfl) (fun K hK => ?_) ?_
              · skip
                go_simp
                refine (rspstep_any A9 k2 c9 B9 k2 d9 f ws ls a p t _ M9.out rfl).mono ?_
                rintro e ws3 ⟨A3, c3, B3, d3, rfl, hmn, hb, htr⟩
                have hsz3 := hid (show Wa8.heap.size ≤ ws3.heap.size from hb.size)
                replace P6 := hid (P6.out.step hb); replace M9 := hid (M9.out.step hb); replace P7 := hid (P7.out.step hb); replace HQ := hid (below_then HQ.out hb)
                clear hb
                rw [← HRS.out] at hmn ⊢
                dsimp only at hmn ⊢
                have MN := hid hmn
                have F6 := hid (htr _ (by have := hszd.out; have := hsz0.out; have := hsz1.out; have := hsz2.out; omega) F60.out)
                have F7 := hid (htr _ (by have := hszd.out; have := hsz0.out; have := hsz1.out; have := hsz2.out; omega) F70.out)
                clear hmn htr
                go_wp2_with fail
                have hS' : (fun W' : World => W'.cell? ⟨w.heap.size, 0, none⟩ = some (.slice A n c) ∧ W'.cell? ⟨w.heap.size, 1, none⟩ = some (.slice B k d) ∧ W'.cell? ⟨w.heap.size, 2, none⟩ = some (.bool f) ∧ W'.cell? ⟨w.heap.size + 1, 0, none⟩ = some (.int .i64 a) ∧ W'.cell? ⟨w.heap.size + 1, 1, none⟩ = some (.int .i64 p) ∧ W'.cell? ⟨w.heap.size + 1, 2, none⟩ = some (.int .u64 t)) _ := ⟨(XQPX.out.step HQ.out).cells3.1, (XQPX.out.step HQ.out).cells3.2.1, (XQPX.out.step HQ.out).cells3.2.2.1, (XQPS.out.step HQ.out).cells3.1, (XQPS.out.step HQ.out).cells3.2.1, (XQPS.out.step HQ.out).cells3.2.2.1⟩
                refine hK.out _ _ hS' (fun _ => ?_)
                clear hK K hS
                have hS := hS'
                clear hS'
                (try simp only [Act.put, List.setIfInBounds_toArray, List.set_cons_zero, List.set_cons_succ])
                refine wpAnyH_take (i := 4) (v := ?_) (by simp only [List.getElem?_toArray, List.getElem?_cons_succ, List.getElem?_cons_zero]; rfl) (by kernel_rfl) (by kernel_rfl) (by kernel_rfl) (fun _ _ _ h => h) (Or.inl ⟨by rfl, ?_⟩) hS ?_
                rotate_left
                · intro w' hSw; (try dsimp only at hSw); go_split_ands; go_simp; (try with_reducible rfl)
                (try simp only [Act.put, List.setIfInBounds_toArray, List.set_cons_zero, List.set_cons_succ])
                refine wpAnyH_take (i := 5) (v := ?_) (by simp only [List.getElem?_toArray, List.getElem?_cons_succ, List.getElem?_cons_zero]; rfl) (by kernel_rfl) (by kernel_rfl) (by kernel_rfl) (fun _ _ _ h => h) (Or.inl ⟨by rfl, ?_⟩) hS ?_
                rotate_left
                · intro w' hSw; (try dsimp only at hSw); go_split_ands; go_simp; (try with_reducible rfl)
                (try simp only [Act.put, List.setIfInBounds_toArray, List.set_cons_zero, List.set_cons_succ])
                refine wpAnyH_take (i := 6) (v := ?_) (by simp only [List.getElem?_toArray, List.getElem?_cons_succ, List.getElem?_cons_zero]; rfl) (by kernel_rfl) (by kernel_rfl) (by kernel_rfl) (fun _ _ _ h => h) (Or.inl ⟨by rfl, ?_⟩) hS ?_
                rotate_left
                · intro w' hSw; (try dsimp only at hSw); go_split_ands; go_simp; (try with_reducible rfl)
                (try simp only [Act.put, List.setIfInBounds_toArray, List.set_cons_zero, List.set_cons_succ])
                refine wpAnyH_ready (rs := [9]) (by kernel_rfl) (by simp) ?_
                refine AllReadyH.cons (by simp only [List.getElem?_toArray, List.getElem?_cons_succ, List.getElem?_cons_zero]; rfl) (fun K hK => ?_) ?_
                · skip
                  obtain ⟨y00, y01, y02, yf0⟩ := P6.out.cells3
                  go_simp
                  clear y00 y01 y02 yf0
                  refine named_store3 P6.out ?_
                  intro Ws9 hbk hgr hsz
                  have hsz4 := hid hsz
                  clear hsz
                  replace P7 := hid (P7.out.grown hgr (fun e => P6.out.ne P7.out (by decide) (by simpa using e.symm)))
                  replace MN := hid (mem_kept MN.out F6.out hgr)
                  replace HQ := hid (HQ.out.grown hgr HQ.out.size (fun r e => by cases e; have := hszd.out; have := hsz0.out; have := hsz1.out; have := hsz2.out; have := hsz3.out; have := hsz4.out; omega))
                  replace P6 := hid hbk
                  clear hbk hgr
                  have hS' : (fun W' : World => W'.cell? ⟨w.heap.size, 0, none⟩ = some (.slice A n c) ∧ W'.cell? ⟨w.heap.size, 1, none⟩ = some (.slice B k d) ∧ W'.cell? ⟨w.heap.size, 2, none⟩ = some (.bool f) ∧ W'.cell? ⟨w.heap.size + 1, 0, none⟩ = some (.int .i64 a) ∧ W'.cell? ⟨w.heap.size + 1, 1, none⟩ = some (.int .i64 p) ∧ W'.cell? ⟨w.heap.size + 1, 2, none⟩ = some (.int .u64 t)) _ := ⟨(XQPX.out.step HQ.out).cells3.1, (XQPX.out.step HQ.out).cells3.2.1, (XQPX.out.step HQ.out).cells3.2.2.1, (XQPS.out.step HQ.out).cells3.1, (XQPS.out.step HQ.out).cells3.2.1, (XQPS.out.step HQ.out).cells3.2.2.1⟩
                  refine hK.out _ _ hS' (fun _ => ?_)
                  clear hK K hS
                  have hS := hS'
                  clear hS'
                  (try simp only [Act.put, List.setIfInBounds_toArray, List.set_cons_zero, List.set_cons_succ])
                  refine wpAnyH_ready (rs := [10]) (by kernel_rfl) (by simp) ?_
                  refine AllReadyH.cons (by simp only [List.getElem?_toArray, List.getElem?_cons_succ, List.getElem?_cons_zero]; rfl) (fun K hK => ?_) ?_
                  · skip
                    obtain ⟨y00, y01, y02, yf0⟩ := P7.out.cells3
                    go_simp
                    clear y00 y01 y02 yf0
                    refine named_store3 P7.out ?_
                    intro Ws10 hbk hgr hsz
                    have hsz5 := hid hsz
                    clear hsz
                    replace P6 := hid (P6.out.grown hgr (fun e => P6.out.ne P7.out (by decide) (by simpa using e)))
                    replace MN := hid (mem_kept MN.out F7.out hgr)
                    replace HQ := hid (HQ.out.grown hgr HQ.out.size (fun r e => by cases e; have := hszd.out; have := hsz0.out; have := hsz1.out; have := hsz2.out; have := hsz3.out; have := hsz4.out; have := hsz5.out; omega))
                    replace P7 := hid hbk
                    clear hbk hgr
                    have hS' : (fun W' : World => W'.cell? ⟨w.heap.size, 0, none⟩ = some (.slice A n c) ∧ W'.cell? ⟨w.heap.size, 1, none⟩ = some (.slice B k d) ∧ W'.cell? ⟨w.heap.size, 2, none⟩ = some (.bool f) ∧ W'.cell? ⟨w.heap.size + 1, 0, none⟩ = some (.int .i64 a) ∧ W'.cell? ⟨w.heap.size + 1, 1, none⟩ = some (.int .i64 p) ∧ W'.cell? ⟨w.heap.size + 1, 2, none⟩ = some (.int .u64 t)) _ := ⟨(XQPX.out.step HQ.out).cells3.1, (XQPX.out.step HQ.out).cells3.2.1, (XQPX.out.step HQ.out).cells3.2.2.1, (XQPS.out.step HQ.out).cells3.1, (XQPS.out.step HQ.out).cells3.2.1, (XQPS.out.step HQ.out).cells3.2.2.1⟩
                    refine hK.out _ _ hS' (fun _ => ?_)
                    clear hK K hS
                    have hS := hS'
                    clear hS'
                    (try simp only [Act.put, List.setIfInBounds_toArray, List.set_cons_zero, List.set_cons_succ])
                    refine wpAnyH_done (by kernel_rfl) ?_ _
                    refine NoPanic.normal ?_
                    clear hS
                    go_wp2_with fail
                    go_meet
                    exact ⟨_, _, A3, c3, B3, d3, rfl, rfl, ⟨P6.out, P7.out, MN.out, HQ.out⟩⟩
                  exact AllReadyH.nil
                exact AllReadyH.nil
              exact AllReadyH.nil
            exact AllReadyH.nil
          refine AllReadyH.cons (by simp only [List.getElem?_toArray, List.getElem?_cons_succ, List.getElem?_cons_zero]; rfl) (fun K hK => ?_) ?_
          · skip
            go_simp
            refine named_alloc ?_
            intro Wa8 hbk hb hsz
            have hsz1 := hid hsz

            replace P6 := hid (P6.out.step hb); replace HQ := hid (below_then HQ.out hb)
            have P7 := hid hbk
            clear hb hbk hsz
            have hS' : (fun W' : World => W'.cell? ⟨w.heap.size, 0, none⟩ = some (.slice A n c) ∧ W'.cell? ⟨w.heap.size, 1, none⟩ = some (.slice B k d) ∧ W'.cell? ⟨w.heap.size, 2, none⟩ = some (.bool f) ∧ W'.cell? ⟨w.heap.size + 1, 0, none⟩ = some (.int .i64 a) ∧ W'.cell? ⟨w.heap.size + 1, 1, none⟩ = some (.int .i64 p) ∧ W'.cell? ⟨w.heap.size + 1, 2, none⟩ = some (.int .u64 t)) _ := ⟨(XQPX.out.step HQ.out).cells3.1, (XQPX.out.step HQ.out).cells3.2.1, (XQPX.out.step HQ.out).cells3.2.2.1, (XQPS.out.step HQ.out).cells3.1, (XQPS.out.step HQ.out).cells3.2.1, (XQPS.out.step HQ.out).cells3.2.2.1⟩
            refine hK.out _ _ hS' (fun _ => ?_)
            clear hK K hS
            have hS := hS'
            clear hS'
            (try simp only [Act.put, List.setIfInBounds_toArray, List.set_cons_zero, List.set_cons_succ])
            refine wpAnyH_ready (rs := [1]) (by kernel_rfl) (by simp) ?_
            refine AllReadyH.cons (by simp only [List.getElem?_toArray, List.getElem?_cons_succ, List.getElem?_cons_zero]; rfl) (fun K hK => ?_) ?_
            · skip
              go_simp
              refine (lown_r A n c B k d f xs ys _ (XQX.out.step HQ.out) (XQY.out.step HQ.out) hnc hkd).mono ?_
              rintro e ws1 ⟨A9, n9, c9, B9, k9, d9, rfl, oa, ob, hb, hn9, hk9⟩
              have hsz2 := hid (show Wa8.heap.size ≤ ws1.heap.size from hb.size)
              replace P6 := hid (P6.out.step hb); replace P7 := hid (P7.out.step hb); replace HQ := hid (below_then HQ.out hb)
              clear hb
              rw [← HWS.out] at oa
              rw [← HLS.out] at ob
              obtain rfl : k2 = n9 := by rw [← oa.len]; exact M2.out.lenx.symm
              obtain rfl : k2 = k9 := by rw [← ob.len]; exact hl3.out.symm
              have M9 := hid (Mem.ofOw oa ob (by omega) (by omega))
              have F60 := hid (farM_own oa ob P6.out (by have := hszd.out; have := hsz0.out; have := hsz1.out; omega))
              have F70 := hid (farM_own oa ob P7.out (by have := hszd.out; have := hsz0.out; have := hsz1.out; omega))
              clear oa ob
              go_wp2_with fail
              have hS' : (fun W' : World => W'.cell? ⟨w.heap.size, 0, none⟩ = some (.slice A n c) ∧ W'.cell? ⟨w.heap.size, 1, none⟩ = some (.slice B k d) ∧ W'.cell? ⟨w.heap.size, 2, none⟩ = some (.bool f) ∧ W'.cell? ⟨w.heap.size + 1, 0, none⟩ = some (.int .i64 a) ∧ W'.cell? ⟨w.heap.size + 1, 1, none⟩ = some (.int .i64 p) ∧ W'.cell? ⟨w.heap.size + 1, 2, none⟩ = some (.int .u64 t)) _ := ⟨(XQPX.out.step HQ.out).cells3.1, (XQPX.out.step HQ.out).cells3.2.1, (XQPX.out.step HQ.out).cells3.2.2.1, (XQPS.out.step HQ.out).cells3.1, (XQPS.out.step HQ.out).cells3.2.1, (XQPS.out.step HQ.out).cells3.2.2.1⟩
              refine hK.out _ _ hS' (fun _ => ?_)
              clear hK K hS
              have hS := hS'
              clear hS'
              (try simp only [Act.put, List.setIfInBounds_toArray, List.set_cons_zero, List.set_cons_succ])
              refine wpAnyH_ready (rs := [3]) (by kernel_rfl) (by simp) ?_
              refine AllReadyH.cons (by simp only [List.getElem?_toArray, List.getElem?_cons_succ, List.getElem?_cons_zero]; rfl) (fun K hK => ?_) ?_
              · skip
                go_simp
                refine (rspstep_any A9 k2 c9 B9 k2 d9 f ws ls a p t _ M9.out rfl).mono ?_
                rintro e ws3 ⟨A3, c3, B3, d3, rfl, hmn, hb, htr⟩
                have hsz3 := hid (show ws1.heap.size ≤ ws3.heap.size from hb.size)
                replace P6 := hid (P6.out.step hb); replace P7 := hid (P7.out.step hb); replace M9 := hid (M9.out.step hb); replace HQ := hid (below_then HQ.out hb)
                clear hb
                rw [← HRS.out] at hmn ⊢
                dsimp only at hmn ⊢
                have MN := hid hmn
                have F6 := hid (htr _ (by have := hszd.out; have := hsz0.out; have := hsz1.out; have := hsz2.out; omega) F60.out)
                have F7 := hid (htr _ (by have := hszd.out; have := hsz0.out; have := hsz1.out; have := hsz2.out; omega) F70.out)
                clear hmn htr
                go_wp2_with fail
                have hS' : (fun W' : World => W'.cell? ⟨w.heap.size, 0, none⟩ = some (.slice A n c) ∧ W'.cell? ⟨w.heap.size, 1, none⟩ = some (.slice B k d) ∧ W'.cell? ⟨w.heap.size, 2, none⟩ = some (.bool f) ∧ W'.cell? ⟨w.heap.size + 1, 0, none⟩ = some (.int .i64 a) ∧ W'.cell? ⟨w.heap.size + 1, 1, none⟩ = some (.int .i64 p) ∧ W'.cell? ⟨w.heap.size + 1, 2, none⟩ = some (.int .u64 t)) _ := ⟨(XQPX.out.step HQ.out).cells3.1, (XQPX.out.step HQ.out).cells3.2.1, (XQPX.out.step HQ.out).cells3.2.2.1, (XQPS.out.step HQ.out).cells3.1, (XQPS.out.step HQ.out).cells3.2.1, (XQPS.out.step HQ.out).cells3.2.2.1⟩
                refine hK.out _ _ hS' (fun _ => ?_)
                clear hK K hS
                have hS := hS'
                clear hS'
                (try simp only [Act.put, List.setIfInBounds_toArray, List.set_cons_zero, List.set_cons_succ])
                refine wpAnyH_take (i := 4) (v := ?_) (by simp only [List.getElem?_toArray, List.getElem?_cons_succ, List.getElem?_cons_zero]; rfl) (by kernel_rfl) (by kernel_rfl) (by kernel_rfl) (fun _ _ _ h => h) (Or.inl ⟨by rfl, ?_⟩) hS ?_
                rotate_left
                · intro w' hSw; (try dsimp only at hSw); go_split_ands; go_simp; (try with_reducible rfl)
                (try simp only [Act.put, List.setIfInBounds_toArray, List.set_cons_zero, List.set_cons_succ])
                refine wpAnyH_take (i := 5) (v := ?_) (by simp only [List.getElem?_toArray, List.getElem?_cons_succ, List.getElem?_cons_zero]; rfl) (by kernel_rfl) (by kernel_rfl) (by kernel_rfl) (fun _ _ _ h => h) (Or.inl ⟨by rfl, ?_⟩) hS ?_
                rotate_left
                · intro w' hSw; (try dsimp only at hSw); go_split_ands; go_simp; (try with_reducible rfl)
                (try simp only [Act.put, List.setIfInBounds_toArray, List.set_cons_zero, List.set_cons_succ])
                refine wpAnyH_take (i := 6) (v := ?_) (by simp only [List.getElem?_toArray, List.getElem?_cons_succ, List.getElem?_cons_zero]; rfl) (by kernel_rfl) (by kernel_rfl) (by kernel_rfl) (fun _ _ _ h => h) (Or.inl ⟨by rfl, ?_⟩) hS ?_
                rotate_left
                · intro w' hSw; (try dsimp only at hSw); go_split_ands; go_simp; (try with_reducible rfl)
                (try simp only [Act.put, List.setIfInBounds_toArray, List.set_cons_zero, List.set_cons_succ])
                refine wpAnyH_ready (rs := [9]) (by kernel_rfl) (by simp) ?_
                refine AllReadyH.cons (by simp only [List.getElem?_toArray, List.getElem?_cons_succ, List.getElem?_cons_zero]; rfl) (fun K hK => ?_) ?_
                · skip
                  obtain ⟨y00, y01, y02, yf0⟩ := P6.out.cells3
                  go_simp
                  clear y00 y01 y02 yf0
                  refine named_store3 P6.out ?_
                  intro Ws9 hbk hgr hsz
                  have hsz4 := hid hsz
                  clear hsz
                  replace P7 := hid (P7.out.grown hgr (fun e => P6.out.ne P7.out (by decide) (by simpa using e.symm)))
                  replace MN := hid (mem_kept MN.out F6.out hgr)
                  replace HQ := hid (HQ.out.grown hgr HQ.out.size (fun r e => by cases e; have := hszd.out; have := hsz0.out; have := hsz1.out; have := hsz2.out; have := hsz3.out; have := hsz4.out; omega))
                  replace P6 := hid hbk
                  clear hbk hgr
                  have hS' : (fun W' : World => W'.cell? ⟨w.heap.size, 0, none⟩ = some (.slice A n c) ∧ W'.cell? ⟨w.heap.size, 1, none⟩ = some (.slice B k d) ∧ W'.cell? ⟨w.heap.size, 2, none⟩ = some (.bool f) ∧ W'.cell? ⟨w.heap.size + 1, 0, none⟩ = some (.int .i64 a) ∧ W'.cell? ⟨w.heap.size + 1, 1, none⟩ = some (.int .i64 p) ∧ W'.cell? ⟨w.heap.size + 1, 2, none⟩ = some (.int .u64 t)) _ := ⟨(XQPX.out.step HQ.out).cells3.1, (XQPX.out.step HQ.out).cells3.2.1, (XQPX.out.step HQ.out).cells3.2.2.1, (XQPS.out.step HQ.out).cells3.1, (XQPS.out.step HQ.out).cells3.2.1, (XQPS.out.step HQ.out).cells3.2.2.1⟩
                  refine hK.out _ _ hS' (fun _ => ?_)
                  clear hK K hS
                  have hS := hS'
                  clear hS'
                  (try simp only [Act.put, List.setIfInBounds_toArray, List.set_cons_zero, List.set_cons_succ])
                  refine wpAnyH_ready (rs := [10]) (by kernel_rfl) (by simp) ?_
                  refine AllReadyH.cons (by simp only [List.getElem?_toArray, List.getElem?_cons_succ, List.getElem?_cons_zero]; rfl) (fun K hK => ?_) ?_
                  · skip
                    obtain ⟨y00, y01, y02, yf0⟩ := P7.out.cells3
                    go_simp
                    clear y00 y01 y02 yf0
                    refine named_store3 P7.out ?_
                    intro Ws10 hbk hgr hsz
                    have hsz5 := hid hsz
                    clear hsz
                    replace P6 := hid (P6.out.grown hgr (fun e => P6.out.ne P7.out (by decide) (by simpa using e)))
                    replace MN := hid (mem_kept MN.out F7.out hgr)
                    replace HQ := hid (HQ.out.grown hgr HQ.out.size (fun r e => by cases e; have := hszd.out; have := hsz0.out; have := hsz1.out; have := hsz2.out; have := hsz3.out; have := hsz4.out; have := hsz5.out; omega))
                    replace P7 := hid hbk
                    clear hbk hgr
                    have hS' : (fun W' : World => W'.cell? ⟨w.heap.size, 0, none⟩ = some (.slice A n c) ∧ W'.cell? ⟨w.heap.size, 1, none⟩ = some (.slice B k d) ∧ W'.cell? ⟨w.heap.size, 2, none⟩ = some (.bool f) ∧ W'.cell? ⟨w.heap.size + 1, 0, none⟩ = some (.int .i64 a) ∧ W'.cell? ⟨w.heap.size + 1, 1, none⟩ = some (.int .i64 p) ∧ W'.cell? ⟨w.heap.size + 1, 2, none⟩ = some (.int .u64 t)) _ := ⟨(XQPX.out.step HQ.out).cells3.1, (XQPX.out.step HQ.out).cells3.2.1, (XQPX.out.step HQ.out).cells3.2.2.1, (XQPS.out.step HQ.out).cells3.1, (XQPS.out.step HQ.out).cells3.2.1, (XQPS.out.step HQ.out).cells3.2.2.1⟩
                    refine hK.out _ _ hS' (fun _ => ?_)
                    clear hK K hS
                    have hS := hS'
                    clear hS'
                    (try simp only [Act.put, List.setIfInBounds_toArray, List.set_cons_zero, List.set_cons_succ])
                    refine wpAnyH_done (by kernel_rfl) ?_ _
                    refine NoPanic.normal ?_
                    clear hS
                    go_wp2_with fail
                    go_meet
                    exact ⟨_, _, A3, c3, B3, d3, rfl, rfl, ⟨P6.out, P7.out, MN.out, HQ.out⟩⟩
                  exact AllReadyH.nil
                exact AllReadyH.nil
              exact AllReadyH.nil
            exact AllReadyH.nil
          exact AllReadyH.nil
        refine AllReadyH.cons (by simp only [List.getElem?_toArray, List.getElem?_cons_succ, List.getElem?_cons_zero]; rfl) (fun K hK => ?_) ?_
        · skip
          go_simp
          refine named_alloc ?_
          intro Wa8 hbk hb hsz
          have hsz0 := hid hsz

          replace HQ := hid (below_then HQ.out hb)
          have P7 := hid hbk
          clear hb hbk hsz
          have hS' : (fun W' : World => W'.cell? ⟨w.heap.size, 0, none⟩ = some (.slice A n c) ∧ W'.cell? ⟨w.heap.size, 1, none⟩ = some (.slice B k d) ∧ W'.cell? ⟨w.heap.size, 2, none⟩ = some (.bool f) ∧ W'.cell? ⟨w.heap.size + 1, 0, none⟩ = some (.int .i64 a) ∧ W'.cell? ⟨w.heap.size + 1, 1, none⟩ = some (.int .i64 p) ∧ W'.cell? ⟨w.heap.size + 1, 2, none⟩ = some (.int .u64 t)) _ := ⟨(XQPX.out.step HQ.out).cells3.1, (XQPX.out.step HQ.out).cells3.2.1, (XQPX.out.step HQ.out).cells3.2.2.1, (XQPS.out.step HQ.out).cells3.1, (XQPS.out.step HQ.out).cells3.2.1, (XQPS.out.step HQ.out).cells3.2.2.1⟩
          refine hK.out _ _ hS' (fun _ => ?_)
          clear hK K hS
          have hS := hS'
          clear hS'
          (try simp only [Act.put, List.setIfInBounds_toArray, List.set_cons_zero, List.set_cons_succ])
          refine wpAnyH_ready (rs := [1, 7]) (by kernel_rfl) (by simp) ?_
          refine AllReadyH.cons (by simp only [List.getElem?_toArray, List.getElem?_cons_succ, List.getElem?_cons_zero]; rfl) (fun K hK => ?_) ?_
          · skip
            go_simp
            refine (lown_r A n c B k d f xs ys _ (XQX.out.step HQ.out) (XQY.out.step HQ.out) hnc hkd).mono ?_
            rintro e ws1 ⟨A9, n9, c9, B9, k9, d9, rfl, oa, ob, hb, hn9, hk9⟩
            have hsz1 := hid (show Wa8.heap.size ≤ ws1.heap.size from hb.size)
            replace P7 := hid (P7.out.step hb); replace HQ := hid (below_then HQ.out hb)
            clear hb
            rw [← HWS.out] at oa
            rw [← HLS.out] at ob
            obtain rfl : k2 = n9 := by rw [← oa.len]; exact M2.out.lenx.symm
            obtain rfl : k2 = k9 := by rw [← ob.len]; exact hl3.out.symm
            have M9 := hid (Mem.ofOw oa ob (by omega) (by omega))
            have F70 := hid (farM_own oa ob P7.out (by have := hszd.out; have := hsz0.out; omega))
            clear oa ob
            go_wp2_with fail
            have hS' : (fun W' : World => W'.cell? ⟨w.heap.size, 0, none⟩ = some (.slice A n c) ∧ W'.cell? ⟨w.heap.size, 1, none⟩ = some (.slice B k d) ∧ W'.cell? ⟨w.heap.size, 2, none⟩ = some (.bool f) ∧ W'.cell? ⟨w.heap.size + 1, 0, none⟩ = some (.int .i64 a) ∧ W'.cell? ⟨w.heap.size + 1, 1, none⟩ = some (.int .i64 p) ∧ W'.cell? ⟨w.heap.size + 1, 2, none⟩ = some (.int .u64 t)) _ := ⟨(XQPX.out.step HQ.out).cells3.1, (XQPX.out.step HQ.out).cells3.2.1, (XQPX.out.step HQ.out).cells3.2.2.1, (XQPS.out.step HQ.out).cells3.1, (XQPS.out.step HQ.out).cells3.2.1, (XQPS.out.step HQ.out).cells3.2.2.1⟩
            refine hK.out _ _ hS' (fun _ => ?_)
            clear hK K hS
            have hS := hS'
            clear hS'
            (try simp only [Act.put, List.setIfInBounds_toArray, List.set_cons_zero, List.set_cons_succ])
            refine wpAnyH_ready (rs := [3, 7]) (by kernel_rfl) (by simp) ?_
            refine AllReadyH.cons (by simp only [List.getElem?_toArray, List.getElem?_cons_succ, List.getElem?_cons_zero]; rfl) (fun K hK => ?_) ?_
            · skip
              go_simp
              refine (rspstep_any A9 k2 c9 B9 k2 d9 f ws ls a p t _ M9.out rfl).mono ?_
              rintro e ws3 ⟨A3, c3, B3, d3, rfl, hmn, hb, htr⟩
              have hsz2 := hid (show ws1.heap.size ≤ ws3.heap.size from hb.size)
              replace P7 := hid (P7.out.step hb); replace M9 := hid (M9.out.step hb); replace HQ := hid (below_then HQ.out hb)
              clear hb
              rw [← HRS.out] at hmn ⊢
              dsimp only at hmn ⊢
              have MN := hid hmn
              have F7 := hid (htr _ (by have := hszd.out; have := hsz0.out; have := hsz1.out; omega) F70.out)
              clear hmn htr
              go_wp2_with fail
              have hS' : (fun W' : World => W'.cell? ⟨w.heap.size, 0, none⟩ = some (.slice A n c) ∧ W'.cell? ⟨w.heap.size, 1, none⟩ = some (.slice B k d) ∧ W'.cell? ⟨w.heap.size, 2, none⟩ = some (.bool f) ∧ W'.cell? ⟨w.heap.size + 1, 0, none⟩ = some (.int .i64 a) ∧ W'.cell? ⟨w.heap.size + 1, 1, none⟩ = some (.int .i64 p) ∧ W'.cell? ⟨w.heap.size + 1, 2, none⟩ = some (.int .u64 t)) _ := ⟨(XQPX.out.step HQ.out).cells3.1, (XQPX.out.step HQ.out).cells3.2.1, (XQPX.out.step HQ.out).cells3.2.2.1, (XQPS.out.step HQ.out).cells3.1, (XQPS.out.step HQ.out).cells3.2.1, (XQPS.out.step HQ.out).cells3.2.2.1⟩
              refine hK.out _ _ hS' (fun _ => ?_)
              clear hK K hS
              have hS := hS'
              clear hS'
              (try simp only [Act.put, List.setIfInBounds_toArray, List.set_cons_zero, List.set_cons_succ])
              refine wpAnyH_take (i := 4) (v := ?_) (by simp only [List.getElem?_toArray, List.getElem?_cons_succ, List.getElem?_cons_zero]; rfl) (by kernel_rfl) (by kernel_rfl) (by kernel_rfl) (fun _ _ _ h => h) (Or.inl ⟨by rfl, ?_⟩) hS ?_
              rotate_left
              · intro w' hSw; (try dsimp only at hSw); go_split_ands; go_simp; (try with_reducible rfl)
              (try simp only [Act.put, List.setIfInBounds_toArray, List.set_cons_zero, List.set_cons_succ])
              refine wpAnyH_take (i := 5) (v := ?_) (by simp only [List.getElem?_toArray, List.getElem?_cons_succ, List.getElem?_cons_zero]; rfl) (by kernel_rfl) (by kernel_rfl) (by kernel_rfl) (fun _ _ _ h => h) (Or.inl ⟨by rfl, ?_⟩) hS ?_
              rotate_left
              · intro w' hSw; (try dsimp only at hSw); go_split_ands; go_simp; (try with_reducible rfl)
              (try simp only [Act.put, List.setIfInBounds_toArray, List.set_cons_zero, List.set_cons_succ])
              refine wpAnyH_take (i := 6) (v := ?_) (by simp only [List.getElem?_toArray, List.getElem?_cons_succ, List.getElem?_cons_zero]; rfl) (by kernel_rfl) (by kernel_rfl) (by kernel_rfl) (fun _ _ _ h => h) (Or.inl ⟨by rfl, ?_⟩) hS ?_
              rotate_left
              · intro w' hSw; (try dsimp only at hSw); go_split_ands; go_simp; (try with_reducible rfl)
              (try simp only [Act.put, List.setIfInBounds_toArray, List.set_cons_zero, List.set_cons_succ])
              refine wpAnyH_ready (rs := [7]) (by kernel_rfl) (by simp) ?_
              refine AllReadyH.cons (by simp only [List.getElem?_toArray, List.getElem?_cons_succ, List.getElem?_cons_zero]; rfl) (fun K hK => ?_) ?_
              · skip
                go_simp
                refine named_alloc ?_
                intro Wa7 hbk hb hsz
                have hsz3 := hid hsz
                have F6 := hid (show FarM k2 A3 B3 ws3.heap.size from MN.out.far (Nat.le_refl _))
                replace P7 := hid (P7.out.step hb); replace M9 := hid (M9.out.step hb); replace MN := hid (MN.out.step hb); replace HQ := hid (below_then HQ.out hb)
                have P6 := hid hbk
                clear hb hbk hsz
                have hS' : (fun W' : World => W'.cell? ⟨w.heap.size, 0, none⟩ = some (.slice A n c) ∧ W'.cell? ⟨w.heap.size, 1, none⟩ = some (.slice B k d) ∧ W'.cell? ⟨w.heap.size, 2, none⟩ = some (.bool f) ∧ W'.cell? ⟨w.heap.size + 1, 0, none⟩ = some (.int .i64 a) ∧ W'.cell? ⟨w.heap.size + 1, 1, none⟩ = some (.int .i64 p) ∧ W'.cell? ⟨w.heap.size + 1, 2, none⟩ = some (.int .u64 t)) _ := ⟨(XQPX.out.step HQ.out).cells3.1, (XQPX.out.step HQ.out).cells3.2.1, (XQPX.out.step HQ.out).cells3.2.2.1, (XQPS.out.step HQ.out).cells3.1, (XQPS.out.step HQ.out).cells3.2.1, (XQPS.out.step HQ.out).cells3.2.2.1⟩
                refine hK.out _ _ hS' (fun _ => ?_)
                clear hK K hS
                have hS := hS'
                clear hS'
                (try simp only [Act.put, List.setIfInBounds_toArray, List.set_cons_zero, List.set_cons_succ])
                refine wpAnyH_ready (rs := [9]) (by kernel_rfl) (by simp) ?_
                refine AllReadyH.cons (by simp only [List.getElem?_toArray, List.getElem?_cons_succ, List.getElem?_cons_zero]; rfl) (fun K hK => ?_) ?_
                · skip
                  obtain ⟨y00, y01, y02, yf0⟩ := P6.out.cells3
                  go_simp
                  clear y00 y01 y02 yf0
                  refine named_store3 P6.out ?_
                  intro Ws9 hbk hgr hsz
                  have hsz4 := hid hsz
                  clear hsz
                  replace P7 := hid (P7.out.grown hgr (fun e => P6.out.ne P7.out (by decide) (by simpa using e.symm)))
                  replace MN := hid (mem_kept MN.out F6.out hgr)
                  replace HQ := hid (HQ.out.grown hgr HQ.out.size (fun r e => by cases e; have := hszd.out; have := hsz0.out; have := hsz1.out; have := hsz2.out; have := hsz3.out; have := hsz4.out; omega))
                  replace P6 := hid hbk
                  clear hbk hgr
                  have hS' : (fun W' : World => W'.cell? ⟨w.heap.size, 0, none⟩ = some (.slice A n c) ∧ W'.cell? ⟨w.heap.size, 1, none⟩ = some (.slice B k d) ∧ W'.cell? ⟨w.heap.size, 2, none⟩ = some (.bool f) ∧ W'.cell? ⟨w.heap.size + 1, 0, none⟩ = some (.int .i64 a) ∧ W'.cell? ⟨w.heap.size + 1, 1, none⟩ = some (.int .i64 p) ∧ W'.cell? ⟨w.heap.size + 1, 2, none⟩ = some (.int .u64 t)) _ := ⟨(XQPX.out.step HQ.out).cells3.1, (XQPX.out.step HQ.out).cells3.2.1, (XQPX.out.step HQ.out).cells3.2.2.1, (XQPS.out.step HQ.out).cells3.1, (XQPS.out.step HQ.out).cells3.2.1, (XQPS.out.step HQ.out).cells3.2.2.1⟩
                  refine hK.out _ _ hS' (fun _ => ?_)
                  clear hK K hS
                  have hS := hS'
                  clear hS'
                  (try simp only [Act.put, List.setIfInBounds_toArray, List.set_cons_zero, List.set_cons_succ])
                  refine wpAnyH_ready (rs := [10]) (by kernel_rfl) (by simp) ?_
                  refine AllReadyH.cons (by simp only [List.getElem?_toArray, List.getElem?_cons_succ, List.getElem?_cons_zero]; rfl) (fun K hK => ?_) ?_
                  · skip
                    obtain ⟨y00, y01, y02, yf0⟩ := P7.out.cells3
                    go_simp
                    clear y00 y01 y02 yf0
                    refine named_store3 P7.out ?_
                    intro Ws10 hbk hgr hsz
                    have hsz5 := hid hsz
                    clear hsz
                    replace P6 := hid (P6.out.grown hgr (fun e => P6.out.ne P7.out (by decide) (by simpa using e)))
                    replace MN := hid (mem_kept MN.out F7.out hgr)
                    replace HQ := hid (HQ.out.grown hgr HQ.out.size (fun r e => by cases e; have := hszd.out; have := hsz0.out; have := hsz1.out; have := hsz2.out; have := hsz3.out; have := hsz4.out; have := hsz5.out; omega))
                    replace P7 := hid hbk
                    clear hbk hgr
                    have hS' : (fun W' : World => W'.cell? ⟨w.heap.size, 0, none⟩ = some (.slice A n c) ∧ W'.cell? ⟨w.heap.size, 1, none⟩ = some (.slice B k d) ∧ W'.cell? ⟨w.heap.size, 2, none⟩ = some (.bool f) ∧ W'.cell? ⟨w.heap.size + 1, 0, none⟩ = some (.int .i64 a) ∧ W'.cell? ⟨w.heap.size + 1, 1, none⟩ = some (.int .i64 p) ∧ W'.cell? ⟨w.heap.size + 1, 2, none⟩ = some (.int .u64 t)) _ := ⟨(XQPX.out.step HQ.out).cells3.1, (XQPX.out.step HQ.out).cells3.2.1, (XQPX.out.step HQ.out).cells3.2.2.1, (XQPS.out.step HQ.out).cells3.1, (XQPS.out.step HQ.out).cells3.2.1, (XQPS.out.step HQ.out).cells3.2.2.1⟩
                    refine hK.out _ _ hS' (fun _ => ?_)
                    clear hK K hS
                    have hS := hS'
                    clear hS'
                    (try simp only [Act.put, List.setIfInBounds_toArray, List.set_cons_zero, List.set_cons_succ])
                    refine wpAnyH_done (by kernel_rfl) ?_ _
                    refine NoPanic.normal ?_
                    clear hS
                    go_wp2_with fail
                    go_meet
                    exact ⟨_, _, A3, c3, B3, d3, rfl, rfl, ⟨P6.out, P7.out, MN.out, HQ.out⟩⟩
                  exact AllReadyH.nil
                exact AllReadyH.nil
              exact AllReadyH.nil
            refine AllReadyH.cons (by simp only [List.getElem?_toArray, List.getElem?_cons_succ, List.getElem?_cons_zero]; rfl) (fun K hK => ?_) ?_
            · skip
              go_simp
              refine named_alloc ?_
              intro Wa7 hbk hb hsz
              have hsz2 := hid hsz
              have F60 := hid (show FarM k2 A9 B9 ws1.heap.size from M9.out.far (Nat.le_refl _))
              replace P7 := hid (P7.out.step hb); replace M9 := hid (M9.out.step hb); replace HQ := hid (below_then HQ.out hb)
              have P6 := hid hbk
              clear hb hbk hsz
              have hS' : (fun W' : World => W'.cell? ⟨w.heap.size, 0, none⟩ = some (.slice A n c) ∧ W'.cell? ⟨w.heap.size, 1, none⟩ = some (.slice B k d) ∧ W'.cell? ⟨w.heap.size, 2, none⟩ = some (.bool f) ∧ W'.cell? ⟨w.heap.size + 1, 0, none⟩ = some (.int .i64 a) ∧ W'.cell? ⟨w.heap.size + 1, 1, none⟩ = some (.int .i64 p) ∧ W'.cell? ⟨w.heap.size + 1, 2, none⟩ = some (.int .u64 t)) _ := ⟨(XQPX.out.step HQ.out).cells3.1, (XQPX.out.step HQ.out).cells3.2.1, (XQPX.out.step HQ.out).cells3.2.2.1, (XQPS.out.step HQ.out).cells3.1, (XQPS.out.step HQ.out).cells3.2.1, (XQPS.out.step HQ.out).cells3.2.2.1⟩
              refine hK.out _ _ hS' (fun _ => ?_)
              clear hK K hS
              have hS := hS'
              clear hS'
              (try simp only [Act.put, List.setIfInBounds_toArray, List.set_cons_zero, List.set_cons_succ])
              refine wpAnyH_ready (rs := [3]) (by kernel_rfl) (by simp) ?_
              refine AllReadyH.cons (by simp only [List.getElem?_toArray, List.getElem?_cons_succ, List.getElem?_cons_zero]; rfl) (fun K hK => ?_) ?_
              · skip
                go_simp
                refine (rspstep_any A9 k2 c9 B9 k2 d9 f ws ls a p t _ M9.out rfl).mono ?_
                rintro e ws3 ⟨A3, c3, B3, d3, rfl, hmn, hb, htr⟩
                have hsz3 := hid (show Wa7.heap.size ≤ ws3.heap.size from hb.size)
                replace P7 := hid (P7.out.step hb); replace M9 := hid (M9.out.step hb); replace P6 := hid (P6.out.step hb); replace HQ := hid (below_then HQ.out hb)
                clear hb
                rw [← HRS.out] at hmn ⊢
                dsimp only at hmn ⊢
                have MN := hid hmn
                have F6 := hid (htr _ (by have := hszd.out; have := hsz0.out; have := hsz1.out; have := hsz2.out; omega) F60.out)
                have F7 := hid (htr _ (by have := hszd.out; have := hsz0.out; have := hsz1.out; have := hsz2.out; omega) F70.out)
                clear hmn htr
                go_wp2_with fail
                have hS' : (fun W' : World => W'.cell? ⟨w.heap.size, 0, none⟩ = some (.slice A n c) ∧ W'.cell? ⟨w.heap.size, 1, none⟩ = some (.slice B k d) ∧ W'.cell? ⟨w.heap.size, 2, none⟩ = some (.bool f) ∧ W'.cell? ⟨w.heap.size + 1, 0, none⟩ = some (.int .i64 a) ∧ W'.cell? ⟨w.heap.size + 1, 1, none⟩ = some (.int .i64 p) ∧ W'.cell? ⟨w.heap.size + 1, 2, none⟩ = some (.int .u64 t)) _ := ⟨(XQPX.out.step HQ.out).cells3.1, (XQPX.out.step HQ.out).cells3.2.1, (XQPX.out.step HQ.out).cells3.2.2.1, (XQPS.out.step HQ.out).cells3.1, (XQPS.out.step HQ.out).cells3.2.1, (XQPS.out.step HQ.out).cells3.2.2.1⟩
                refine hK.out _ _ hS' (fun _ => ?_)
                clear hK K hS
                have hS := hS'
                clear hS'
                (try simp only [Act.put, List.setIfInBounds_toArray, List.set_cons_zero, List.set_cons_succ])
                refine wpAnyH_take (i := 4) (v := ?_) (by simp only [List.getElem?_toArray, List.getElem?_cons_succ, List.getElem?_cons_zero]; rfl) (by kernel_rfl) (by kernel_rfl) (by kernel_rfl) (fun _ _ _ h => h) (Or.inl ⟨by rfl, ?_⟩) hS ?_
                rotate_left
                · intro w' hSw; (try dsimp only at hSw); go_split_ands; go_simp; (try with_reducible rfl)
                (try simp only [Act.put, List.setIfInBounds_toArray, List.set_cons_zero, List.set_cons_succ])
                refine wpAnyH_take (i := 5) (v := ?_) (by simp only [List.getElem?_toArray, List.getElem?_cons_succ, List.getElem?_cons_zero]; rfl) (by kernel_rfl) (by kernel_rfl) (by kernel_rfl) (fun _ _ _ h => h) (Or.inl ⟨by rfl, ?_⟩) hS ?_
                rotate_left
                · intro w' hSw; (try dsimp only at hSw); go_split_ands; go_simp; (try with_reducible rfl)
                (try simp only [Act.put, List.setIfInBounds_toArray, List.set_cons_zero, List.set_cons_succ])
                refine wpAnyH_take (i := 6) (v := ?_) (by simp only [List.getElem?_toArray, List.getElem?_cons_succ, List.getElem?_cons_zero]; rfl) (by kernel_rfl) (by kernel_rfl) (by kernel_rfl) (fun _ _ _ h => h) (Or.inl ⟨by rfl, ?_⟩) hS ?_
                rotate_left
                · intro w' hSw; (try dsimp only at hSw); go_split_ands; go_simp; (try with_reducible rfl)
                (try simp only [Act.put, List.setIfInBounds_toArray, List.set_cons_zero, List.set_cons_succ])
                refine wpAnyH_ready (rs := [9]) (by kernel_rfl) (by simp) ?_
                refine AllReadyH.cons (by simp only [List.getElem?_toArray, List.getElem?_cons_succ, List.getElem?_cons_zero]; rfl) (fun K hK => ?_) ?_
                · skip
                  obtain ⟨y00, y01, y02, yf0⟩ := P6.out.cells3
                  go_simp
                  clear y00 y01 y02 yf0
                  refine named_store3 P6.out ?_
                  intro Ws9 hbk hgr hsz
                  have hsz4 := hid hsz
                  clear hsz
                  replace P7 := hid (P7.out.grown hgr (fun e => P6.out.ne P7.out (by decide) (by simpa using e.symm)))
                  replace MN := hid (mem_kept MN.out F6.out hgr)
                  replace HQ := hid (HQ.out.grown hgr HQ.out.size (fun r e => by cases e; have := hszd.out; have := hsz0.out; have := hsz1.out; have := hsz2.out; have := hsz3.out; have := hsz4.out; omega))
                  replace P6 := hid hbk
                  clear hbk hgr
                  have hS' : (fun W' : World => W'.cell? ⟨w.heap.size, 0, none⟩ = some (.slice A n c) ∧ W'.cell? ⟨w.heap.size, 1, none⟩ = some (.slice B k d) ∧ W'.cell? ⟨w.heap.size, 2, none⟩ = some (.bool f) ∧ W'.cell? ⟨w.heap.size + 1, 0, none⟩ = some (.int .i64 a) ∧ W'.cell? ⟨w.heap.size + 1, 1, none⟩ = some (.int .i64 p) ∧ W'.cell? ⟨w.heap.size + 1, 2, none⟩ = some (.int .u64 t)) _ := ⟨(XQPX.out.step HQ.out).cells3.1, (XQPX.out.step HQ.out).cells3.2.1, (XQPX.out.step HQ.out).cells3.2.2.1, (XQPS.out.step HQ.out).cells3.1, (XQPS.out.step HQ.out).cells3.2.1, (XQPS.out.step HQ.out).cells3.2.2.1⟩
                  refine hK.out _ _ hS' (fun _ => ?_)
                  clear hK K hS
                  have hS := hS'
                  clear hS'
                  (try simp only [Act.put, List.setIfInBounds_toArray, List.set_cons_zero, List.set_cons_succ])
                  refine wpAnyH_ready (rs := [10]) (by kernel_rfl) (by simp) ?_
                  refine AllReadyH.cons (by simp only [List.getElem?_toArray, List.getElem?_cons_succ, List.getElem?_cons_zero]; rfl) (fun K hK => ?_) ?_
                  · skip
                    obtain ⟨y00, y01, y02, yf0⟩ := P7.out.cells3
                    go_simp
                    clear y00 y01 y02 yf0
                    refine named_store3 P7.out ?_
                    intro Ws10 hbk hgr hsz
                    have hsz5 := hid hsz
                    clear hsz
                    replace P6 := hid (P6.out.grown hgr (fun e => P6.out.ne P7.out (by decide) (by simpa using e)))
                    replace MN := hid (mem_kept MN.out F7.out hgr)
                    replace HQ := hid (HQ.out.grown hgr HQ.out.size (fun r e => by cases e; have := hszd.out; have := hsz0.out; have := hsz1.out; have := hsz2.out; have := hsz3.out; have := hsz4.out; have := hsz5.out; omega))
                    replace P7 := hid hbk
                    clear hbk hgr
                    have hS' : (fun W' : World => W'.cell? ⟨w.heap.size, 0, none⟩ = some (.slice A n c) ∧ W'.cell? ⟨w.heap.size, 1, none⟩ = some (.slice B k d) ∧ W'.cell? ⟨w.heap.size, 2, none⟩ = some (.bool f) ∧ W'.cell? ⟨w.heap.size + 1, 0, none⟩ = some (.int .i64 a) ∧ W'.cell? ⟨w.heap.size + 1, 1, none⟩ = some (.int .i64 p) ∧ W'.cell? ⟨w.heap.size + 1, 2, none⟩ = some (.int .u64 t)) _ := ⟨(XQPX.out.step HQ.out).cells3.1, (XQPX.out.step HQ.out).cells3.2.1, (XQPX.out.step HQ.out).cells3.2.2.1, (XQPS.out.step HQ.out).cells3.1, (XQPS.out.step HQ.out).cells3.2.1, (XQPS.out.step HQ.out).cells3.2.2.1⟩
                    refine hK.out _ _ hS' (fun _ => ?_)
                    clear hK K hS
                    have hS := hS'
                    clear hS'
                    (try simp only [Act.put, List.setIfInBounds_toArray, List.set_cons_zero, List.set_cons_succ])
                    refine wpAnyH_done (by kernel_rfl) ?_ _
                    refine NoPanic.normal ?_
                    clear hS
                    go_wp2_with fail
                    go_meet
                    exact ⟨_, _, A3, c3, B3, d3, rfl, rfl, ⟨P6.out, P7.out, MN.out, HQ.out⟩⟩
                  exact AllReadyH.nil
                exact AllReadyH.nil
              exact AllReadyH.nil
            exact AllReadyH.nil
          refine AllReadyH.cons (by simp only [List.getElem?_toArray, List.getElem?_cons_succ, List.getElem?_cons_zero]; rfl) (fun K hK => ?_) ?_
          · skip
            go_simp
            refine named_alloc ?_
            intro Wa7 hbk hb hsz
            have hsz1 := hid hsz

            replace P7 := hid (P7.out.step hb); replace HQ := hid (below_then HQ.out hb)
            have P6 := hid hbk
            clear hb hbk hsz
            have hS' : (fun W' : World => W'.cell? ⟨w.heap.size, 0, none⟩ = some (.slice A n c) ∧ W'.cell? ⟨w.heap.size, 1, none⟩ = some (.slice B k d) ∧ W'.cell? ⟨w.heap.size, 2, none⟩ = some (.bool f) ∧ W'.cell? ⟨w.heap.size + 1, 0, none⟩ = some (.int .i64 a) ∧ W'.cell? ⟨w.heap.size + 1, 1, none⟩ = some (.int .i64 p) ∧ W'.cell? ⟨w.heap.size + 1, 2, none⟩ = some (.int .u64 t)) _ := ⟨(XQPX.out.step HQ.out).cells3.1, (XQPX.out.step HQ.out).cells3.2.1, (XQPX.out.step HQ.out).cells3.2.2.1, (XQPS.out.step HQ.out).cells3.1, (XQPS.out.step HQ.out).cells3.2.1, (XQPS.out.step HQ.out).cells3.2.2.1⟩
            refine hK.out _ _ hS' (fun _ => ?_)
            clear hK K hS
            have hS := hS'
            clear hS'
            (try simp only [Act.put, List.setIfInBounds_toArray, List.set_cons_zero, List.set_cons_succ])
            refine wpAnyH_ready (rs := [1]) (by kernel_rfl) (by simp) ?_
            refine AllReadyH.cons (by simp only [List.getElem?_toArray, List.getElem?_cons_succ, List.getElem?_cons_zero]; rfl) (fun K hK => ?_) ?_
            · skip
              go_simp
              refine (lown_r A n c B k d f xs ys _ (XQX.out.step HQ.out) (XQY.out.step HQ.out) hnc hkd).mono ?_
              rintro e ws1 ⟨A9, n9, c9, B9, k9, d9, rfl, oa, ob, hb, hn9, hk9⟩
              have hsz2 := hid (show Wa7.heap.size ≤ ws1.heap.size from hb.size)
              replace P7 := hid (P7.out.step hb); replace P6 := hid (P6.out.step hb); replace HQ := hid (below_then HQ.out hb)
              clear hb
              rw [← HWS.out] at oa
              rw [← HLS.out] at ob
              obtain rfl : k2 = n9 := by rw [← oa.len]; exact M2.out.lenx.symm
              obtain rfl : k2 = k9 := by rw [← ob.len]; exact hl3.out.symm
              have M9 := hid (Mem.ofOw oa ob (by omega) (by omega))
              have F60 := hid (farM_own oa ob P6.out (by have := hszd.out; have := hsz0.out; have := hsz1.out; omega))
              have F70 := hid (farM_own oa ob P7.out (by have := hszd.out; have := hsz0.out; have := hsz1.out; omega))
              clear oa ob
              go_wp2_with fail
              have hS' : (fun W' : World => W'.cell? ⟨w.heap.size, 0, none⟩ = some (.slice A n c) ∧ W'.cell? ⟨w.heap.size, 1, none⟩ = some (.slice B k d) ∧ W'.cell? ⟨w.heap.size, 2, none⟩ = some (.bool f) ∧ W'.cell? ⟨w.heap.size + 1, 0, none⟩ = some (.int .i64 a) ∧ W'.cell? ⟨w.heap.size + 1, 1, none⟩ = some (.int .i64 p) ∧ W'.cell? ⟨w.heap.size + 1, 2, none⟩ = some (.int .u64 t)) _ := ⟨(XQPX.out.step HQ.out).cells3.1, (XQPX.out.step HQ.out).cells3.2.1, (XQPX.out.step HQ.out).cells3.2.2.1, (XQPS.out.step HQ.out).cells3.1, (XQPS.out.step HQ.out).cells3.2.1, (XQPS.out.step HQ.out).cells3.2.2.1⟩
              refine hK.out _ _ hS' (fun _ => ?_)
              clear hK K hS
              have hS := hS'
              clear hS'
              (try simp only [Act.put, List.setIfInBounds_toArray, List.set_cons_zero, List.set_cons_succ])
              refine wpAnyH_ready (rs := [3]) (by kernel_rfl) (by simp) ?_
              refine AllReadyH.cons (by simp only [List.getElem?_toArray, List.getElem?_cons_succ, List.getElem?_cons_zero]; rfl) (fun K hK => ?_) ?_
              · skip
                go_simp
                refine (rspstep_any A9 k2 c9 B9 k2 d9 f ws ls a p t _ M9.out rfl).mono ?_
                rintro e ws3 ⟨A3, c3, B3, d3, rfl, hmn, hb, htr⟩
                have hsz3 := hid (show ws1.heap.size ≤ ws3.heap.size from hb.size)
                replace P7 := hid (P7.out.step hb); replace P6 := hid (P6.out.step hb); replace M9 := hid (M9.out.step hb); replace HQ := hid (below_then HQ.out hb)
                clear hb
                rw [← HRS.out] at hmn ⊢
                dsimp only at hmn ⊢
                have MN := hid hmn
                have F6 := hid (htr _ (by have := hszd.out; have := hsz0.out; have := hsz1.out; have := hsz2.out; omega) F60.out)
                have F7 := hid (htr _ (by have := hszd.out; have := hsz0.out; have := hsz1.out; have := hsz2.out; omega) F70.out)
                clear hmn htr
                go_wp2_with fail
                have hS' : (fun W' : World => W'.cell? ⟨w.heap.size, 0, none⟩ = some (.slice A n c) ∧ W'.cell? ⟨w.heap.size, 1, none⟩ = some (.slice B k d) ∧ W'.cell? ⟨w.heap.size, 2, none⟩ = some (.bool f) ∧ W'.cell? ⟨w.heap.size + 1, 0, none⟩ = some (.int .i64 a) ∧ W'.cell? ⟨w.heap.size + 1, 1, none⟩ = some (.int .i64 p) ∧ W'.cell? ⟨w.heap.size + 1, 2, none⟩ = some (.int .u64 t)) _ := ⟨(XQPX.out.step HQ.out).cells3.1, (XQPX.out.step HQ.out).cells3.2.1, (XQPX.out.step HQ.out).cells3.2.2.1, (XQPS.out.step HQ.out).cells3.1, (XQPS.out.step HQ.out).cells3.2.1, (XQPS.out.step HQ.out).cells3.2.2.1⟩
                refine hK.out _ _ hS' (fun _ => ?_)
                clear hK K hS
                have hS := hS'
                clear hS'
                (try simp only [Act.put, List.setIfInBounds_toArray, List.set_cons_zero, List.set_cons_succ])
                refine wpAnyH_take (i := 4) (v := ?_) (by simp only [List.getElem?_toArray, List.getElem?_cons_succ, List.getElem?_cons_zero]; rfl) (by kernel_rfl) (by kernel_rfl) (by kernel_rfl) (fun _ _ _ h => h) (Or.inl ⟨by rfl, ?_⟩) hS ?_
                rotate_left
                · intro w' hSw; (try dsimp only at hSw); go_split_ands; go_simp; (try with_reducible rfl)
                (try simp only [Act.put, List.setIfInBounds_toArray, List.set_cons_zero, List.set_cons_succ])
                refine wpAnyH_take (i := 5) (v := ?_) (by simp only [List.getElem?_toArray, List.getElem?_cons_succ, List.getElem?_cons_zero]; rfl) (by kernel_rfl) (by kernel_rfl) (by kernel_rfl) (fun _ _ _ h => h) (Or.inl ⟨by rfl, ?_⟩) hS ?_
                rotate_left
                · intro w' hSw; (try dsimp only at hSw); go_split_ands; go_simp; (try with_reducible rfl)
                (try simp only [Act.put, List.setIfInBounds_toArray, List.set_cons_zero, List.set_cons_succ])
                refine wpAnyH_take (i := 6) (v := ?_) (by simp only [List.getElem?_toArray, List.getElem?_cons_succ, List.getElem?_cons_zero]; rfl) (by kernel_rfl) (by kernel_rfl) (by kernel_rfl) (fun _ _ _ h => h) (Or.inl ⟨by rfl, ?_⟩) hS ?_
                rotate_left
                · intro w' hSw; (try dsimp only at hSw); go_split_ands; go_simp; (try with_reducible rfl)
                (try simp only [Act.put, List.setIfInBounds_toArray, List.set_cons_zero, List.set_cons_succ])
                refine wpAnyH_ready (rs := [9]) (by kernel_rfl) (by simp) ?_
                refine AllReadyH.cons (by simp only [List.getElem?_toArray, List.getElem?_cons_succ, List.getElem?_cons_zero]; rfl) (fun K hK => ?_) ?_
                · skip
                  obtain ⟨y00, y01, y02, yf0⟩ := P6.out.cells3
                  go_simp
                  clear y00 y01 y02 yf0
                  refine named_store3 P6.out ?_
                  intro Ws9 hbk hgr hsz
                  have hsz4 := hid hsz
                  clear hsz
                  replace P7 := hid (P7.out.grown hgr (fun e => P6.out.ne P7.out (by decide) (by simpa using e.symm)))
                  replace MN := hid (mem_kept MN.out F6.out hgr)
                  replace HQ := hid (HQ.out.grown hgr HQ.out.size (fun r e => by cases e; have := hszd.out; have := hsz0.out; have := hsz1.out; have := hsz2.out; have := hsz3.out; have := hsz4.out; omega))
                  replace P6 := hid hbk
                  clear hbk hgr
                  have hS' : (fun W' : World => W'.cell? ⟨w.heap.size, 0, none⟩ = some (.slice A n c) ∧ W'.cell? ⟨w.heap.size, 1, none⟩ = some (.slice B k d) ∧ W'.cell? ⟨w.heap.size, 2, none⟩ = some (.bool f) ∧ W'.cell? ⟨w.heap.size + 1, 0, none⟩ = some (.int .i64 a) ∧ W'.cell? ⟨w.heap.size + 1, 1, none⟩ = some (.int .i64 p) ∧ W'.cell? ⟨w.heap.size + 1, 2, none⟩ = some (.int .u64 t)) _ := ⟨(XQPX.out.step HQ.out).cells3.1, (XQPX.out.step HQ.out).cells3.2.1, (XQPX.out.step HQ.out).cells3.2.2.1, (XQPS.out.step HQ.out).cells3.1, (XQPS.out.step HQ.out).cells3.2.1, (XQPS.out.step HQ.out).cells3.2.2.1⟩
                  refine hK.out _ _ hS' (fun _ => ?_)
                  clear hK K hS
                  have hS := hS'
                  clear hS'
                  (try simp only [Act.put, List.setIfInBounds_toArray, List.set_cons_zero, List.set_cons_succ])
                  refine wpAnyH_ready (rs := [10]) (by kernel_rfl) (by simp) ?_
                  refine AllReadyH.cons (by simp only [List.getElem?_toArray, List.getElem?_cons_succ, List.getElem?_cons_zero]; rfl) (fun K hK => ?_) ?_
                  · skip
                    obtain ⟨y00, y01, y02, yf0⟩ := P7.out.cells3
                    go_simp
                    clear y00 y01 y02 yf0
                    refine named_store3 P7.out ?_
                    intro Ws10 hbk hgr hsz
                    have hsz5 := hid hsz
                    clear hsz
                    replace P6 := hid (P6.out.grown hgr (fun e => P6.out.ne P7.out (by decide) (by simpa using e)))
                    replace MN := hid (mem_kept MN.out F7.out hgr)
                    replace HQ := hid (HQ.out.grown hgr HQ.out.size (fun r e => by cases e; have := hszd.out; have := hsz0.out; have := hsz1.out; have := hsz2.out; have := hsz3.out; have := hsz4.out; have := hsz5.out; omega))
                    replace P7 := hid hbk
                    clear hbk hgr
                    have hS' : (fun W' : World => W'.cell? ⟨w.heap.size, 0, none⟩ = some (.slice A n c) ∧ W'.cell? ⟨w.heap.size, 1, none⟩ = some (.slice B k d) ∧ W'.cell? ⟨w.heap.size, 2, none⟩ = some (.bool f) ∧ W'.cell? ⟨w.heap.size + 1, 0, none⟩ = some (.int .i64 a) ∧ W'.cell? ⟨w.heap.size + 1, 1, none⟩ = some (.int .i64 p) ∧ W'.cell? ⟨w.heap.size + 1, 2, none⟩ = some (.int .u64 t)) _ := ⟨(XQPX.out.step HQ.out).cells3.1, (XQPX.out.step HQ.out).cells3.2.1, (XQPX.out.step HQ.out).cells3.2.2.1, (XQPS.out.step HQ.out).cells3.1, (XQPS.out.step HQ.out).cells3.2.1, (XQPS.out.step HQ.out).cells3.2.2.1⟩
                    refine hK.out _ _ hS' (fun _ => ?_)
                    clear hK K hS
                    have hS := hS'
                    clear hS'
                    (try simp only [Act.put, List.setIfInBounds_toArray, List.set_cons_zero, List.set_cons_succ])
                    refine wpAnyH_done (by kernel_rfl) ?_ _
                    refine NoPanic.normal ?_
                    clear hS
                    go_wp2_with fail
                    go_meet
                    exact ⟨_, _, A3, c3, B3, d3, rfl, rfl, ⟨P6.out, P7.out, MN.out, HQ.out⟩⟩
                  exact AllReadyH.nil
                exact AllReadyH.nil
              exact AllReadyH.nil
            exact AllReadyH.nil
          exact AllReadyH.nil
        exact AllReadyH.nil
    case rest =>
      as_aux_lemma =>
        obtain ⟨g15, g16, A3, c3, B3, d3, rfl, rfl, hmid⟩ := hcut
        rename World => W14
        have hb := hmid.be
        have P6 := hid hmid.b6; have P7 := hid hmid.b7; have MN := hid hmid.mem
        clear hmid
        replace HX := hid (HX.out.step hb); replace HY := hid (HY.out.step hb); replace PX := hid (PX.out.step hb); replace PS := hid (PS.out.step hb); replace PM := hid (PM.out.step hb); replace M2 := hid (M2.out.step hb); replace M7 := hid (M7.out.step hb); replace PN := hid (PN.out.step hb); replace PT := hid (PT.out.step hb); replace HB := hid (below_then HB.out hb); replace H6 := hid (below_then H6.out hb)
        clear hb XQX XQY XQPX XQPS HQ
        have hns := neqs_spn sa sp st
        have HSN := hid (show sameM (sw, sl, sf) (sw, sl, sf) = true from decide_eq_true ⟨rfl, rfl, rfl⟩)
        obtain ⟨y00, y01, y02, yf0⟩ := PN.out.cells3
        obtain ⟨y10, y11, y12, yf1⟩ := PT.out.cells3
        obtain ⟨y20, y21, y22, yf2⟩ := P6.out.cells3
        obtain ⟨y30, y31, y32, yf3⟩ := P7.out.cells3
        go_wp2_with fail
        clear hns y00 y01 y02 yf0 y10 y11 y12 yf1 y20 y21 y22 yf2 y30 y31 y32 yf3
        refine (rmsame_any A7 n7 c7 B7 k7 d7 sf sw sl A3 k2 c3 B3 k2 d3 sf sw sl _ M7.out.mem MN.out).mono ?_
        rintro e w15 ⟨rfl, hb⟩
        replace HX := hid (HX.out.step hb); replace HY := hid (HY.out.step hb); replace PX := hid (PX.out.step hb); replace PS := hid (PS.out.step hb); replace PM := hid (PM.out.step hb); replace M2 := hid (M2.out.step hb); replace M7 := hid (M7.out.step hb); replace PN := hid (PN.out.step hb); replace PT := hid (PT.out.step hb); replace P6 := hid (P6.out.step hb); replace P7 := hid (P7.out.step hb); replace MN := hid (MN.out.step hb); replace HB := hid (below_then HB.out hb); replace H6 := hid (below_then H6.out hb)
        clear hb
        rw [HSN.out]
        obtain ⟨y00, y01, y02, yf0⟩ := PN.out.cells3
        go_wp2_with fail
        clear y00 y01 y02 yf0
        have H15 := hid (show LpI W6 w15 A7 n7 c7 B7 k7 d7 sf w7.heap.size from ⟨⟨sw, M7.out.oa⟩, PN.out, H6.out⟩)
        have hn7 := M7.out.hn
        clear HX HY PX PS PM M2 M7 PT P6 P7 MN HB PN
        go_loopw [160] (fun i wr => ∃ j : Nat, j ≤ n7 ∧ i = .int .i64 j ∧ LpI W6 wr A7 n7 c7 B7 k7 d7 sf w7.heap.size) (fun i _ => n7 - (intOf i).toNat)
        case atStart => exact ⟨0, Nat.zero_le _, rfl, H15.out⟩
        case round =>
          obtain ⟨j, hj, rfl, hI⟩ := hrel
          clear H15 H6
          by_cases hjl : j < n7
          · skip
            obtain ⟨⟨vs, ho⟩, hpn, hbe⟩ := hI
            obtain ⟨g, hA, hlo, hhi, hce, hfz⟩ := ho.at_ 0 hjl
            subst hA
            have hgn := hid (show w7.heap.size ≠ g from fun e => ho.ne_blk hpn tne1 ⟨g, 0, none⟩ rfl e.symm)
            obtain ⟨v, hv⟩ : ∃ v, v = vs[j]?.getD 0 := ⟨_, rfl⟩
            rw [← hv] at hce
            have OA := hid ho; have OP := hid hpn; have OB := hid hbe
            have hji : (j : Int) < (n7 : Int) := by omega
            clear ho hpn hbe hv
            obtain ⟨y00, y01, y02, yf0⟩ := OP.out.cells3
            dsimp only [u64v] at hce
            go_wp2
            exact ⟨⟨j + 1, by omega, by simp, ⟨⟨_, OA.out.stored j _⟩, OP.out.far hgn.out _, OB.out.setCell hlo _⟩⟩, by simp [intOf]; omega⟩
          obtain rfl : n7 = j := by omega
          have H16 := hid hI.be
          clear hI
          have HX := hid (XX.out.step H16.out); have HY := hid (XY.out.step H16.out); have PX := hid (XPX.out.step H16.out); have PM := hid (XPM.out.step H16.out); have M2 := hid (XM2.out.step H16.out); have HB := hid (below_then XB.out H16.out)
          have hjn : ¬ ((n7 : Int) < (n7 : Int)) := by omega
          clear XX XY XPX XPM XM2 XB H16
          go_upto_region 28 with fail
          have bx := (Below.refl wr.heap.size wr).drew
          replace HX := hid (HX.out.step bx); replace HY := hid (HY.out.step bx); replace PX := hid (PX.out.step bx); replace PM := hid (PM.out.step bx); replace M2 := hid (M2.out.step bx); replace HB := hid (below_then HB.out bx)
          clear bx
          have hszd := hid (show wr.drew.heap.size = wr.heap.size from rfl)
          refine wp_region_noPanic ?_
          refine wp_region_held_drew (S := (fun W' : World => W'.cell? ⟨w2.heap.size, 0, none⟩ = some (.slice A2 k2 c2) ∧ W'.cell? ⟨w2.heap.size, 1, none⟩ = some (.slice B2 k2 d2) ∧ W'.cell? ⟨w2.heap.size, 2, none⟩ = some (.bool f) ∧ W'.cell? ⟨w.heap.size, 0, none⟩ = some (.slice A n c) ∧ W'.cell? ⟨w.heap.size, 1, none⟩ = some (.slice B k d) ∧ W'.cell? ⟨w.heap.size, 2, none⟩ = some (.bool f))) (by kernel_rfl) ⟨PM.out.cells3.1, PM.out.cells3.2.1, PM.out.cells3.2.2.1, PX.out.cells3.1, PX.out.cells3.2.1, PX.out.cells3.2.2.1⟩ (fun hS => ?_)
          generalize wr.drew = Wd at *
          refine wpAnyH_take (i := 0) (v := ?_) (by simp only [List.getElem?_toArray, List.getElem?_cons_succ, List.getElem?_cons_zero]; rfl) (by kernel_rfl) (by kernel_rfl) (by kernel_rfl) (fun _ _ _ h => h) (Or.inl ⟨by rfl, ?_⟩) hS ?_
          rotate_left
          · intro w' hSw; (try dsimp only at hSw); go_split_ands; go_simp; (try with_reducible rfl)
          (try simp only [Act.put, List.setIfInBounds_toArray, List.set_cons_zero, List.set_cons_succ])
          refine wpAnyH_take (i := 1) (v := ?_) (by simp only [List.getElem?_toArray, List.getElem?_cons_succ, List.getElem?_cons_zero]; rfl) (by kernel_rfl) (by kernel_rfl) (by kernel_rfl) (fun _ _ _ h => h) (Or.inl ⟨by rfl, ?_⟩) hS ?_
          rotate_left
          · intro w' hSw; (try dsimp only at hSw); go_split_ands; go_simp; (try with_reducible rfl)
          (try simp only [Act.put, List.setIfInBounds_toArray, List.set_cons_zero, List.set_cons_succ])
          refine wpAnyH_ready (rs := [2]) (by kernel_rfl) (by simp) ?_
          refine AllReadyH.cons (by simp only [List.getElem?_toArray, List.getElem?_cons_succ, List.getElem?_cons_zero]; rfl) (fun K hK => ?_) ?_
          · skip
            go_simp
            refine (lown_r A n c B k d f xs ys _ HX.out HY.out hnc hkd).mono ?_
            rintro e w18 ⟨A9, n9, c9, B9, k9, d9, rfl, oa, ob, hb, hn9, hk9⟩
            have hsz0 := hid (show Wd.heap.size ≤ w18.heap.size from hb.size)
            replace HX := hid (HX.out.step hb); replace HY := hid (HY.out.step hb); replace PX := hid (PX.out.step hb); replace PM := hid (PM.out.step hb); replace M2 := hid (M2.out.step hb); replace HB := hid (below_then HB.out hb)
            clear hb
            rw [← HWS.out] at oa
            rw [← HLS.out] at ob
            have M9 := hid (Mem.ofOw oa ob (by omega) (by omega))
            clear oa ob
            go_wp2_with fail
            have hS' : (fun W' : World => W'.cell? ⟨w2.heap.size, 0, none⟩ = some (.slice A2 k2 c2) ∧ W'.cell? ⟨w2.heap.size, 1, none⟩ = some (.slice B2 k2 d2) ∧ W'.cell? ⟨w2.heap.size, 2, none⟩ = some (.bool f) ∧ W'.cell? ⟨w.heap.size, 0, none⟩ = some (.slice A n c) ∧ W'.cell? ⟨w.heap.size, 1, none⟩ = some (.slice B k d) ∧ W'.cell? ⟨w.heap.size, 2, none⟩ = some (.bool f)) _ := ⟨PM.out.cells3.1, PM.out.cells3.2.1, PM.out.cells3.2.2.1, PX.out.cells3.1, PX.out.cells3.2.1, PX.out.cells3.2.2.1⟩
            refine hK.out _ _ hS' (fun _ => ?_)
            clear hK K hS
            have hS := hS'
            clear hS'
            (try simp only [Act.put, List.setIfInBounds_toArray, List.set_cons_zero, List.set_cons_succ])
            refine wpAnyH_ready (rs := [3]) (by kernel_rfl) (by simp) ?_
            refine AllReadyH.cons (by simp only [List.getElem?_toArray, List.getElem?_cons_succ, List.getElem?_cons_zero]; rfl) (fun K hK => ?_) ?_
            · skip
              go_simp
              refine (rmsame_any A2 k2 c2 B2 k2 d2 f ws ls A9 n9 c9 B9 k9 d9 f ws ls _ M2.out M9.out).mono ?_
              rintro e w19 ⟨rfl, hb⟩
              have hsz1 := hid (show w18.heap.size ≤ w19.heap.size from hb.size)
              replace HX := hid (HX.out.step hb); replace HY := hid (HY.out.step hb); replace PX := hid (PX.out.step hb); replace PM := hid (PM.out.step hb); replace M2 := hid (M2.out.step hb); replace M9 := hid (M9.out.step hb); replace HB := hid (below_then HB.out hb)
              clear hb
              rw [HS2.out]
              go_wp2_with fail
              have hS' : (fun W' : World => W'.cell? ⟨w2.heap.size, 0, none⟩ = some (.slice A2 k2 c2) ∧ W'.cell? ⟨w2.heap.size, 1, none⟩ = some (.slice B2 k2 d2) ∧ W'.cell? ⟨w2.heap.size, 2, none⟩ = some (.bool f) ∧ W'.cell? ⟨w.heap.size, 0, none⟩ = some (.slice A n c) ∧ W'.cell? ⟨w.heap.size, 1, none⟩ = some (.slice B k d) ∧ W'.cell? ⟨w.heap.size, 2, none⟩ = some (.bool f)) _ := ⟨PM.out.cells3.1, PM.out.cells3.2.1, PM.out.cells3.2.2.1, PX.out.cells3.1, PX.out.cells3.2.1, PX.out.cells3.2.2.1⟩
              refine hK.out _ _ hS' (fun _ => ?_)
              clear hK K hS
              have hS := hS'
              clear hS'
              (try simp only [Act.put, List.setIfInBounds_toArray, List.set_cons_zero, List.set_cons_succ])
              refine wpAnyH_take (i := 4) (v := ?_) (by simp only [List.getElem?_toArray, List.getElem?_cons_succ, List.getElem?_cons_zero]; rfl) (by kernel_rfl) (by kernel_rfl) (by kernel_rfl) (fun _ _ _ h => h) (Or.inl ⟨by rfl, ?_⟩) hS ?_
              rotate_left
              · intro w' hSw; (try dsimp only at hSw); go_split_ands; go_simp; (try with_reducible rfl)
              (try simp only [Act.put, List.setIfInBounds_toArray, List.set_cons_zero, List.set_cons_succ])
              refine wpAnyH_done (by kernel_rfl) ?_ _
              refine NoPanic.normal ?_
              clear hS
              go_wp2
              refine bodyPost_ret (v := .bool true) (by simp [results, Try.results5, go_sem]) rfl ⟨rfl, HB.out⟩
            exact AllReadyH.nil
          exact AllReadyH.nil
end Go.Proofs.Ytaeanmkbongfcaa
