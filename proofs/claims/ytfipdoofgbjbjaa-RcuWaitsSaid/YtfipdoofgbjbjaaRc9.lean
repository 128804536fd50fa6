/- package rcu: pick. No condition but sizes. -/
import Derived.Test.YtfipdoofgbjbjaaRc8
namespace Go.Proofs.Ytfipdoofgbjbjaa
open Go.RowKit
attribute [local go_sem] Oper.semAt_some
/-- queues behind a pick -/
def overs (d d' : Int) (qs : List (List Cb × Int)) : List (List Cb × Int) := if d < d' then qs.map (fun q => (q.1, d')) else qs
theorem gPick_dn {g : Gr} (h : GrOk g) (k : Nat) (q : Bool) : g.dn ≤ (gPick g k q).dn ∧ (gPick g k q).dn ≤ g.dn + 1 := by
  unfold gPick gReport gBegin
  split
  · split
    · exact ⟨by show g.dn ≤ g.dn + 1; omega, Int.le_refl _⟩
    · exact ⟨Int.le_refl _, by show g.dn ≤ g.dn + 1; omega⟩
  · split
    · exact ⟨Int.le_refl _, by show g.dn ≤ g.dn + 1; omega⟩
    · exact ⟨Int.le_refl _, by omega⟩
set_option maxRecDepth 100000 in
set_option maxHeartbeats 8000000 in
theorem rpick_any (l gc : Nat) (s : St) (g : Gr) (es : List Qe) (cp : Nat) (what : Int) (ran : List Int) (a : Ra) (R : Option Addr) (nr kr : Nat) (w : World) (h : CA w l gc s g es cp what ran a R nr kr) (hk : cp < g.nd.length) (hkq : 1 ≤ a.nq) (hnq : a.nq ≤ 1000) (hg : GrOk g)
    (q : Bool) (hq : decide (QuietP s.1 s.2.1 s.2.2 cp) = q) (hqs : ∀ x ∈ es, QGood x.o x.l ∧ x.o = g.dn) :
    Calls Try.prog 39 #[ptr gc] w fun x' w' => x' = .returned (.tuple #[]) ∧ (∃ a', a'.Q = a.Q ∧ a'.nq = a.nq ∧ a'.kq = a.kq ∧ ∃ es', ql es' = overs g.dn (gPick g cp q).dn (ql es) ∧ CA w' l gc s (gPick g cp q) es' cp what ran a' R nr kr) ∧ GrownP (CS gc a.Q R) w w' := by
  obtain ⟨A, n, k, B, m, d, D, kd, Q, nq, kq⟩ := a
  obtain ⟨now, ns, os⟩ := s
  have hkq : 1 ≤ nq := hkq
  have hnq : nq ≤ 1000 := hnq
  have HB := hid (Below.refl w.heap.size w); have HX := hid h.cx; have PC := hid h.box; have HGK := hid hg; have HQS := hid hqs; have HQ := hid hq
  obtain ⟨gQ, hQ, _, _, _, _⟩ := h.q_at (k := 0) (by show 0 < nq; omega)
  have hQ : Q = some ⟨gQ, 0, none⟩ := hQ
  have HLT := hid h.cx.lts; have hlw := hid (show gc < w.heap.size from h.box.lt)
  have HRL := hid (show ∀ b, R = some b → b.block < w.heap.size from fun b hb => by obtain ⟨_, cs, q⟩ := h.rn.blk b hb; exact q.lt)
  have HPF := hid (show gpickF g (cp : Int) q = (0, gPick g cp q) from by unfold gpickF; rw [if_pos ⟨by omega, by omega⟩, Int.toNat_natCast])
  have HDN := hid (gPick_dn hg cp q)
  have hl := hid (show es.length = nq from h.qs.len)
  clear h hg hqs hq
  subst hQ
  have hgQ := hid (show gQ < w.heap.size from HLT.out.1 _ rfl)
  have hcq := hid (show gc ≠ gQ from fun e => HX.out.qs.ne_blk PC.out (by decide) _ rfl e.symm)
  obtain ⟨g2, hg2⟩ : ∃ g2, g2 = gPick g cp q := ⟨_, rfl⟩
  rw [← hg2] at HPF HDN ⊢
  clear hg2
  go_enter Try.func39, Try.ntmps39
  obtain ⟨y0, y1, y2, y3, y4, y5, y6, y7, y8, y9, y10, yf⟩ := PC.out.cells11
  go_upto_region 1 with fail
  clear y0 y1 y2 y3 y4 y5 y6 y7 y8 y9 y10 yf
  have bx := (Below.refl w.heap.size w).drew
  replace HX := hid (HX.out.step bx); replace PC := hid (PC.out.step bx); replace HB := hid (below_then HB.out bx)
  clear bx
  have hszd := hid (show w.drew.heap.size = w.heap.size from rfl)
  refine wp_region_noPanic ?_
  refine wp_region_held_tail 24 (fun W' : World => W'.cell? ⟨gc, 0, none⟩ = some (.int .i64 now) ∧ W'.cell? ⟨gc, 1, none⟩ = some (.slice A n k) ∧ W'.cell? ⟨gc, 2, none⟩ = some (.slice B m d) ∧ W'.cell? ⟨gc, 3, none⟩ = some (.int .i64 g.dn) ∧ W'.cell? ⟨gc, 4, none⟩ = some (.int .i64 g.ak) ∧ W'.cell? ⟨gc, 5, none⟩ = some (.bool g.on) ∧ W'.cell? ⟨gc, 6, none⟩ = some (.slice D g.nd.length kd) ∧ W'.cell? ⟨gc, 8, none⟩ = some (.int .i64 cp)) #[false, false, false, false, false, false, false, false, false, false, false, false, false, false, false, false, false, false, false, false, false, false, false, false, false, false, false, false] (by kernel_rfl) ⟨PC.out.cells11.1, PC.out.cells11.2.1, PC.out.cells11.2.2.1, PC.out.cells11.2.2.2.1, PC.out.cells11.2.2.2.2.1, PC.out.cells11.2.2.2.2.2.1, PC.out.cells11.2.2.2.2.2.2.1, PC.out.cells11.2.2.2.2.2.2.2.2.1⟩ (by kernel_rfl) (by kernel_rfl) (fun hS => ?_)
  generalize w.drew = Wd at *
  refine wpAnyT_take (i := 0) (v := ?_) (by kernel_rfl) (by simp only [List.getElem?_toArray, List.getElem?_cons_succ, List.getElem?_cons_zero]; rfl) (by kernel_rfl) (fun _ _ _ h => h) (Or.inl ⟨by rfl, ?_⟩) hS ?_
  rotate_left
  · intro w' hSw; (try dsimp only at hSw); go_split_ands; go_simp; (try with_reducible rfl)
  (try simp only [Act.put, List.setIfInBounds_toArray, List.set_cons_zero, List.set_cons_succ])
  refine wpAnyT_take (i := 1) (v := ?_) (by kernel_rfl) (by simp only [List.getElem?_toArray, List.getElem?_cons_succ, List.getElem?_cons_zero]; rfl) (by kernel_rfl) (fun _ _ _ h => h) (Or.inl ⟨by rfl, ?_⟩) hS ?_
  rotate_left
  · intro w' hSw; (try dsimp only at hSw); go_split_ands; go_simp; (try with_reducible rfl)
  (try simp only [Act.put, List.setIfInBounds_toArray, List.set_cons_zero, List.set_cons_succ])
  refine wpAnyT_take (i := 2) (v := ?_) (by kernel_rfl) (by simp only [List.getElem?_toArray, List.getElem?_cons_succ, List.getElem?_cons_zero]; rfl) (by kernel_rfl) (fun _ _ _ h => h) (Or.inl ⟨by rfl, ?_⟩) hS ?_
  rotate_left
  · intro w' hSw; (try dsimp only at hSw); go_split_ands; go_simp; (try with_reducible rfl)
  (try simp only [Act.put, List.setIfInBounds_toArray, List.set_cons_zero, List.set_cons_succ])
  refine wpAnyT_take (i := 3) (v := ?_) (by kernel_rfl) (by simp only [List.getElem?_toArray, List.getElem?_cons_succ, List.getElem?_cons_zero]; rfl) (by kernel_rfl) (fun _ _ _ h => h) (Or.inl ⟨by rfl, ?_⟩) hS ?_
  rotate_left
  · intro w' hSw; (try dsimp only at hSw); go_split_ands; go_simp; (try with_reducible rfl)
  (try simp only [Act.put, List.setIfInBounds_toArray, List.set_cons_zero, List.set_cons_succ])
  refine wpAnyT_take (i := 4) (v := ?_) (by kernel_rfl) (by simp only [List.getElem?_toArray, List.getElem?_cons_succ, List.getElem?_cons_zero]; rfl) (by kernel_rfl) (fun _ _ _ h => h) (Or.inl ⟨by rfl, ?_⟩) hS ?_
  rotate_left
  · intro w' hSw; (try dsimp only at hSw); go_split_ands; go_simp; (try with_reducible rfl)
  (try simp only [Act.put, List.setIfInBounds_toArray, List.set_cons_zero, List.set_cons_succ])
  refine wpAnyT_take (i := 5) (v := ?_) (by kernel_rfl) (by simp only [List.getElem?_toArray, List.getElem?_cons_succ, List.getElem?_cons_zero]; rfl) (by kernel_rfl) (fun _ _ _ h => h) (Or.inl ⟨by rfl, ?_⟩) hS ?_
  rotate_left
  · intro w' hSw; (try dsimp only at hSw); go_split_ands; go_simp; (try with_reducible rfl)
  (try simp only [Act.put, List.setIfInBounds_toArray, List.set_cons_zero, List.set_cons_succ])
  refine wpAnyT_take (i := 6) (v := ?_) (by kernel_rfl) (by simp only [List.getElem?_toArray, List.getElem?_cons_succ, List.getElem?_cons_zero]; rfl) (by kernel_rfl) (fun _ _ _ h => h) (Or.inl ⟨by rfl, ?_⟩) hS ?_
  rotate_left
  · intro w' hSw; (try dsimp only at hSw); go_split_ands; go_simp; (try with_reducible rfl)
  (try simp only [Act.put, List.setIfInBounds_toArray, List.set_cons_zero, List.set_cons_succ])
  refine wpAnyT_take (i := 7) (v := ?_) (by kernel_rfl) (by simp only [List.getElem?_toArray, List.getElem?_cons_succ, List.getElem?_cons_zero]; rfl) (by kernel_rfl) (fun _ _ _ h => h) (Or.inl ⟨by rfl, ?_⟩) hS ?_
  rotate_left
  · intro w' hSw; (try dsimp only at hSw); go_split_ands; go_simp; (try with_reducible rfl)
  (try simp only [Act.put, List.setIfInBounds_toArray, List.set_cons_zero, List.set_cons_succ])
  refine wpAnyT_take (i := 8) (v := ?_) (by kernel_rfl) (by simp only [List.getElem?_toArray, List.getElem?_cons_succ, List.getElem?_cons_zero]; rfl) (by kernel_rfl) (fun _ _ _ h => h) (Or.inl ⟨by rfl, ?_⟩) hS ?_
  rotate_left
  · intro w' hSw; (try dsimp only at hSw); go_split_ands; go_simp; (try with_reducible rfl)
  (try simp only [Act.put, List.setIfInBounds_toArray, List.set_cons_zero, List.set_cons_succ])
  refine wpAnyT_take (i := 9) (v := ?_) (by kernel_rfl) (by simp only [List.getElem?_toArray, List.getElem?_cons_succ, List.getElem?_cons_zero]; rfl) (by kernel_rfl) (fun _ _ _ h => h) (Or.inl ⟨by rfl, ?_⟩) hS ?_
  rotate_left
  · intro w' hSw; (try dsimp only at hSw); go_split_ands; go_simp; (try with_reducible rfl)
  (try simp only [Act.put, List.setIfInBounds_toArray, List.set_cons_zero, List.set_cons_succ])
  refine wpAnyT_take (i := 10) (v := ?_) (by kernel_rfl) (by simp only [List.getElem?_toArray, List.getElem?_cons_succ, List.getElem?_cons_zero]; rfl) (by kernel_rfl) (fun _ _ _ h => h) (Or.inl ⟨by rfl, ?_⟩) hS ?_
  rotate_left
  · intro w' hSw; (try dsimp only at hSw); go_split_ands; go_simp; (try with_reducible rfl)
  (try simp only [Act.put, List.setIfInBounds_toArray, List.set_cons_zero, List.set_cons_succ])
  refine wpAnyT_take (i := 11) (v := ?_) (by kernel_rfl) (by simp only [List.getElem?_toArray, List.getElem?_cons_succ, List.getElem?_cons_zero]; rfl) (by kernel_rfl) (fun _ _ _ h => h) (Or.inl ⟨by rfl, ?_⟩) hS ?_
  rotate_left
  · intro w' hSw; (try dsimp only at hSw); go_split_ands; go_simp; (try with_reducible rfl)
  (try simp only [Act.put, List.setIfInBounds_toArray, List.set_cons_zero, List.set_cons_succ])
  refine wpAnyT_take (i := 12) (v := ?_) (by kernel_rfl) (by simp only [List.getElem?_toArray, List.getElem?_cons_succ, List.getElem?_cons_zero]; rfl) (by kernel_rfl) (fun _ _ _ h => h) (Or.inl ⟨by rfl, ?_⟩) hS ?_
  rotate_left
  · intro w' hSw; (try dsimp only at hSw); go_split_ands; go_simp; (try with_reducible rfl)
  (try simp only [Act.put, List.setIfInBounds_toArray, List.set_cons_zero, List.set_cons_succ])
  refine wpAnyT_take (i := 13) (v := ?_) (by kernel_rfl) (by simp only [List.getElem?_toArray, List.getElem?_cons_succ, List.getElem?_cons_zero]; rfl) (by kernel_rfl) (fun _ _ _ h => h) (Or.inl ⟨by rfl, ?_⟩) hS ?_
  rotate_left
  · intro w' hSw; (try dsimp only at hSw); go_split_ands; go_simp; (try with_reducible rfl)
  (try simp only [Act.put, List.setIfInBounds_toArray, List.set_cons_zero, List.set_cons_succ])
  refine wpAnyT_take (i := 14) (v := ?_) (by kernel_rfl) (by simp only [List.getElem?_toArray, List.getElem?_cons_succ, List.getElem?_cons_zero]; rfl) (by kernel_rfl) (fun _ _ _ h => h) (Or.inl ⟨by rfl, ?_⟩) hS ?_
  rotate_left
  · intro w' hSw; (try dsimp only at hSw); go_split_ands; go_simp; (try with_reducible rfl)
  (try simp only [Act.put, List.setIfInBounds_toArray, List.set_cons_zero, List.set_cons_succ])
  refine wpAnyT_take (i := 15) (v := ?_) (by kernel_rfl) (by simp only [List.getElem?_toArray, List.getElem?_cons_succ, List.getElem?_cons_zero]; rfl) (by kernel_rfl) (fun _ _ _ h => h) (Or.inl ⟨by rfl, ?_⟩) hS ?_
  rotate_left
  · intro w' hSw; (try dsimp only at hSw); go_split_ands; go_simp; (try with_reducible rfl)
  (try simp only [Act.put, List.setIfInBounds_toArray, List.set_cons_zero, List.set_cons_succ])
  refine wpAnyT_take (i := 16) (v := ?_) (by kernel_rfl) (by simp only [List.getElem?_toArray, List.getElem?_cons_succ, List.getElem?_cons_zero]; rfl) (by kernel_rfl) (fun _ _ _ h => h) (Or.inl ⟨by rfl, ?_⟩) hS ?_
  rotate_left
  · intro w' hSw; (try dsimp only at hSw); go_split_ands; go_simp; (try with_reducible rfl)
  (try simp only [Act.put, List.setIfInBounds_toArray, List.set_cons_zero, List.set_cons_succ])
  refine wpAnyT_take (i := 17) (v := ?_) (by kernel_rfl) (by simp only [List.getElem?_toArray, List.getElem?_cons_succ, List.getElem?_cons_zero]; rfl) (by kernel_rfl) (fun _ _ _ h => h) (Or.inl ⟨by rfl, ?_⟩) hS ?_
  rotate_left
  · intro w' hSw; (try dsimp only at hSw); go_split_ands; go_simp; (try with_reducible rfl)
  (try simp only [Act.put, List.setIfInBounds_toArray, List.set_cons_zero, List.set_cons_succ])
  refine wpAnyT_take (i := 18) (v := ?_) (by kernel_rfl) (by simp only [List.getElem?_toArray, List.getElem?_cons_succ, List.getElem?_cons_zero]; rfl) (by kernel_rfl) (fun _ _ _ h => h) (Or.inl ⟨by rfl, ?_⟩) hS ?_
  rotate_left
  · intro w' hSw; (try dsimp only at hSw); go_split_ands; go_simp; (try with_reducible rfl)
  (try simp only [Act.put, List.setIfInBounds_toArray, List.set_cons_zero, List.set_cons_succ])
  refine wpAnyT_ready [19] (by kernel_rfl) (by simp) ?_
  refine AllReadyT.cons (by simp only [List.getElem?_toArray, List.getElem?_cons_succ, List.getElem?_cons_zero]; rfl) rfl (fun K hK => ?_) ?_
  · skip
    go_simp
    refine ((show Calls Try.prog 61 #[rv now A n k B m d, .int .i64 cp] _ (fun e w' => e = .returned (.bool q) ∧ Below _ _ w') from HQ.out ▸ quiet_any now A n k B m d ns os cp _ HX.out.ro.rds)).mono ?_
    rintro e w19 ⟨rfl, hb⟩
    have hsz0 := hid (show Wd.heap.size ≤ w19.heap.size from hb.size)
    replace HX := hid (HX.out.step hb); replace PC := hid (PC.out.step hb); replace HB := hid (below_then HB.out hb)
    clear hb
    go_wp2_with fail
    have hS' : (fun W' : World => W'.cell? ⟨gc, 0, none⟩ = some (.int .i64 now) ∧ W'.cell? ⟨gc, 1, none⟩ = some (.slice A n k) ∧ W'.cell? ⟨gc, 2, none⟩ = some (.slice B m d) ∧ W'.cell? ⟨gc, 3, none⟩ = some (.int .i64 g.dn) ∧ W'.cell? ⟨gc, 4, none⟩ = some (.int .i64 g.ak) ∧ W'.cell? ⟨gc, 5, none⟩ = some (.bool g.on) ∧ W'.cell? ⟨gc, 6, none⟩ = some (.slice D g.nd.length kd) ∧ W'.cell? ⟨gc, 8, none⟩ = some (.int .i64 cp)) _ := ⟨PC.out.cells11.1, PC.out.cells11.2.1, PC.out.cells11.2.2.1, PC.out.cells11.2.2.2.1, PC.out.cells11.2.2.2.2.1, PC.out.cells11.2.2.2.2.2.1, PC.out.cells11.2.2.2.2.2.2.1, PC.out.cells11.2.2.2.2.2.2.2.2.1⟩
    refine hK.out _ _ hS' ?_
    clear hK K hS
    have hS := hS'
    clear hS'
    (try simp only [Act.put, List.setIfInBounds_toArray, List.set_cons_zero, List.set_cons_succ])
    refine wpAnyT_ready [20] (by kernel_rfl) (by simp) ?_
    refine AllReadyT.cons (by simp only [List.getElem?_toArray, List.getElem?_cons_succ, List.getElem?_cons_zero]; rfl) rfl (fun K hK => ?_) ?_
    · skip
      go_simp
      refine ((show Calls Try.prog 60 #[gv g D g.nd.length kd, .int .i64 cp, .bool q] _ (GPickPost _ (0, g2)) from HPF.out ▸ gpick_any g D kd cp q _ ((HX.out.gd.sl (d := false)).mono (Nat.zero_le _) (Nat.le_refl _)) HGK.out)).mono ?_
      rintro e w20 ⟨D2, kd2, rfl, hd, hb⟩
      have hsz1 := hid (show w19.heap.size ≤ w20.heap.size from hb.size)
      replace HX := hid (HX.out.step hb); replace PC := hid (PC.out.step hb); replace HB := hid (below_then HB.out hb)
      clear hb
      have DO := hid (hd.mono (show l ≤ w19.heap.size by have := HX.out.lg; have := hlw.out; have := hszd.out; have := hsz0.out; omega))
      clear hd
      go_wp2_with fail
      have hS' : (fun W' : World => W'.cell? ⟨gc, 0, none⟩ = some (.int .i64 now) ∧ W'.cell? ⟨gc, 1, none⟩ = some (.slice A n k) ∧ W'.cell? ⟨gc, 2, none⟩ = some (.slice B m d) ∧ W'.cell? ⟨gc, 3, none⟩ = some (.int .i64 g.dn) ∧ W'.cell? ⟨gc, 4, none⟩ = some (.int .i64 g.ak) ∧ W'.cell? ⟨gc, 5, none⟩ = some (.bool g.on) ∧ W'.cell? ⟨gc, 6, none⟩ = some (.slice D g.nd.length kd) ∧ W'.cell? ⟨gc, 8, none⟩ = some (.int .i64 cp)) _ := ⟨PC.out.cells11.1, PC.out.cells11.2.1, PC.out.cells11.2.2.1, PC.out.cells11.2.2.2.1, PC.out.cells11.2.2.2.2.1, PC.out.cells11.2.2.2.2.2.1, PC.out.cells11.2.2.2.2.2.2.1, PC.out.cells11.2.2.2.2.2.2.2.2.1⟩
      refine hK.out _ _ hS' ?_
      clear hK K hS
      have hS := hS'
      clear hS'
      (try simp only [Act.put, List.setIfInBounds_toArray, List.set_cons_zero, List.set_cons_succ])
      refine wpAnyT_take (i := 21) (v := ?_) (by kernel_rfl) (by simp only [List.getElem?_toArray, List.getElem?_cons_succ, List.getElem?_cons_zero]; rfl) (by kernel_rfl) (fun _ _ _ h => h) (Or.inl ⟨by rfl, ?_⟩) hS ?_
      rotate_left
      · intro w' hSw; (try dsimp only at hSw); go_split_ands; go_simp; (try with_reducible rfl)
      (try simp only [Act.put, List.setIfInBounds_toArray, List.set_cons_zero, List.set_cons_succ])
      refine wpAnyT_take (i := 22) (v := ?_) (by kernel_rfl) (by simp only [List.getElem?_toArray, List.getElem?_cons_succ, List.getElem?_cons_zero]; rfl) (by kernel_rfl) (fun _ _ _ h => h) (Or.inl ⟨by rfl, ?_⟩) hS ?_
      rotate_left
      · intro w' hSw; (try dsimp only at hSw); go_split_ands; go_simp; (try with_reducible rfl)
      (try simp only [Act.put, List.setIfInBounds_toArray, List.set_cons_zero, List.set_cons_succ])
      refine wpAnyT_ready [23] (by kernel_rfl) (by simp) ?_
      refine AllReadyT.cons (by simp only [List.getElem?_toArray, List.getElem?_cons_succ, List.getElem?_cons_zero]; rfl) rfl (fun K hK => ?_) ?_
      · skip
        go_simp
        refine (sureG_yes g2.dn g2.ak g2.on D2 g2.nd.length kd2 _).mono ?_
        rintro e w23 ⟨rfl, hb⟩
        have hsz2 := hid (show w20.heap.size ≤ w23.heap.size from hb.size)
        replace HX := hid (HX.out.step hb); replace PC := hid (PC.out.step hb); replace DO := hid (DO.out.step hb); replace HB := hid (below_then HB.out hb)
        clear hb
        go_wp2_with fail
        have hS' : (fun W' : World => W'.cell? ⟨gc, 0, none⟩ = some (.int .i64 now) ∧ W'.cell? ⟨gc, 1, none⟩ = some (.slice A n k) ∧ W'.cell? ⟨gc, 2, none⟩ = some (.slice B m d) ∧ W'.cell? ⟨gc, 3, none⟩ = some (.int .i64 g.dn) ∧ W'.cell? ⟨gc, 4, none⟩ = some (.int .i64 g.ak) ∧ W'.cell? ⟨gc, 5, none⟩ = some (.bool g.on) ∧ W'.cell? ⟨gc, 6, none⟩ = some (.slice D g.nd.length kd) ∧ W'.cell? ⟨gc, 8, none⟩ = some (.int .i64 cp)) _ := ⟨PC.out.cells11.1, PC.out.cells11.2.1, PC.out.cells11.2.2.1, PC.out.cells11.2.2.2.1, PC.out.cells11.2.2.2.2.1, PC.out.cells11.2.2.2.2.2.1, PC.out.cells11.2.2.2.2.2.2.1, PC.out.cells11.2.2.2.2.2.2.2.2.1⟩
        refine hK.out _ _ hS' ?_
        clear hK K hS
        have hS := hS'
        clear hS'
        (try simp only [Act.put, List.setIfInBounds_toArray, List.set_cons_zero, List.set_cons_succ])
        refine wpAnyT_done (by kernel_rfl) ?_
        simp only [List.drop_succ_cons, List.drop_zero]
        clear hS
        obtain ⟨y0, y1, y2, y3, y4, y5, y6, y7, y8, y9, y10, yf⟩ := PC.out.cells11
        go_wp2_with fail
        refine NoPanic.normal ?_
        clear y0 y1 y2 y3 y4 y5 y6 y7 y8 y9 y10 yf
        have hgr := (grown_set (grown_set (grown_set (grown_set (World.grownBy.refl w23 (some gc)) 3 (.int .i64 g2.dn)) 4 (.int .i64 g2.ak)) 5 (.bool g2.on)) 6 (.slice D2 g2.nd.length kd2))
        replace HX := hid (show CX ((((w23.setCell ⟨gc, 3, none⟩ (.int .i64 g2.dn)).setCell ⟨gc, 4, none⟩ (.int .i64 g2.ak)).setCell ⟨gc, 5, none⟩ (.bool g2.on)).setCell ⟨gc, 6, none⟩ (.slice D2 g2.nd.length kd2)) l gc (now, ns, os) g2 es ran ⟨A, n, k, B, m, d, D2, kd2, some ⟨gQ, 0, none⟩, nq, kq⟩ R nr kr from (HX.out.regd DO.out).boxed PC.out hgr)
        have HG := hid ((GrownP.ofBelow (p := CS gc (some ⟨gQ, 0, none⟩) R) HB.out).thenG hgr (fun r e => by cases e; exact .inr (.inl rfl)))
        replace PC := hid (show Blk ((((w23.setCell ⟨gc, 3, none⟩ (.int .i64 g2.dn)).setCell ⟨gc, 4, none⟩ (.int .i64 g2.ak)).setCell ⟨gc, 5, none⟩ (.bool g2.on)).setCell ⟨gc, 6, none⟩ (.slice D2 g2.nd.length kd2)) gc 79 (ccells (now, ns, os) g2 ⟨A, n, k, B, m, d, D2, kd2, some ⟨gQ, 0, none⟩, nq, kq⟩ cp what R nr kr) from ((((PC.out.setCell 3 (.int .i64 g2.dn)).setCell 4 (.int .i64 g2.ak)).setCell 5 (.bool g2.on)).setCell 6 (.slice D2 g2.nd.length kd2)))
        clear hgr DO HB
        generalize (((w23.setCell ⟨gc, 3, none⟩ (.int .i64 g2.dn)).setCell ⟨gc, 4, none⟩ (.int .i64 g2.ak)).setCell ⟨gc, 5, none⟩ (.bool g2.on)).setCell ⟨gc, 6, none⟩ (.slice D2 g2.nd.length kd2) = W2 at *
        obtain ⟨y0, y1, y2, y3, y4, y5, y6, y7, y8, y9, y10, yf⟩ := PC.out.cells11
        by_cases hgt : g.dn < g2.dn
        rotate_left
        ·skip
         have d1 : decide (g.dn < g2.dn) = false := decide_eq_false hgt
         have d1' : decide (g2.dn > g.dn) = false := decide_eq_false hgt
         have HOV := hid (show overs g.dn g2.dn (ql es) = ql es from if_neg hgt)
         clear hgt
         go_wp2
         (try go_end0)
         refine ⟨rfl, ⟨⟨A, n, k, B, m, d, D2, kd2, some ⟨gQ, 0, none⟩, nq, kq⟩, rfl, rfl, rfl, es, by rw [HOV.out], HX.out.ca PC.out⟩, HG.out⟩
        have d1 : decide (g.dn < g2.dn) = true := decide_eq_true hgt
        have d1' : decide (g2.dn > g.dn) = true := decide_eq_true hgt
        have HOV := hid (show overs g.dn g2.dn (ql es) = (ql es).map (fun q => (q.1, g2.dn)) from if_pos hgt)
        have HGT := hid hgt
        clear hgt
        go_wp2_with fail
        clear d1 d1' y0 y1 y2 y3 y4 y5 y6 y7 y8 y9 y10 yf
        have HW2 := hid HG.out.size
        go_loopw [3, 4, 52] (fun _ _ i W => ∃ (j : Nat) (ej : List Qe), j ≤ nq ∧ i = .int .i64 j ∧ CX W l gc (now, ns, os) g2 ej ran ⟨A, n, k, B, m, d, D2, kd2, some ⟨gQ, 0, none⟩, nq, kq⟩ R nr kr ∧ Blk W gc 79 (ccells (now, ns, os) g2 ⟨A, n, k, B, m, d, D2, kd2, some ⟨gQ, 0, none⟩, nq, kq⟩ cp what R nr kr) ∧ GrownP (CS gc (some ⟨gQ, 0, none⟩) R) w W ∧
          ql ej = ((ql es).take j).map (fun q => (q.1, g2.dn)) ++ (ql es).drop j ∧ (∀ i, j ≤ i → ej[i]?.getD zQe = es[i]?.getD zQe)) (fun _ _ i _ => nq - (intOf i).toNat)
        case atStart => exact ⟨0, es, Nat.zero_le _, rfl, HX.out, PC.out, HG.out, by simp, fun _ _ => rfl⟩
        case round =>
          rename World => Wr
          clear HX PC HG
          obtain ⟨j, ej, hj, rfl, h1, h2, h3, h4, h5⟩ := hrel
          have HX := hid h1; have PC := hid h2; have HG := hid h3; have HQL := hid h4; have HSA := hid h5
          clear h1 h2 h3 h4 h5
          by_cases hjn : j < nq
          rotate_left
          ·skip
           obtain rfl : j = nq := by omega
           have hnn : ¬ ((j : Int) < (j : Int)) := by omega
           have HFI := hid (show ql ej = overs g.dn g2.dn (ql es) from by rw [HQL.out, HOV.out, List.take_of_length_le (by unfold ql; rw [List.length_map, hl.out]; exact Nat.le_refl _), List.drop_eq_nil_of_le (by unfold ql; rw [List.length_map, hl.out]; exact Nat.le_refl _), List.append_nil])
           go_wp2
           (try go_end0)
           refine ⟨rfl, ⟨⟨A, n, k, B, m, d, D2, kd2, some ⟨gQ, 0, none⟩, j, kq⟩, rfl, rfl, rfl, ej, by rw [HFI.out], HX.out.ca PC.out⟩, HG.out⟩
          have hji : (j : Int) < (nq : Int) := by omega
          obtain ⟨x, hx⟩ : ∃ x, x = es[j]?.getD zQe := ⟨_, rfl⟩
          have hlt : j < es.length := by rw [hl.out]; exact hjn
          have hxm : x ∈ es := by rw [hx, List.getElem?_eq_getElem hlt]; exact List.getElem_mem _
          have HXX := hid (show ej[j]?.getD zQe = x by rw [HSA.out j (Nat.le_refl _), hx])
          have HXQ := hid (HQS.out x hxm)
          have HKJ := hid hjn
          have hxe : ej[j]?.getD zQe ∈ ej := by obtain ⟨_, _, _, _, _, h⟩ := HX.out.q_at HKJ.out; exact h
          rw [HXX.out] at hxe
          have HXM := hid hxe
          have HQE := hid (HX.out.qe x hxe)
          have HXN := hid (show (ql es).take (j + 1) = (ql es).take j ++ [(x.l, x.o)] ∧ (ql es).drop j = (x.l, x.o) :: (ql es).drop (j + 1) by
            have e1 : (ql es)[j]? = some (x.l, x.o) := by unfold ql; rw [List.getElem?_map, hx, List.getElem?_eq_getElem hlt]; rfl
            obtain ⟨hlt2, e2⟩ := List.getElem?_eq_some_iff.1 e1
            refine ⟨by rw [List.take_succ_eq_append_getElem hlt2, e2], by rw [List.drop_eq_getElem_cons hlt2, e2]⟩)
          clear hx hlt hxm hxe
          obtain ⟨xl, xo, xA, xn, xc⟩ := x
          dsimp only at HXQ HQE HXN
          have f0 := HX.out.q0 rfl HKJ.out HXX.out
          have f1 := HX.out.q1 rfl HKJ.out HXX.out
          have HWR := hid HG.out.size
          have bx := below_box Wr (.cells #[.slice xA xn xc, .int .u64 xo] 40)
          replace HX := hid (HX.out.step bx); replace PC := hid (PC.out.step bx); replace HG := hid (HG.out.step bx)
          clear bx
          have PT := hid (Blk.new Wr 40 #[.slice xA xn xc, .int .u64 xo])
          go_upto_region 6 with fail
          clear f0 f1
          have hz5 := hid (show (Wr.alloc (.cells #[.slice xA xn xc, .int .u64 xo] 40)).heap.size = Wr.heap.size + 1 by simp)
          generalize Wr.alloc (.cells #[.slice xA xn xc, .int .u64 xo] 40) = W5 at *
          have hef := hid (show endF xo xl g2.dn = (g2.dn, xl, 0) from by
            unfold endF
            have h1 := HXQ.out; have h2 := HDN.out; have h3 := HGT.out; have h4 := HGK.out.small
            rw [if_neg (fun h => h h1.1), if_neg (by omega)])
          have hcv : IntKind.u64.wrap g2.dn = g2.dn := by rw [IntKind.wrap_u64]; have h2 := HDN.out; have h4 := HGK.out.small; omega
          have HD2 := hid (show 0 ≤ g2.dn ∧ g2.dn ≤ 18446744073709551615 by have h2 := HDN.out; have h4 := HGK.out.small; omega)
          have bx := (Below.refl W5.heap.size W5).drew
          replace HX := hid (HX.out.step bx); replace PC := hid (PC.out.step bx); replace HG := hid (HG.out.step bx); replace PT := hid (PT.out.step bx)
          clear bx
          have hszd := hid (show W5.drew.heap.size = W5.heap.size from rfl)
          refine wp_region_noPanic ?_
          refine wp_region_held_tail 18 (fun W' : World => W'.cell? ⟨gc, 3, none⟩ = some (.int .i64 g2.dn) ∧ W'.cell? ⟨gc, 7, none⟩ = some (.slice (some ⟨gQ, 0, none⟩) nq kq) ∧ W'.cell? ⟨Wr.heap.size, 0, none⟩ = some (.slice xA xn xc) ∧ W'.cell? ⟨Wr.heap.size, 1, none⟩ = some (.int .u64 xo)) #[false, false, false, false, false, false, false, false, false, false, false, false, false, false, false, false, false, false, false, false] (by kernel_rfl) ⟨PC.out.cells11.2.2.2.1, PC.out.cells11.2.2.2.2.2.2.2.1, PT.out.cells2.1, PT.out.cells2.2.1⟩ (by kernel_rfl) (by kernel_rfl) (fun hS => ?_)
          generalize W5.drew = Wd at *
          refine wpAnyT_take (i := 0) (v := ?_) (by kernel_rfl) (by simp only [List.getElem?_toArray, List.getElem?_cons_succ, List.getElem?_cons_zero]; rfl) (by kernel_rfl) (fun _ _ _ h => h) (Or.inl ⟨by rfl, ?_⟩) hS ?_
          rotate_left
          · intro w' hSw; (try dsimp only at hSw); go_split_ands; go_simp; (try with_reducible rfl)
          (try simp only [Act.put, List.setIfInBounds_toArray, List.set_cons_zero, List.set_cons_succ])
          refine wpAnyT_take (i := 1) (v := ?_) (by kernel_rfl) (by simp only [List.getElem?_toArray, List.getElem?_cons_succ, List.getElem?_cons_zero]; rfl) (by kernel_rfl) (fun _ _ _ h => h) (Or.inl ⟨by rfl, ?_⟩) hS ?_
          rotate_left
          · intro w' hSw; (try dsimp only at hSw); go_split_ands; go_simp; (try with_reducible rfl)
          (try simp only [Act.put, List.setIfInBounds_toArray, List.set_cons_zero, List.set_cons_succ])
          refine wpAnyT_take (i := 2) (v := ?_) (by kernel_rfl) (by simp only [List.getElem?_toArray, List.getElem?_cons_succ, List.getElem?_cons_zero]; rfl) (by kernel_rfl) (fun _ _ _ h => h) (Or.inl ⟨by rfl, ?_⟩) hS ?_
          rotate_left
          · intro w' hSw; (try dsimp only at hSw); go_split_ands; go_simp; (try with_reducible rfl)
          (try simp only [Act.put, List.setIfInBounds_toArray, List.set_cons_zero, List.set_cons_succ])
          refine wpAnyT_take (i := 3) (v := ?_) (by kernel_rfl) (by simp only [List.getElem?_toArray, List.getElem?_cons_succ, List.getElem?_cons_zero]; rfl) (by kernel_rfl) (fun _ _ _ h => h) (Or.inl ⟨by rfl, ?_⟩) hS ?_
          rotate_left
          · intro w' hSw; (try dsimp only at hSw); go_split_ands; go_simp; (try with_reducible rfl)
          (try simp only [Act.put, List.setIfInBounds_toArray, List.set_cons_zero, List.set_cons_succ])
          refine wpAnyT_take (i := 4) (v := ?_) (by kernel_rfl) (by simp only [List.getElem?_toArray, List.getElem?_cons_succ, List.getElem?_cons_zero]; rfl) (by kernel_rfl) (fun _ _ _ h => h) (Or.inl ⟨by rfl, ?_⟩) hS ?_
          rotate_left
          · intro w' hSw; (try dsimp only at hSw); go_split_ands; go_simp; (try with_reducible rfl)
          (try simp only [Act.put, List.setIfInBounds_toArray, List.set_cons_zero, List.set_cons_succ])
          refine wpAnyT_take (i := 5) (v := ?_) (by kernel_rfl) (by simp only [List.getElem?_toArray, List.getElem?_cons_succ, List.getElem?_cons_zero]; rfl) (by kernel_rfl) (fun _ _ _ h => h) (Or.inl ⟨by rfl, ?_⟩) hS ?_
          rotate_left
          · intro w' hSw; (try dsimp only at hSw); go_split_ands; go_simp; (try with_reducible rfl)
          (try simp only [Act.put, List.setIfInBounds_toArray, List.set_cons_zero, List.set_cons_succ])
          refine wpAnyT_take (i := 6) (v := ?_) (by kernel_rfl) (by simp only [List.getElem?_toArray, List.getElem?_cons_succ, List.getElem?_cons_zero]; rfl) (by kernel_rfl) (fun _ _ _ h => h) (Or.inl ⟨by rfl, ?_⟩) hS ?_
          rotate_left
          · intro w' hSw; (try dsimp only at hSw); go_split_ands; go_simp; (try with_reducible rfl)
          (try simp only [Act.put, List.setIfInBounds_toArray, List.set_cons_zero, List.set_cons_succ])
          refine wpAnyT_take (i := 7) (v := ?_) (by kernel_rfl) (by simp only [List.getElem?_toArray, List.getElem?_cons_succ, List.getElem?_cons_zero]; rfl) (by kernel_rfl) (fun _ _ _ h => h) (Or.inl ⟨by rfl, ?_⟩) hS ?_
          rotate_left
          · intro w' hSw; (try dsimp only at hSw); go_split_ands; go_simp; (try with_reducible rfl)
          (try simp only [Act.put, List.setIfInBounds_toArray, List.set_cons_zero, List.set_cons_succ])
          refine wpAnyT_take (i := 8) (v := ?_) (by kernel_rfl) (by simp only [List.getElem?_toArray, List.getElem?_cons_succ, List.getElem?_cons_zero]; rfl) (by kernel_rfl) (fun _ _ _ h => h) (Or.inl ⟨by rfl, ?_⟩) hS ?_
          rotate_left
          · intro w' hSw; (try dsimp only at hSw); go_split_ands; go_simp; (try with_reducible rfl)
          (try simp only [Act.put, List.setIfInBounds_toArray, List.set_cons_zero, List.set_cons_succ])
          refine wpAnyT_take (i := 9) (v := ?_) (by kernel_rfl) (by simp only [List.getElem?_toArray, List.getElem?_cons_succ, List.getElem?_cons_zero]; rfl) (by kernel_rfl) (fun _ _ _ h => h) (Or.inl ⟨by rfl, ?_⟩) hS ?_
          rotate_left
          · intro w' hSw; (try dsimp only at hSw); go_split_ands; go_simp; (try with_reducible rfl)
          (try simp only [Act.put, List.setIfInBounds_toArray, List.set_cons_zero, List.set_cons_succ])
          refine wpAnyT_take (i := 10) (v := ?_) (by kernel_rfl) (by simp only [List.getElem?_toArray, List.getElem?_cons_succ, List.getElem?_cons_zero]; rfl) (by kernel_rfl) (fun _ _ _ h => h) (Or.inl ⟨by rfl, ?_⟩) hS ?_
          rotate_left
          · intro w' hSw; (try dsimp only at hSw); go_split_ands; go_simp; (try with_reducible rfl)
          (try simp only [Act.put, List.setIfInBounds_toArray, List.set_cons_zero, List.set_cons_succ])
          refine wpAnyT_take (i := 11) (v := ?_) (by kernel_rfl) (by simp only [List.getElem?_toArray, List.getElem?_cons_succ, List.getElem?_cons_zero]; rfl) (by kernel_rfl) (fun _ _ _ h => h) (Or.inl ⟨by rfl, ?_⟩) hS ?_
          rotate_left
          · intro w' hSw; (try dsimp only at hSw); go_split_ands; go_simp; (try with_reducible rfl)
          (try simp only [Act.put, List.setIfInBounds_toArray, List.set_cons_zero, List.set_cons_succ])
          refine wpAnyT_take (i := 12) (v := ?_) (by kernel_rfl) (by simp only [List.getElem?_toArray, List.getElem?_cons_succ, List.getElem?_cons_zero]; rfl) (by kernel_rfl) (fun _ _ _ h => h) (Or.inl ⟨by rfl, ?_⟩) hS ?_
          rotate_left
          · intro w' hSw; (try dsimp only at hSw); go_split_ands; go_simp; (try with_reducible rfl)
          (try simp only [Act.put, List.setIfInBounds_toArray, List.set_cons_zero, List.set_cons_succ])
          refine wpAnyT_take (i := 13) (v := ?_) (by kernel_rfl) (by simp only [List.getElem?_toArray, List.getElem?_cons_succ, List.getElem?_cons_zero]; rfl) (by kernel_rfl) (fun _ _ _ h => h) (Or.inl ⟨by rfl, ?_⟩) hS ?_
          rotate_left
          · intro w' hSw; (try dsimp only at hSw); go_split_ands; go_simp; (try with_reducible rfl)
          (try simp only [Act.put, List.setIfInBounds_toArray, List.set_cons_zero, List.set_cons_succ])
          refine wpAnyT_ready [14] (by kernel_rfl) (by simp) ?_
          refine AllReadyT.cons (by simp only [List.getElem?_toArray, List.getElem?_cons_succ, List.getElem?_cons_zero]; rfl) rfl (fun K hK => ?_) ?_
          · skip
            go_simp
            refine ((show Calls Try.prog 63 #[qv xA xn xc xo, .int .u64 g2.dn] _ (QPost _ (g2.dn, xl, 0)) from hef.out ▸ qend_any xA xn xc xo xl g2.dn _ (HX.out.qsm HXM.out) (by have := HQE.out.2.2.1; dsimp only at this; omega) HQE.out.2.2.2.1.1)).mono ?_
            rintro e w14 ⟨A11, n11, c11, rfl, hqo, hb, hnc⟩
            have hsz0 := hid (show Wd.heap.size ≤ w14.heap.size from hb.size)
            replace HX := hid (HX.out.step hb); replace PC := hid (PC.out.step hb); replace HG := hid (HG.out.step hb); replace PT := hid (PT.out.step hb)
            clear hb
            have HQN := hid (show QeO w14 l (CS gc (some ⟨gQ, 0, none⟩) R) ⟨xl, g2.dn, A11, n11, c11⟩ from QeO.fresh hqo (by have := HX.out.lg; have := hlw.out; have := HWR.out; have := hz5.out; have := hszd.out; omega) hnc (by have h7 := hqo.sm.len; have h8 := HQE.out.1.sm.len; have := HQE.out.2.2.1; dsimp only at h7 h8 this ⊢; omega) HD2.out (by have := hlw.out; have := HWR.out; have := hz5.out; have := hszd.out; omega) (fun b hb => by cases hb; have := hgQ.out; have := HWR.out; have := hz5.out; have := hszd.out; dsimp only; omega) (fun b hb => by have := HRL.out b hb; have := HWR.out; have := hz5.out; have := hszd.out; omega))
            clear hqo hnc
            go_wp2_with fail
            have hS' : (fun W' : World => W'.cell? ⟨gc, 3, none⟩ = some (.int .i64 g2.dn) ∧ W'.cell? ⟨gc, 7, none⟩ = some (.slice (some ⟨gQ, 0, none⟩) nq kq) ∧ W'.cell? ⟨Wr.heap.size, 0, none⟩ = some (.slice xA xn xc) ∧ W'.cell? ⟨Wr.heap.size, 1, none⟩ = some (.int .u64 xo)) _ := ⟨PC.out.cells11.2.2.2.1, PC.out.cells11.2.2.2.2.2.2.2.1, PT.out.cells2.1, PT.out.cells2.2.1⟩
            refine hK.out _ _ hS' ?_
            clear hK K hS
            have hS := hS'
            clear hS'
            (try simp only [Act.put, List.setIfInBounds_toArray, List.set_cons_zero, List.set_cons_succ])
            refine wpAnyT_take (i := 15) (v := ?_) (by kernel_rfl) (by simp only [List.getElem?_toArray, List.getElem?_cons_succ, List.getElem?_cons_zero]; rfl) (by kernel_rfl) (fun _ _ _ h => h) (Or.inl ⟨by rfl, ?_⟩) hS ?_
            rotate_left
            · intro w' hSw; (try dsimp only at hSw); go_split_ands; go_simp; (try with_reducible rfl)
            (try simp only [Act.put, List.setIfInBounds_toArray, List.set_cons_zero, List.set_cons_succ])
            refine wpAnyT_take (i := 16) (v := ?_) (by kernel_rfl) (by simp only [List.getElem?_toArray, List.getElem?_cons_succ, List.getElem?_cons_zero]; rfl) (by kernel_rfl) (fun _ _ _ h => h) (Or.inl ⟨by rfl, ?_⟩) hS ?_
            rotate_left
            · intro w' hSw; (try dsimp only at hSw); go_split_ands; go_simp; (try with_reducible rfl)
            (try simp only [Act.put, List.setIfInBounds_toArray, List.set_cons_zero, List.set_cons_succ])
            refine wpAnyT_ready [17] (by kernel_rfl) (by simp) ?_
            refine AllReadyT.cons (by simp only [List.getElem?_toArray, List.getElem?_cons_succ, List.getElem?_cons_zero]; rfl) rfl (fun K hK => ?_) ?_
            · skip
              go_simp
              refine (sureQ_yes A11 n11 c11 g2.dn _).mono ?_
              rintro e w17 ⟨rfl, hb⟩
              have hsz1 := hid (show w14.heap.size ≤ w17.heap.size from hb.size)
              replace HX := hid (HX.out.step hb); replace PC := hid (PC.out.step hb); replace HG := hid (HG.out.step hb); replace PT := hid (PT.out.step hb); replace HQN := hid (HQN.out.step hb)
              clear hb
              go_wp2_with fail
              have hS' : (fun W' : World => W'.cell? ⟨gc, 3, none⟩ = some (.int .i64 g2.dn) ∧ W'.cell? ⟨gc, 7, none⟩ = some (.slice (some ⟨gQ, 0, none⟩) nq kq) ∧ W'.cell? ⟨Wr.heap.size, 0, none⟩ = some (.slice xA xn xc) ∧ W'.cell? ⟨Wr.heap.size, 1, none⟩ = some (.int .u64 xo)) _ := ⟨PC.out.cells11.2.2.2.1, PC.out.cells11.2.2.2.2.2.2.2.1, PT.out.cells2.1, PT.out.cells2.2.1⟩
              refine hK.out _ _ hS' ?_
              clear hK K hS
              have hS := hS'
              clear hS'
              (try simp only [Act.put, List.setIfInBounds_toArray, List.set_cons_zero, List.set_cons_succ])
              refine wpAnyT_done (by kernel_rfl) ?_
              simp only [List.drop_succ_cons, List.drop_zero]
              clear hS
              obtain ⟨g3, hg3, q0, q1, qf, _⟩ := HX.out.q_at HKJ.out
              cases hg3
              go_wp2_with fail
              refine NoPanic.normal ?_
              clear q0 q1 qf
              have hgr := grown_set (grown_set (World.grownBy.refl w17 (some gQ)) (j * 2) (.slice A11 n11 c11)) (j * 2 + 1) (.int .u64 g2.dn)
              have hln := HX.out.qs.len
              replace HX := hid (show CX ((w17.setCell ⟨gQ, j * 2, none⟩ (.slice A11 n11 c11)).setCell ⟨gQ, j * 2 + 1, none⟩ (.int .u64 g2.dn)) _ _ _ _ _ _ _ _ _ _ from HX.out.put rfl HKJ.out ⟨xl, g2.dn, A11, n11, c11⟩ HQN.out)
              replace PC := hid (PC.out.grown hgr (by have := hcq.out; simpa using this))
              replace HG := hid (HG.out.thenG hgr (fun r e => by cases e; exact .inr (.inr (.inl ⟨_, rfl, rfl⟩))))
              clear hgr HQN
              generalize (w17.setCell ⟨gQ, j * 2, none⟩ (.slice A11 n11 c11)).setCell ⟨gQ, j * 2 + 1, none⟩ (.int .u64 g2.dn) = Wn at *
              have HQ2 := hid (show ql (ej.set j ⟨xl, g2.dn, A11, n11, c11⟩) = ((ql es).take (j + 1)).map (fun q => (q.1, g2.dn)) ++ (ql es).drop (j + 1) from by
                have e1 : ql (ej.set j ⟨xl, g2.dn, A11, n11, c11⟩) = (ql ej).set j (xl, g2.dn) := by unfold ql; rw [List.map_set]
                have e2 : (((ql es).take j).map (fun q => (q.1, g2.dn))).length = j := by
                  rw [List.length_map, List.length_take]; unfold ql; rw [List.length_map, hl.out]; have := HKJ.out; omega
                rw [e1, HQL.out, HXN.out.2, HXN.out.1, List.set_append_right _ _ (by omega), e2, Nat.sub_self]
                simp)
              have HS2 := hid (show ∀ i, j + 1 ≤ i → (ej.set j ⟨xl, g2.dn, A11, n11, c11⟩)[i]?.getD zQe = es[i]?.getD zQe from fun i hi => by rw [List.getElem?_set_ne (by omega)]; exact HSA.out i (by omega))
              clear hln
              have hw1 : IntKind.i64.wrap ((j : Int) + 1) = (j : Int) + 1 := by rw [IntKind.wrap_i64]; omega
              go_wp2_with fail
              go_roundw
              case rel => exact ⟨j + 1, _, by omega, by go_num, HX.out, PC.out, HG.out, HQ2.out, HS2.out⟩
              case measure => simp [intOf]; omega
            exact AllReadyT.nil
          exact AllReadyT.nil
      exact AllReadyT.nil
    exact AllReadyT.nil
  exact AllReadyT.nil
end Go.Proofs.Ytfipdoofgbjbjaa
