/- package grace: asks. No condition but sizes. -/
import Derived.Test.YtbibfjncjklclaaGr6
import Derived.Test.YtbibfjncjklclaaKitA
import Derived.Test.YtbibfjncjklclaaKit6
namespace Go.Proofs.Ytbibfjncjklclaa
open Go.RowKit
attribute [local go_sem] Oper.semAt_some
set_option maxRecDepth 100000 in
theorem ask_no (gb : Nat) (now : Int) (A : Option Addr) (n k : Nat) (B : Option Addr) (m d : Nat) (g : Gr) (D : Option Addr) (nd kd : Nat) (E : Option Addr) (ne ke : Nat) (w : World) (P : Blk w gb 76 (bth now A n k B m d g D nd kd E ne ke)) (h : ¬ nextW g ≤ 2147483645) :
    Calls Try.prog 49 #[ptr gb] w fun x w' => x = leaves 6 ∧ Below w.heap.size w w' := by
  obtain ⟨N, hN⟩ : ∃ N, N = nextW g := ⟨_, rfl⟩
  have HN := hid hN
  rw [← hN] at h
  have HH := hid h
  obtain ⟨y0, y1, y2, y3, y4, y5, y6, y7, yf⟩ := P.cells8
  clear P hN h
  go_enter Try.func49, Try.ntmps49
  go_wp2_with fail
  clear y0 y1 y2 y3 y4 y5 y6 y7 yf
  refine (next_any g D nd kd w).mono ?_
  rintro x w1 ⟨rfl, hb⟩
  rw [← HN.out]
  have HB := hid hb
  have d1 : decide (N ≤ 2147483645) = false := decide_eq_false (by have := HH.out; omega)
  clear hb HH
  go_wp2_with fail
  refine (need_no 6 w1).mono ?_
  rintro x w2 ⟨rfl, rfl⟩
  unfold leaves
  go_wp2_with fail
  exact ⟨rfl, rfl, HB.out⟩
/-- what asks leaves -/
def AskedPost (w : World) (gb gd lo nd kd : Nat) (c : Bc) (g : Gr) (aq : List Int) (x : Ending) (w' : World) : Prop :=
  x = .returned (.tuple #[]) ∧ ∃ E ke, Blk w' gb 76 (bth c.now c.A c.n c.k c.B c.m c.d (gAsk g) (some ⟨gd, 0, none⟩) nd kd E (c.ne + 1) ke) ∧ Ow i64 w' lo 3 E (c.ne + 1) ke (aq ++ [gNext g]) ∧
    GrownP (fun i => i = gb ∨ ∃ a, c.E = some a ∧ i = a.block) w w' ∧ ∀ a, E = some a → (∃ b, c.E = some b ∧ a.block = b.block) ∨ w.heap.size ≤ a.block
theorem GrownP.thenG {q : Nat → Prop} {row : Option Nat} {w a b : World} (h : GrownP q w a) (k : a.grownBy b row) (hr : ∀ r, row = some r → w.heap.size ≤ r ∨ q r) : GrownP q w b :=
  ⟨k.os.trans h.os, k.tape.trans h.tape, k.output.trans h.output, Nat.le_trans h.size k.size, fun i hi hq => (k.block i (Nat.lt_of_lt_of_le hi h.size) (fun e => by rcases hr i e.symm with h | h; omega; exact hq h)).trans (h.block i hi hq)⟩
set_option maxRecDepth 100000 in
set_option maxHeartbeats 4000000 in
theorem asks_yes (gb gd lo nd kd : Nat) (cp : Int) (c : Bc) (g : Gr) (aq : List Int) (w : World) (hP : Blk w gb 76 (c.cs g gd nd kd)) (hE : Ow i64 w lo 3 c.E c.ne c.ke aq) (hlo : lo ≤ w.heap.size) (hcp : 0 ≤ cp ∧ cp < nd) (hg : GrOk g) (hn : gNext g ≤ 2147483645) (hne1 : c.ne ≤ 1000000) :
    Calls Try.prog 66 #[ptr gb, .int .i64 cp] w (AskedPost w gb gd lo nd kd c g aq) := by
  have hin := in_yes gb c.now c.A c.n c.k c.B c.m c.d g (some ⟨gd, 0, none⟩) nd kd c.E c.ne c.ke cp w hP hcp
  have HIN := hid hin; have P := hid hP; have OE := hid hE; have HNX := hid (nextW_ok hg); have HLO := hid hlo; have HB := hid (Below.refl w.heap.size w)
  have hlt := hid hP.lt
  clear hin hP hE hcp hg hlo
  obtain ⟨now, A, n, k, B, m, d, E, ne, ke⟩ := c
  obtain ⟨i0, hi0, hz00, hz01, hz02⟩ := info_parts info_int
  obtain ⟨N, hN⟩ : ∃ N, N = gNext g := ⟨_, rfl⟩
  have HN := hid hN
  rw [← hN] at hn
  have HH := hid hn
  clear hn hN
  unfold AskedPost
  rw [← HN.out]
  go_enter Try.func66, Try.ntmps66
  go_wp2_with fail
  refine HIN.out.mono ?_
  rintro e w1 ⟨rfl, rfl⟩
  clear HIN
  go_upto_region 1 with fail
  have bx := (Below.refl w1.heap.size w1).drew
  replace P := hid (P.out.step bx); replace OE := hid (OE.out.step bx); replace HB := hid (below_then HB.out bx)
  clear bx
  have hszd := hid (show w1.drew.heap.size = w1.heap.size from rfl)
  refine wp_region_noPanic ?_
  refine wp_region_held_tail 9 (fun W' : World => W'.cell? ⟨gb, 7, none⟩ = some (.slice E ne ke)) #[false, false, false, false, false, false, false, false, false, false, false, false] (by kernel_rfl) P.out.cells8.2.2.2.2.2.2.2.1 (by kernel_rfl) (by kernel_rfl) (fun hS => ?_)
  generalize w1.drew = Wd at *
  refine wpAnyT_take (i := 0) (v := ?_) (by kernel_rfl) (by simp only [List.getElem?_toArray, List.getElem?_cons_succ, List.getElem?_cons_zero]; rfl) (by kernel_rfl) (fun _ _ _ h => h) (Or.inl ⟨by rfl, ?_⟩) hS ?_
  rotate_left
  · intro w' hSw; (try dsimp only at hSw); go_split_ands; go_simp; (try with_reducible rfl)
  (try simp only [Act.put, List.setIfInBounds_toArray, List.set_cons_zero, List.set_cons_succ])
  refine wpAnyT_take (i := 1) (v := ?_) (by kernel_rfl) (by simp only [List.getElem?_toArray, List.getElem?_cons_succ, List.getElem?_cons_zero]; rfl) (by kernel_rfl) (fun _ _ _ h => h) (Or.inl ⟨by rfl, ?_⟩) hS ?_
  rotate_left
  · intro w' hSw; (try dsimp only at hSw); go_split_ands; go_simp; (try with_reducible rfl)
  (try simp only [Act.put, List.setIfInBounds_toArray, List.set_cons_zero, List.set_cons_succ])
  refine wpAnyT_take (i := 2) (v := ?_) (by kernel_rfl) (by simp only [List.getElem?_toArray, List.getElem?_cons_succ, List.getElem?_cons_zero]; rfl) (by kernel_rfl) (fun _ _ _ h => h) (Or.inl ⟨by rfl, ?_⟩) hS ?_
  rotate_left
  · intro w' hSw; (try dsimp only at hSw); go_split_ands; go_simp; (try with_reducible rfl)
  (try simp only [Act.put, List.setIfInBounds_toArray, List.set_cons_zero, List.set_cons_succ])
  refine wpAnyT_take (i := 3) (v := ?_) (by kernel_rfl) (by simp only [List.getElem?_toArray, List.getElem?_cons_succ, List.getElem?_cons_zero]; rfl) (by kernel_rfl) (fun _ _ _ h => h) (Or.inl ⟨by rfl, ?_⟩) hS ?_
  rotate_left
  · intro w' hSw; (try dsimp only at hSw); go_split_ands; go_simp; (try with_reducible rfl)
  (try simp only [Act.put, List.setIfInBounds_toArray, List.set_cons_zero, List.set_cons_succ])
  refine wpAnyT_take (i := 4) (v := ?_) (by kernel_rfl) (by simp only [List.getElem?_toArray, List.getElem?_cons_succ, List.getElem?_cons_zero]; rfl) (by kernel_rfl) (fun _ _ _ h => h) (Or.inl ⟨by rfl, ?_⟩) hS ?_
  rotate_left
  · intro w' hSw; (try dsimp only at hSw); go_split_ands; go_simp; (try with_reducible rfl)
  (try simp only [Act.put, List.setIfInBounds_toArray, List.set_cons_zero, List.set_cons_succ])
  refine wpAnyT_take (i := 5) (v := ?_) (by kernel_rfl) (by simp only [List.getElem?_toArray, List.getElem?_cons_succ, List.getElem?_cons_zero]; rfl) (by kernel_rfl) (fun _ _ _ h => h) (Or.inl ⟨by rfl, ?_⟩) hS ?_
  rotate_left
  · intro w' hSw; (try dsimp only at hSw); go_split_ands; go_simp; (try with_reducible rfl)
  (try simp only [Act.put, List.setIfInBounds_toArray, List.set_cons_zero, List.set_cons_succ])
  refine wpAnyT_ready [6] (by kernel_rfl) (by simp) ?_
  refine AllReadyT.cons (by simp only [List.getElem?_toArray, List.getElem?_cons_succ, List.getElem?_cons_zero]; rfl) rfl (fun K hK => ?_) ?_
  · skip
    go_simp
    have hak := ask_yes gb now A n k B m d g (some ⟨gd, 0, none⟩) nd kd E ne ke Wd P.out (by rw [HNX.out, ← HN.out]; exact HH.out)
    rw [HNX.out, ← HN.out] at hak
    refine hak.mono ?_
    rintro e Wc6 ⟨rfl, w6, hb6, rfl⟩
    have P6 := hid (P.out.step hb6)
    replace OE := hid ((OE.out.step hb6).farT P6.out (by decide) 4 (.int .i64 (max g.ak N)))
    replace P := hid (show Blk (w6.setCell ⟨gb, 4, none⟩ (.int .i64 (max g.ak N))) gb 76 (bth now A n k B m d (gAsk g) (some ⟨gd, 0, none⟩) nd kd E ne ke) by rw [show gAsk g = { g with ak := max g.ak N } by rw [HN.out]; rfl]; exact P6.out.setCell 4 _)
    have HGP := hid ((GrownP.ofBelow (p := fun i => i = gb ∨ ∃ a, E = some a ∧ i = a.block) (below_then HB.out hb6)).set (p := ⟨gb, 4, none⟩) (.inl rfl) (.int .i64 (max g.ak N)))
    have HZ6 := hid (show w1.heap.size ≤ (w6.setCell ⟨gb, 4, none⟩ (.int .i64 (max g.ak N))).heap.size from HGP.out.size)
    clear hak hb6 P6 HB
    generalize w6.setCell ⟨gb, 4, none⟩ (.int .i64 (max g.ak N)) = Wc6 at *
    go_wp2_with fail
    have hS' : (fun W' : World => W'.cell? ⟨gb, 7, none⟩ = some (.slice E ne ke)) _ := P.out.cells8.2.2.2.2.2.2.2.1
    refine hK.out _ _ hS' ?_
    clear hK K hS
    have hS := hS'
    clear hS'
    (try simp only [Act.put, List.setIfInBounds_toArray, List.set_cons_zero, List.set_cons_succ])
    refine wpAnyT_ready [7] (by kernel_rfl) (by simp) ?_
    refine AllReadyT.cons (by simp only [List.getElem?_toArray, List.getElem?_cons_succ, List.getElem?_cons_zero]; rfl) rfl (fun K hK => ?_) ?_
    · skip
      go_simp
      refine named_alloc ?_
      intro Wa7 hbk hb hsz
      have hsz1 := hid hsz
      have hbA := hb
      replace P := hid (P.out.step hb); replace OE := hid (OE.out.step hb)
      have PL := hid hbk
      clear hb hbk hsz
      have hS' : (fun W' : World => W'.cell? ⟨gb, 7, none⟩ = some (.slice E ne ke)) _ := P.out.cells8.2.2.2.2.2.2.2.1
      refine hK.out _ _ hS' ?_
      clear hK K hS
      have hS := hS'
      clear hS'
      (try simp only [Act.put, List.setIfInBounds_toArray, List.set_cons_zero, List.set_cons_succ])
      refine wpAnyT_ready [8] (by kernel_rfl) (by simp) ?_
      refine AllReadyT.cons (by simp only [List.getElem?_toArray, List.getElem?_cons_succ, List.getElem?_cons_zero]; rfl) rfl (fun K hK => ?_) ?_
      · skip
        have HGA := hid (HGP.out.thenB hbA HZ6.out)
        refine step_app i64 0 _ rfl _ _ 22 rfl lo 3 i0 _ 8 Try.underlying22 hi0 hz00 hz01 hz02 rfl E ne ke aq rfl OE.out 0 _ (some ⟨Wc6.heap.size, 0, none⟩) 1 1 [N] rfl ((PL.out.ow (enc := i64) (xs := [N]) (lo := 0) rfl rfl (Nat.zero_le _) (by simp [maxLen])).sl (d := 0)) (fun _ => rfl) (by simp only [maxLen]; omega) (by omega) (by have := HLO.out; have := HGA.out.size; omega) ?_
        intro A8 c8 Wc8 hown hgr hat
        have HG8 := hid (HGA.out.thenG hgr (fun r e => by obtain ⟨a, ha, hb⟩ := own_addr e; exact .inr (.inr ⟨a, ha, hb.symm⟩)))
        replace P := hid (P.out.keptO OE.out (by decide) hgr)
        have HAT := hid (show ∀ a, A8 = some a → (∃ b, E = some b ∧ a.block = b.block) ∨ w1.heap.size ≤ a.block from fun a ha => by
          subst ha
          have e1 : (Value.slice (some a) (ne + 1) c8).ownBlock = some a.block := rfl
          rcases hat with h | h
          · rw [e1] at h
            obtain ⟨b, hb1, hb2⟩ := own_addr h.symm
            exact .inl ⟨b, hb1, hb2.symm⟩
          · rw [e1] at h
            have h2 := Option.some.inj h
            have h3 := HGA.out.size
            exact .inr (by omega))
        have HO8 := hid hown
        clear hown hgr hat OE PL HGP HGA hbA
        have hS' : (fun W' : World => W'.cell? ⟨gb, 7, none⟩ = some (.slice E ne ke)) _ := P.out.cells8.2.2.2.2.2.2.2.1
        refine hK.out _ _ hS' ?_
        clear hK K hS
        have hS := hS'
        clear hS'
        (try simp only [Act.put, List.setIfInBounds_toArray, List.set_cons_zero, List.set_cons_succ])
        refine wpAnyT_done (by kernel_rfl) ?_
        simp only [List.drop_succ_cons, List.drop_zero]
        clear hS
        obtain ⟨y00, y01, y02, y03, y04, y05, y06, y07, yf0⟩ := P.out.cells8
        go_wp2_with fail
        clear y00 y01 y02 y03 y04 y05 y06 y07 yf0
        refine NoPanic.normal ?_
        go_end0
        have hgr := grown_set (World.grownBy.refl Wc8 (some gb)) 7 (.slice A8 (ne + 1) c8)
        exact ⟨rfl, A8, c8, P.out.setCell 7 _, HO8.out.keptG hgr (fun a ha e => HO8.out.ne_blk P.out (by decide) a ha (Option.some.inj e)), HG8.out.thenG hgr (fun r e => by cases e; exact .inr (.inl rfl)), HAT.out⟩
      exact AllReadyT.nil
    exact AllReadyT.nil
  exact AllReadyT.nil
set_option maxRecDepth 100000 in
set_option maxHeartbeats 2000000 in
theorem asks_full (gb gd nd kd : Nat) (cp : Int) (c : Bc) (g : Gr) (w : World) (hP : Blk w gb 76 (c.cs g gd nd kd)) (hcp : 0 ≤ cp ∧ cp < nd) (hg : GrOk g) (hn : ¬ gNext g ≤ 2147483645) :
    Calls Try.prog 66 #[ptr gb, .int .i64 cp] w fun x w' => x = leaves 6 ∧ Below w.heap.size w w' := by
  have hin := in_yes gb c.now c.A c.n c.k c.B c.m c.d g (some ⟨gd, 0, none⟩) nd kd c.E c.ne c.ke cp w hP hcp
  have HIN := hid hin; have P := hid hP; have HNX := hid (nextW_ok hg); have HB := hid (Below.refl w.heap.size w)
  clear hin hP hcp hg
  obtain ⟨now, A, n, k, B, m, d, E, ne, ke⟩ := c
  have HH := hid hn
  clear hn
  go_enter Try.func66, Try.ntmps66
  go_wp2_with fail
  refine HIN.out.mono ?_
  rintro e w1 ⟨rfl, rfl⟩
  clear HIN
  go_upto_region 1 with fail
  have bx := (Below.refl w1.heap.size w1).drew
  replace P := hid (P.out.step bx); replace HB := hid (below_then HB.out bx)
  clear bx
  have hszd := hid (show w1.drew.heap.size = w1.heap.size from rfl)
  refine wp_region_qp ?_
  refine wp_region_held_drew (S := (fun W' : World => W'.cell? ⟨gb, 7, none⟩ = some (.slice E ne ke))) (by kernel_rfl) P.out.cells8.2.2.2.2.2.2.2.1 (fun hS => ?_)
  generalize w1.drew = Wd at *
  refine wpAnyH_take (i := 0) (v := ?_) (by simp only [List.getElem?_toArray, List.getElem?_cons_succ, List.getElem?_cons_zero]; rfl) (by kernel_rfl) (by kernel_rfl) (by kernel_rfl) (fun _ _ _ h => QP.put h) (Or.inl ⟨by rfl, ?_⟩) hS ?_
  rotate_left
  · intro w' hSw; (try dsimp only at hSw); go_split_ands; go_simp; (try with_reducible rfl)
  (try simp only [Act.put, List.setIfInBounds_toArray, List.set_cons_zero, List.set_cons_succ])
  refine wpAnyH_take (i := 1) (v := ?_) (by simp only [List.getElem?_toArray, List.getElem?_cons_succ, List.getElem?_cons_zero]; rfl) (by kernel_rfl) (by kernel_rfl) (by kernel_rfl) (fun _ _ _ h => QP.put h) (Or.inl ⟨by rfl, ?_⟩) hS ?_
  rotate_left
  · intro w' hSw; (try dsimp only at hSw); go_split_ands; go_simp; (try with_reducible rfl)
  (try simp only [Act.put, List.setIfInBounds_toArray, List.set_cons_zero, List.set_cons_succ])
  refine wpAnyH_take (i := 2) (v := ?_) (by simp only [List.getElem?_toArray, List.getElem?_cons_succ, List.getElem?_cons_zero]; rfl) (by kernel_rfl) (by kernel_rfl) (by kernel_rfl) (fun _ _ _ h => QP.put h) (Or.inl ⟨by rfl, ?_⟩) hS ?_
  rotate_left
  · intro w' hSw; (try dsimp only at hSw); go_split_ands; go_simp; (try with_reducible rfl)
  (try simp only [Act.put, List.setIfInBounds_toArray, List.set_cons_zero, List.set_cons_succ])
  refine wpAnyH_take (i := 3) (v := ?_) (by simp only [List.getElem?_toArray, List.getElem?_cons_succ, List.getElem?_cons_zero]; rfl) (by kernel_rfl) (by kernel_rfl) (by kernel_rfl) (fun _ _ _ h => QP.put h) (Or.inl ⟨by rfl, ?_⟩) hS ?_
  rotate_left
  · intro w' hSw; (try dsimp only at hSw); go_split_ands; go_simp; (try with_reducible rfl)
  (try simp only [Act.put, List.setIfInBounds_toArray, List.set_cons_zero, List.set_cons_succ])
  refine wpAnyH_take (i := 4) (v := ?_) (by simp only [List.getElem?_toArray, List.getElem?_cons_succ, List.getElem?_cons_zero]; rfl) (by kernel_rfl) (by kernel_rfl) (by kernel_rfl) (fun _ _ _ h => QP.put h) (Or.inl ⟨by rfl, ?_⟩) hS ?_
  rotate_left
  · intro w' hSw; (try dsimp only at hSw); go_split_ands; go_simp; (try with_reducible rfl)
  (try simp only [Act.put, List.setIfInBounds_toArray, List.set_cons_zero, List.set_cons_succ])
  refine wpAnyH_take (i := 5) (v := ?_) (by simp only [List.getElem?_toArray, List.getElem?_cons_succ, List.getElem?_cons_zero]; rfl) (by kernel_rfl) (by kernel_rfl) (by kernel_rfl) (fun _ _ _ h => QP.put h) (Or.inl ⟨by rfl, ?_⟩) hS ?_
  rotate_left
  · intro w' hSw; (try dsimp only at hSw); go_split_ands; go_simp; (try with_reducible rfl)
  (try simp only [Act.put, List.setIfInBounds_toArray, List.set_cons_zero, List.set_cons_succ])
  refine wpAnyH_ready (rs := [6]) (by kernel_rfl) (by simp) ?_
  refine AllReadyH.cons (by simp only [List.getElem?_toArray, List.getElem?_cons_succ, List.getElem?_cons_zero]; rfl) (fun K hK => ?_) ?_
  · skip
    go_simp
    refine (ask_no gb now A n k B m d g (some ⟨gd, 0, none⟩) nd kd E ne ke Wd P.out (by rw [HNX.out]; have := HH.out; omega)).mono ?_
    rintro e Wc6 ⟨rfl, hb6⟩
    unfold leaves
    intro tm
    refine (?_ : bodyPost Try.prog Try.f66 _ _ _ _)
    exact ⟨rfl, rfl, below_then HB.out hb6⟩
  exact AllReadyH.nil
set_option maxRecDepth 100000 in
theorem asks_out (gb : Nat) (now : Int) (A : Option Addr) (n k : Nat) (B : Option Addr) (m d : Nat) (g : Gr) (D : Option Addr) (nd kd : Nat) (E : Option Addr) (ne ke : Nat) (c : Int) (w : World) (P : Blk w gb 76 (bth now A n k B m d g D nd kd E ne ke)) (h : c < 0 ∨ (nd : Int) ≤ c) :
    Calls Try.prog 66 #[ptr gb, .int .i64 c] w fun x w' => x = leaves 2 ∧ w' = w := by
  have HIN := hid (in_no gb now A n k B m d g D nd kd E ne ke c w P h)
  clear P h
  go_enter Try.func66, Try.ntmps66
  go_wp2_with fail
  refine HIN.out.mono ?_
  rintro e w1 ⟨rfl, rfl⟩
  unfold leaves
  go_wp2_with fail
  exact ⟨rfl, rfl, rfl⟩
end Go.Proofs.Ytbibfjncjklclaa
