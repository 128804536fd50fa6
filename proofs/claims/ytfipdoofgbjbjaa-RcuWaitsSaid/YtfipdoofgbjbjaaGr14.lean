/- package grace: Ask and Pick, for a grace that may be; New. No condition but sizes. -/
import Derived.Test.YtfipdoofgbjbjaaGr7
import Derived.Test.YtfipdoofgbjbjaaGr5
namespace Go.Proofs.Ytfipdoofgbjbjaa
open Go.RowKit
attribute [local go_sem] Oper.semAt_some
theorem Ow.keptR {α : Type} {enc : α → Value} {w w' : World} {lo n c g : Nat} {e t : TypeId} {A : Option Addr} {xs : List α} {cs : Array Value} (h : Ow enc w lo e A n c xs) (hb : Blk w g t cs) (hne : t ≠ e) (hg : w.grownBy w' (some g)) : Ow enc w' lo e A n c xs :=
  h.keptG hg (fun a ha e => h.ne_blk hb hne a ha (Option.some.inj e))
theorem GrOk.wrap {g : Gr} (h : GrOk g) : wrap64 (g.dn + 1) = g.dn + 1 := by
  have := h.small
  unfold wrap64; omega
/-- a both with a grace alone -/
def GAt (W : World) (l gb : Nat) (g : Gr) : Prop := ∃ D kd, Blk W gb 126 (bth 0 none 0 0 none 0 0 g D g.nd.length kd none 0 0) ∧ Ow blv W l 4 D g.nd.length kd g.nd ∧ l ≤ gb
theorem GAt.set {W : World} {l gb : Nat} {g : Gr} (h : GAt W l gb g) {p : Addr} (hp : p.block < l) (u : Value) : GAt (W.setCell p u) l gb g := by
  obtain ⟨D, kd, h1, h2, h3⟩ := h
  exact ⟨D, kd, h1.far (by omega) u, h2.setCell hp u, h3⟩
theorem GAt.zero {W : World} {gn : Nat} (h : Blk W gn 126 bth0) (l : Nat) (hl : l ≤ gn) : GAt W l gn zGr := ⟨none, 0, h, Ow.nil _ _ _, hl⟩
/-- what Ask hands back: the error, the number, the grace -/
def gaskF (g : Gr) : Int × Int × Gr := if gNext g ≤ 2147483645 then (0, gNext g, gAsk g) else (6, 0, zGr)
def GAskPost (w : World) (r : Int × Int × Gr) (x : Ending) (w' : World) : Prop := ∃ D kd, x = .returned (.tuple #[gv r.2.2 D r.2.2.nd.length kd, .int .i64 r.2.1, .int .i64 r.1]) ∧ Ow blv w' w.heap.size 4 D r.2.2.nd.length kd r.2.2.nd ∧ Below w.heap.size w w'
set_option maxRecDepth 100000 in
set_option maxHeartbeats 4000000 in
theorem ask1_any (w1 : World) (gd gb gn hi : Nat) (g : Gr) (kd : Nat) (hgd : hi ≤ gd) (hgb : hi ≤ gb) (hne : gd ≠ gb) (hgn : gn < hi) (hP : Blk w1 gb 126 (bth 0 none 0 0 none 0 0 g (some ⟨gd, 0, none⟩) g.nd.length kd none 0 0))
    (hD : Ow blv w1 gd 4 (some ⟨gd, 0, none⟩) g.nd.length kd g.nd) (hN : Blk w1 gn 3 #[.int .i64 0]) (hg : GrOk g) :
    Calls Try.prog 86 #[ptr gb, ptr gn] w1 fun x w2 => GrownP (fun i => i = gn ∨ min gd gb ≤ i) w1 w2 ∧ ((x = .returned (.tuple #[]) ∧ (gaskF g).1 = 0 ∧ Blk w2 gn 3 #[.int .i64 (gaskF g).2.1] ∧ GAt w2 (min gd gb) gb (gaskF g).2.2) ∨ ∃ c, x = leaves c ∧ c = (gaskF g).1 ∧ c ≠ 0 ∧ Blk w2 gn 3 #[.int .i64 (gaskF g).2.1] ∧ (gaskF g).2.2 = zGr) := by
  unfold gaskF
  by_cases h0 : gNext g ≤ 2147483645
  · rw [if_pos h0]
    have ha := ask_yes gb 0 none 0 0 none 0 0 g (some ⟨gd, 0, none⟩) g.nd.length kd none 0 0 w1 hP (by rw [nextW_ok hg]; exact h0)
    rw [nextW_ok hg] at ha
    have HA := hid ha
    have P := hid hP; have D := hid hD; have PN := hid hN
    clear hP hD hN ha
    obtain ⟨N, hNN⟩ : ∃ N, N = gNext g := ⟨_, rfl⟩
    have HN := hid hNN
    rw [← hNN] at HA ⊢
    clear hNN h0
    go_enter Try.func86, Try.ntmps86
    go_wp2_with fail
    refine HA.out.mono ?_
    rintro e w3 ⟨rfl, w2, hb, rfl⟩
    have P2 := hid (P.out.step hb); have D2 := hid (D.out.step hb); have PN2 := hid (PN.out.step hb)
    have hlt := hid P.out.lt
    have P3 := hid (show Blk (w2.setCell ⟨gb, 4, none⟩ (.int .i64 (max g.ak N))) gb 126 (bth 0 none 0 0 none 0 0 (gAsk g) (some ⟨gd, 0, none⟩) g.nd.length kd none 0 0) by rw [show gAsk g = { g with ak := max g.ak N } by rw [HN.out]; rfl]; exact P2.out.setCell 4 _)
    have D3 := hid (D2.out.far (p := ⟨gb, 4, none⟩) hne (.int .i64 (max g.ak N)))
    have PN3 := hid (PN2.out.far (p := ⟨gb, 4, none⟩) (show gn ≠ gb by omega) (.int .i64 (max g.ak N)))
    have HG := hid ((GrownP.ofBelow (p := fun i => i = gn ∨ min gd gb ≤ i) hb).set (p := ⟨gb, 4, none⟩) (.inr (Nat.min_le_right _ _)) (.int .i64 (max g.ak N)))
    clear P P2 D D2 PN PN2 HA hb
    generalize w2.setCell ⟨gb, 4, none⟩ (.int .i64 (max g.ak N)) = W3 at *
    obtain ⟨y0, yf⟩ := PN3.out.cells1
    go_wp2_with fail
    clear y0 yf
    go_end0
    refine ⟨HG.out.set (p := ⟨gn, 0, none⟩) (.inl rfl) _, .inl ⟨by simp, by simp, PN3.out.setCell 0 _, ?_⟩⟩
    exact ⟨some ⟨gd, 0, none⟩, kd, P3.out.far (p := ⟨gn, 0, none⟩) (show gb ≠ gn by omega) _, (D3.out.far (p := ⟨gn, 0, none⟩) (show gd ≠ gn by omega) _).mono (Nat.min_le_left _ _), Nat.min_le_right _ _⟩
  · rw [if_neg h0]
    have ha := ask_no gb 0 none 0 0 none 0 0 g (some ⟨gd, 0, none⟩) g.nd.length kd none 0 0 w1 hP (by rw [nextW_ok hg]; exact h0)
    have HA := hid ha; have PN := hid hN
    clear hP hD hN ha h0
    go_enter Try.func86, Try.ntmps86
    go_wp2_with fail
    refine HA.out.mono ?_
    rintro e w2 ⟨rfl, hb⟩
    have HB := hid hb
    clear hb HA
    unfold leaves
    go_wp2_with fail
    exact ⟨rfl, .ofBelow HB.out, .inr ⟨6, rfl, by simp, by decide, PN.out.step HB.out, by simp⟩⟩
set_option maxRecDepth 100000 in
set_option maxHeartbeats 4000000 in
theorem gask_any (g : Gr) (D : Option Addr) (kd : Nat) (w : World) (hD : Sl blv false w 0 w.heap.size D g.nd.length g.nd) (hg : GrOk g) :
    Calls Try.prog 75 #[gv g D g.nd.length kd] w (GAskPost w (gaskF g)) := by
  obtain ⟨r, hr⟩ : ∃ r, r = gaskF g := ⟨_, rfl⟩
  have HRR := hid hr
  rw [← hr]
  have HD := hid hD; have HG := hid hg; have HB := hid (Below.refl w.heap.size w)
  clear hD hg hr
  have bx := below_box w (.cells (gcs g D g.nd.length kd) 27)
  replace HD := hid (HD.out.step bx); replace HB := hid (below_then HB.out bx)
  clear bx
  have PG := hid (Blk.new w 27 (gcs g D g.nd.length kd))
  have bx := below_box (w.alloc (.cells (gcs g D g.nd.length kd) 27)) (.cells #[.int .i64 0, .int .i64 0, .bool false, .slice none 0 0] 27)
  replace HD := hid (HD.out.step bx); replace PG := hid (PG.out.step bx); replace HB := hid (below_then HB.out bx)
  clear bx
  have ZG := hid (Blk.new2 w 27 #[.int .i64 0, .int .i64 0, .bool false, .slice none 0 0] (.cells (gcs g D g.nd.length kd) 27))
  have bx := below_box ((w.alloc (.cells (gcs g D g.nd.length kd) 27)).alloc (.cells #[.int .i64 0, .int .i64 0, .bool false, .slice none 0 0] 27)) (.cells #[.int .i64 0] 3)
  replace HD := hid (HD.out.step bx); replace PG := hid (PG.out.step bx); replace ZG := hid (ZG.out.step bx); replace HB := hid (below_then HB.out bx)
  clear bx
  have PN := hid (Blk.new3 w 3 #[.int .i64 0] (.cells (gcs g D g.nd.length kd) 27) (.cells #[.int .i64 0, .int .i64 0, .bool false, .slice none 0 0] 27))
  go_enter Try.func75, Try.ntmps75
  have hmf : ∀ (fn : Fn) (first cap : Array Value) (w : World), (Instr.makeFunc fn first cap).run Try.prog w = .ok (.func fn first cap) w := fun _ _ _ _ => rfl
  obtain ⟨y00, y01, y02, y03, yf0⟩ := PG.out.cells4
  obtain ⟨y10, yf1⟩ := PN.out.cells1
  go_wp2_with fail
  have hz0 := hid (show (((w.alloc (.cells (gcs g D g.nd.length kd) 27)).alloc (.cells #[.int .i64 0, .int .i64 0, .bool false, .slice none 0 0] 27)).alloc (.cells #[.int .i64 0] 3)).heap.size = w.heap.size + 3 by simp)
  generalize ((w.alloc (.cells (gcs g D g.nd.length kd) 27)).alloc (.cells #[.int .i64 0, .int .i64 0, .bool false, .slice none 0 0] 27)).alloc (.cells #[.int .i64 0] 3) = W0 at *
  have hszA := hz0
  clear y00 y01 y02 y03 yf0 y10 yf1 hmf hz0
  refine (tries_any g D g.nd.length kd 0 86 #[ptr (w.heap.size + 1 + 1)] (fun i => i = w.heap.size + 1 + 1) (fun l gb W => (gaskF g).1 = 0 ∧ Blk W (w.heap.size + 1 + 1) 3 #[.int .i64 (gaskF g).2.1] ∧ GAt W l gb (gaskF g).2.2) (fun c W => c = (gaskF g).1 ∧ c ≠ 0 ∧ Blk W (w.heap.size + 1 + 1) 3 #[.int .i64 (gaskF g).2.1] ∧ (gaskF g).2.2 = zGr) W0 (by rintro i rfl; have := hszA.out; omega) HD.out (by have := HG.out.2.1; omega) HG.out (enters_of Try.func86 (by kernel_rfl) rfl) ?_ ?_ ?_).mono ?_
  ·intro wc gd gb hgd hgb hne hbw hPb hDb
   refine (ask1_any wc gd gb (w.heap.size + 1 + 1) W0.heap.size g g.nd.length hgd hgb hne (by have := hszA.out; omega) hPb hDb (PN.out.step hbw) HG.out).mono ?_
   rintro x w2 ⟨hg2, hx⟩
   exact ⟨hg2, hx⟩
  ·rintro l gb W p u ⟨h0, h1, h2⟩ h3 h4
   exact ⟨h0, h1.far (by have := hszA.out; omega) u, h2.set h4 u⟩
  ·rintro c W W' ⟨h0, h1, h2, h3⟩ hb
   exact ⟨h0, h1, h2.below hb (by have := hszA.out; omega), h3⟩
  rintro x w2 ⟨hg2, hx⟩
  have hgp : ∃ gp, x = .returned (.tuple #[ptr gp, .int .i64 (gaskF g).1]) ∧ W0.heap.size ≤ gp ∧ GAt w2 W0.heap.size gp (gaskF g).2.2 ∧ Blk w2 (w.heap.size + 1 + 1) 3 #[.int .i64 (gaskF g).2.1] := by
    rcases hx with ⟨gb, rfl, l, hl1, hl2, h1, h2, D3, kd3, h3, h4, h5⟩ | ⟨gn, c, rfl, ⟨h1, h2, h3, h4⟩, h5, h6⟩
    · exact ⟨gb, by rw [h1], by omega, ⟨D3, kd3, h3, h4.mono hl1, by omega⟩, h2⟩
    · exact ⟨gn, by rw [h1], h5, by rw [h4]; exact GAt.zero h6 _ h5, h3⟩
  obtain ⟨gp, rfl, hgp1, ⟨D2, kd2, h1, h2, _⟩, hn2⟩ := hgp
  rw [← HRR.out] at h1 h2 hn2 ⊢
  have P2 := hid h1; have DO2 := hid h2; have PN2 := hid hn2; have HGP := hid hgp1
  have hszz := hid (show w.heap.size ≤ W0.heap.size by have := hszA.out; omega)
  have HB2 := hid (show Below w.heap.size w w2 from ⟨hg2.os.trans HB.out.os, hg2.tape.trans HB.out.tape, hg2.output.trans HB.out.output, Nat.le_trans HB.out.size hg2.size, fun i hi => (hg2.block i (Nat.lt_of_lt_of_le hi hszz.out) (by omega)).trans (HB.out.block i hi)⟩)
  replace ZG := hid (ZG.out.keptP hg2 (by simp))
  obtain ⟨rc, rn, rg⟩ := r
  clear hx h1 h2 hn2 hgp1 hg2 HB HD PN PG HRR HG
  dsimp only at P2 DO2 PN2 ⊢
  go_upto_region 3 with fail
  have bx := (Below.refl w2.heap.size w2).drew
  replace ZG := hid (ZG.out.step bx); replace P2 := hid (P2.out.step bx); replace DO2 := hid (DO2.out.step bx); replace PN2 := hid (PN2.out.step bx); replace HB2 := hid (below_then HB2.out bx)
  clear bx
  have hszd := hid (show w2.drew.heap.size = w2.heap.size from rfl)
  refine wp_region_noPanic ?_
  refine wp_region_held_drew (S := (fun W' : World => W'.cell? ⟨gp, 3, none⟩ = some (.int .i64 rg.dn) ∧ W'.cell? ⟨gp, 4, none⟩ = some (.int .i64 rg.ak) ∧ W'.cell? ⟨gp, 5, none⟩ = some (.bool rg.on) ∧ W'.cell? ⟨gp, 6, none⟩ = some (.slice D2 rg.nd.length kd2) ∧ W'.cell? ⟨(w.heap.size + 1 + 1), 0, none⟩ = some (.int .i64 rn))) (by kernel_rfl) ⟨P2.out.cells8.2.2.2.1, P2.out.cells8.2.2.2.2.1, P2.out.cells8.2.2.2.2.2.1, P2.out.cells8.2.2.2.2.2.2.1, PN2.out.cells1.1⟩ (fun hS => ?_)
  generalize w2.drew = Wd at *
  refine wpAnyH_take (i := 0) (v := ?_) (by simp only [List.getElem?_toArray, List.getElem?_cons_succ, List.getElem?_cons_zero]; rfl) (by kernel_rfl) (by kernel_rfl) (by kernel_rfl) (fun _ _ _ h => h) (Or.inl ⟨by rfl, ?_⟩) hS ?_
  rotate_left
  · intro w' hSw; (try dsimp only at hSw); go_split_ands; go_simp; (try with_reducible rfl)
  (try simp only [Act.put, List.setIfInBounds_toArray, List.set_cons_zero, List.set_cons_succ])
  refine wpAnyH_take (i := 1) (v := ?_) (by simp only [List.getElem?_toArray, List.getElem?_cons_succ, List.getElem?_cons_zero]; rfl) (by kernel_rfl) (by kernel_rfl) (by kernel_rfl) (fun _ _ _ h => h) (Or.inl ⟨by rfl, ?_⟩) hS ?_
  rotate_left
  · intro w' hSw; (try dsimp only at hSw); go_split_ands; go_simp; (try with_reducible rfl)
  (try simp only [Act.put, List.setIfInBounds_toArray, List.set_cons_zero, List.set_cons_succ])
  refine wpAnyH_take (i := 2) (v := ?_) (by simp only [List.getElem?_toArray, List.getElem?_cons_succ, List.getElem?_cons_zero]; rfl) (by kernel_rfl) (by kernel_rfl) (by kernel_rfl) (fun _ _ _ h => h) (Or.inl ⟨by rfl, ?_⟩) hS ?_
  rotate_left
  · intro w' hSw; (try dsimp only at hSw); go_split_ands; go_simp; (try with_reducible rfl)
  (try simp only [Act.put, List.setIfInBounds_toArray, List.set_cons_zero, List.set_cons_succ])
  refine wpAnyH_take (i := 3) (v := ?_) (by simp only [List.getElem?_toArray, List.getElem?_cons_succ, List.getElem?_cons_zero]; rfl) (by kernel_rfl) (by kernel_rfl) (by kernel_rfl) (fun _ _ _ h => h) (Or.inl ⟨by rfl, ?_⟩) hS ?_
  rotate_left
  · intro w' hSw; (try dsimp only at hSw); go_split_ands; go_simp; (try with_reducible rfl)
  (try simp only [Act.put, List.setIfInBounds_toArray, List.set_cons_zero, List.set_cons_succ])
  refine wpAnyH_take (i := 4) (v := ?_) (by simp only [List.getElem?_toArray, List.getElem?_cons_succ, List.getElem?_cons_zero]; rfl) (by kernel_rfl) (by kernel_rfl) (by kernel_rfl) (fun _ _ _ h => h) (Or.inl ⟨by rfl, ?_⟩) hS ?_
  rotate_left
  · intro w' hSw; (try dsimp only at hSw); go_split_ands; go_simp; (try with_reducible rfl)
  (try simp only [Act.put, List.setIfInBounds_toArray, List.set_cons_zero, List.set_cons_succ])
  refine wpAnyH_take (i := 5) (v := ?_) (by simp only [List.getElem?_toArray, List.getElem?_cons_succ, List.getElem?_cons_zero]; rfl) (by kernel_rfl) (by kernel_rfl) (by kernel_rfl) (fun _ _ _ h => h) (Or.inl ⟨by rfl, ?_⟩) hS ?_
  rotate_left
  · intro w' hSw; (try dsimp only at hSw); go_split_ands; go_simp; (try with_reducible rfl)
  (try simp only [Act.put, List.setIfInBounds_toArray, List.set_cons_zero, List.set_cons_succ])
  refine wpAnyH_ready (rs := [6]) (by kernel_rfl) (by simp) ?_
  refine AllReadyH.cons (by simp only [List.getElem?_toArray, List.getElem?_cons_succ, List.getElem?_cons_zero]; rfl) (fun K hK => ?_) ?_
  · skip
    obtain ⟨y00, y01, y02, y03, yf0⟩ := ZG.out.cells4
    go_simp
    clear y00 y01 y02 y03 yf0
    refine named_store4 ZG.out ?_
    intro Ws6 hbk hgr hsz
    have hsz0 := hid hsz
    clear hsz
    replace P2 := hid (P2.out.grown hgr (by have := HGP.out; have := hszA.out; simp; omega)); replace PN2 := hid (PN2.out.grown hgr (by simp)); replace DO2 := hid (DO2.out.keptR ZG.out (by decide) hgr)
    replace HB2 := hid (HB2.out.grown hgr HB2.out.size (fun r e => by cases e; omega))
    replace ZG := hid hbk
    clear hbk hgr
    refine hK.out _ _ ⟨P2.out.cells8.2.2.2.1, P2.out.cells8.2.2.2.2.1, P2.out.cells8.2.2.2.2.2.1, P2.out.cells8.2.2.2.2.2.2.1, PN2.out.cells1.1⟩ (fun hS' => ?_)
    clear hK K hS
    have hS := hS'
    clear hS'
    (try simp only [Act.put, List.setIfInBounds_toArray, List.set_cons_zero, List.set_cons_succ])
    refine wpAnyH_take (i := 7) (v := ?_) (by simp only [List.getElem?_toArray, List.getElem?_cons_succ, List.getElem?_cons_zero]; rfl) (by kernel_rfl) (by kernel_rfl) (by kernel_rfl) (fun _ _ _ h => h) (Or.inl ⟨by rfl, ?_⟩) hS ?_
    rotate_left
    · intro w' hSw; (try dsimp only at hSw); go_split_ands; go_simp; (try with_reducible rfl)
    (try simp only [Act.put, List.setIfInBounds_toArray, List.set_cons_zero, List.set_cons_succ])
    refine wpAnyH_take (i := 8) (v := ?_) (by simp only [List.getElem?_toArray, List.getElem?_cons_succ, List.getElem?_cons_zero]; rfl) (by kernel_rfl) (by kernel_rfl) (by kernel_rfl) (fun _ _ _ h => h) (Or.inl ⟨by rfl, ?_⟩) hS ?_
    rotate_left
    · intro w' hSw; (try dsimp only at hSw); go_split_ands; go_simp; (try with_reducible rfl)
    (try simp only [Act.put, List.setIfInBounds_toArray, List.set_cons_zero, List.set_cons_succ])
    refine wpAnyH_done (by kernel_rfl) ?_ _
    refine NoPanic.normal ?_
    clear hS
    go_wp2
    obtain ⟨y00, y01, y02, y03, yf0⟩ := ZG.out.cells4
    refine bodyPost_ret (v := .tuple #[gv rg D2 rg.nd.length kd2, .int .i64 rn, .int .i64 rc]) (by simp [results, Try.results75, go_sem, y00, y01, y02, y03]) rfl ⟨D2, kd2, rfl, DO2.out.mono hszz.out, HB2.out⟩
  exact AllReadyH.nil
/-- what Pick hands back: the error, the grace -/
def gpickF (g : Gr) (c : Int) (q : Bool) : Int × Gr := if 0 ≤ c ∧ c < (g.nd.length : Int) then (0, gPick g c.toNat q) else (2, zGr)
def GPickPost (w : World) (r : Int × Gr) (x : Ending) (w' : World) : Prop := ∃ D kd, x = .returned (.tuple #[gv r.2 D r.2.nd.length kd, .int .i64 r.1]) ∧ Ow blv w' w.heap.size 4 D r.2.nd.length kd r.2.nd ∧ Below w.heap.size w w'
set_option maxRecDepth 100000 in
set_option maxHeartbeats 4000000 in
theorem pick1_any (w1 : World) (gd gb gc gq hi : Nat) (g : Gr) (kd : Nat) (c : Int) (q : Bool) (hgd : hi ≤ gd) (hgb : hi ≤ gb) (hne : gd ≠ gb) (hP : Blk w1 gb 126 (bth 0 none 0 0 none 0 0 g (some ⟨gd, 0, none⟩) g.nd.length kd none 0 0))
    (hD : Ow blv w1 gd 4 (some ⟨gd, 0, none⟩) g.nd.length kd g.nd) (hc : Blk w1 gc 3 #[.int .i64 c]) (hq : Blk w1 gq 4 #[.bool q]) (hg : GrOk g) :
    Calls Try.prog 80 #[ptr gb, ptr gc, ptr gq] w1 fun x w2 => GrownP (fun i => min gd gb ≤ i) w1 w2 ∧ ((x = .returned (.tuple #[]) ∧ (gpickF g c q).1 = 0 ∧ GAt w2 (min gd gb) gb (gpickF g c q).2) ∨ ∃ e, x = leaves e ∧ e = (gpickF g c q).1 ∧ e ≠ 0 ∧ (gpickF g c q).2 = zGr) := by
  unfold gpickF
  by_cases h0 : 0 ≤ c ∧ c < (g.nd.length : Int)
  · rw [if_pos h0]
    have HA := hid (pick_yes gb gd gd g.nd.length kd c q ⟨0, none, 0, 0, none, 0, 0, none, 0, 0⟩ g w1 hP hD (fun e => hne e.symm) hg.2.1 h0 hg.wrap)
    have HLN := hid (gPick_len g c.toNat q)
    obtain ⟨y0, yf⟩ := hc.cells1
    obtain ⟨z0, zf⟩ := hq.cells1
    clear hP hD hc hq h0
    go_enter Try.func80, Try.ntmps80
    go_wp2_with fail
    refine HA.out.mono ?_
    rintro e w2 ⟨rfl, h1, h2, h3⟩
    have H1 := hid h1; have H2 := hid h2; have H3 := hid h3
    clear h1 h2 h3 y0 yf z0 zf
    go_wp2_with fail
    go_end0
    refine ⟨H3.out.mono (fun i hi => by rcases hi with rfl | rfl; exact Nat.min_le_right _ _; exact Nat.min_le_left _ _), .inl ⟨by simp, by simp, ?_⟩⟩
    exact ⟨some ⟨gd, 0, none⟩, kd, by rw [HLN.out]; exact H1.out, by rw [HLN.out]; exact H2.out.mono (Nat.min_le_left _ _), Nat.min_le_right _ _⟩
  · rw [if_neg h0]
    have HA := hid (pick_no gb 0 none 0 0 none 0 0 g (some ⟨gd, 0, none⟩) g.nd.length kd none 0 0 c q w1 hP (by omega))
    obtain ⟨y0, yf⟩ := hc.cells1
    obtain ⟨z0, zf⟩ := hq.cells1
    clear hP hD hc hq h0
    go_enter Try.func80, Try.ntmps80
    go_wp2_with fail
    refine HA.out.mono ?_
    rintro e w2 ⟨rfl, rfl⟩
    unfold leaves
    go_wp2_with fail
    exact ⟨rfl, .refl _ _, .inr ⟨2, rfl, by simp, by decide, by simp⟩⟩
set_option maxRecDepth 100000 in
set_option maxHeartbeats 4000000 in
theorem gpick_any (g : Gr) (D : Option Addr) (kd : Nat) (c : Int) (q : Bool) (w : World) (hD : Sl blv false w 0 w.heap.size D g.nd.length g.nd) (hg : GrOk g) :
    Calls Try.prog 60 #[gv g D g.nd.length kd, .int .i64 c, .bool q] w (GPickPost w (gpickF g c q)) := by
  obtain ⟨r, hr⟩ : ∃ r, r = gpickF g c q := ⟨_, rfl⟩
  have HRR := hid hr
  rw [← hr]
  have HD := hid hD; have HG := hid hg; have HB := hid (Below.refl w.heap.size w)
  clear hD hg hr
  have bx := below_box w (.cells (gcs g D g.nd.length kd) 27)
  replace HD := hid (HD.out.step bx); replace HB := hid (below_then HB.out bx)
  clear bx
  have PG := hid (Blk.new w 27 (gcs g D g.nd.length kd))
  have bx := below_box (w.alloc (.cells (gcs g D g.nd.length kd) 27)) (.cells #[.int .i64 c] 3)
  replace HD := hid (HD.out.step bx); replace PG := hid (PG.out.step bx); replace HB := hid (below_then HB.out bx)
  clear bx
  have PC := hid (Blk.new2 w 3 #[.int .i64 c] (.cells (gcs g D g.nd.length kd) 27))
  have bx := below_box ((w.alloc (.cells (gcs g D g.nd.length kd) 27)).alloc (.cells #[.int .i64 c] 3)) (.cells #[.bool q] 4)
  replace HD := hid (HD.out.step bx); replace PG := hid (PG.out.step bx); replace PC := hid (PC.out.step bx); replace HB := hid (below_then HB.out bx)
  clear bx
  have PQ := hid (Blk.new3 w 4 #[.bool q] (.cells (gcs g D g.nd.length kd) 27) (.cells #[.int .i64 c] 3))
  have bx := below_box (((w.alloc (.cells (gcs g D g.nd.length kd) 27)).alloc (.cells #[.int .i64 c] 3)).alloc (.cells #[.bool q] 4)) (.cells #[.int .i64 0, .int .i64 0, .bool false, .slice none 0 0] 27)
  replace HD := hid (HD.out.step bx); replace PG := hid (PG.out.step bx); replace PC := hid (PC.out.step bx); replace PQ := hid (PQ.out.step bx); replace HB := hid (below_then HB.out bx)
  clear bx
  have ZG := hid (Blk.new4 w 27 #[.int .i64 0, .int .i64 0, .bool false, .slice none 0 0] (.cells (gcs g D g.nd.length kd) 27) (.cells #[.int .i64 c] 3) (.cells #[.bool q] 4))
  go_enter Try.func60, Try.ntmps60
  have hmf : ∀ (fn : Fn) (first cap : Array Value) (w : World), (Instr.makeFunc fn first cap).run Try.prog w = .ok (.func fn first cap) w := fun _ _ _ _ => rfl
  obtain ⟨y00, y01, y02, y03, yf0⟩ := PG.out.cells4
  go_wp2_with fail
  have hz0 := hid (show ((((w.alloc (.cells (gcs g D g.nd.length kd) 27)).alloc (.cells #[.int .i64 c] 3)).alloc (.cells #[.bool q] 4)).alloc (.cells #[.int .i64 0, .int .i64 0, .bool false, .slice none 0 0] 27)).heap.size = w.heap.size + 4 by simp)
  generalize (((w.alloc (.cells (gcs g D g.nd.length kd) 27)).alloc (.cells #[.int .i64 c] 3)).alloc (.cells #[.bool q] 4)).alloc (.cells #[.int .i64 0, .int .i64 0, .bool false, .slice none 0 0] 27) = W0 at *
  have hszA := hz0
  clear y00 y01 y02 y03 yf0 hmf hz0
  refine (tries_any g D g.nd.length kd 0 80 #[ptr (w.heap.size + 1), ptr (w.heap.size + 1 + 1)] (fun _ => False) (fun l gb W => (gpickF g c q).1 = 0 ∧ GAt W l gb (gpickF g c q).2) (fun e _ => e = (gpickF g c q).1 ∧ e ≠ 0 ∧ (gpickF g c q).2 = zGr) W0 (fun _ h => h.elim) HD.out (by have := HG.out.2.1; omega) HG.out (enters_of Try.func80 (by kernel_rfl) rfl) ?_ ?_ ?_).mono ?_
  ·intro wc gd gb hgd hgb hne hbw hPb hDb
   refine (pick1_any wc gd gb (w.heap.size + 1) (w.heap.size + 1 + 1) W0.heap.size g g.nd.length c q hgd hgb hne hPb hDb (PC.out.step hbw) (PQ.out.step hbw) HG.out).mono ?_
   rintro x w2 ⟨hg2, hx⟩
   exact ⟨hg2.mono (fun i hi => .inr hi), hx⟩
  ·rintro l gb W p u ⟨h0, h2⟩ h3 h4
   exact ⟨h0, h2.set h4 u⟩
  ·rintro e W W' h hb
   exact h
  rintro x w2 ⟨hg2, hx⟩
  have hgp : ∃ gp, x = .returned (.tuple #[ptr gp, .int .i64 (gpickF g c q).1]) ∧ W0.heap.size ≤ gp ∧ GAt w2 W0.heap.size gp (gpickF g c q).2 := by
    rcases hx with ⟨gb, rfl, l, hl1, hl2, h1, D3, kd3, h3, h4, h5⟩ | ⟨gn, e, rfl, ⟨h1, h2, h4⟩, h5, h6⟩
    · exact ⟨gb, by rw [h1], by omega, D3, kd3, h3, h4.mono hl1, by omega⟩
    · exact ⟨gn, by rw [h1], h5, by rw [h4]; exact GAt.zero h6 _ h5⟩
  obtain ⟨gp, rfl, hgp1, D2, kd2, h1, h2, _⟩ := hgp
  rw [← HRR.out] at h1 h2 ⊢
  have hb2 := hg2.toBelow
  have P2 := hid h1; have DO2 := hid h2; have HGP := hid hgp1
  have hszz := hid (show w.heap.size ≤ W0.heap.size by have := hszA.out; omega)
  replace HB := hid (below_then HB.out hb2); replace ZG := hid (ZG.out.step hb2)
  obtain ⟨rc, rg⟩ := r
  clear hx h1 h2 hgp1 hg2 hb2 HD PG PC PQ HRR HG
  dsimp only at P2 DO2 ⊢
  obtain ⟨y00, y01, y02, y03, y04, y05, y06, y07, yf0⟩ := P2.out.cells8
  obtain ⟨y10, y11, y12, y13, yf1⟩ := ZG.out.cells4
  go_wp2_with fail
  clear y00 y01 y02 y03 y04 y05 y06 y07 yf0 y10 y11 y12 y13 yf1
  have Z4 := hid (show Blk ((((w2.setCell ⟨w.heap.size + 1 + 1 + 1, 0, none⟩ (.int .i64 rg.dn)).setCell ⟨w.heap.size + 1 + 1 + 1, 1, none⟩ (.int .i64 rg.ak)).setCell ⟨w.heap.size + 1 + 1 + 1, 2, none⟩ (.bool rg.on)).setCell ⟨w.heap.size + 1 + 1 + 1, 3, none⟩ (.slice D2 rg.nd.length kd2)) (w.heap.size + 1 + 1 + 1) 27 #[.int .i64 rg.dn, .int .i64 rg.ak, .bool rg.on, .slice D2 rg.nd.length kd2] from (((ZG.out.setCell 0 _).setCell 1 _).setCell 2 _).setCell 3 _)
  obtain ⟨y00, y01, y02, y03, yf0⟩ := Z4.out.cells4
  have hgr := (grown_set (grown_set (grown_set (grown_set (World.grownBy.refl w2 (some (w.heap.size + 1 + 1 + 1))) 0 (.int .i64 rg.dn)) 1 (.int .i64 rg.ak)) 2 (.bool rg.on)) 3 (.slice D2 rg.nd.length kd2))
  refine bodyPost_ret (v := .tuple #[gv rg D2 rg.nd.length kd2, .int .i64 rc]) (by simp [results, Try.results60, go_sem, y00, y01, y02, y03]) rfl ⟨D2, kd2, rfl, (DO2.out.keptR ZG.out (by decide) hgr).mono hszz.out, HB.out.grown hgr HB.out.size (fun r e => by cases e; omega)⟩
end Go.Proofs.Ytfipdoofgbjbjaa
