/- afterglowref06: load, store. No condition but sizes. -/
import Derived.Test.YtnkaajkdjbdpaaaSq18
import Derived.Test.YtnkaajkdjbdpaaaMRef3
namespace Go.Proofs.Ytnkaajkdjbdpaaa
open Go.RowKit
theorem mem_kept {W W' : World} {A : Option Addr} {n c : Nat} {B : Option Addr} {d : Nat} {ws : List Int} {ls : List Bool} {g : Nat} (h : Mem W A n c B n d ws ls) (hf : FarM n A B g) (hg : W.grownBy W' (some g)) : Mem W' A n c B n d ws ls := by
  refine ⟨⟨h.hx.len, fun hn => ?_⟩, ⟨h.hy.len, fun hn => ?_⟩, h.hnc, h.hmd, h.hn, h.hm⟩
  · obtain ⟨b, off, rfl, h0, h1, h2⟩ := h.hx.row hn
    exact ⟨b, off, rfl, h0, Nat.lt_of_lt_of_le h1 hg.size, fun k hk => (World.cell?_of_block (a := ⟨b, off + k, none⟩) (hg.block b h1 (fun e => (hf hn).1 _ rfl (by simpa using e)))).trans (h2 k hk)⟩
  · obtain ⟨b, off, rfl, h0, h1, h2⟩ := h.hy.row hn
    exact ⟨b, off, rfl, h0, Nat.lt_of_lt_of_le h1 hg.size, fun k hk => (World.cell?_of_block (a := ⟨b, off + k, none⟩) (hg.block b h1 (fun e => (hf hn).2 _ rfl (by simpa using e)))).trans (h2 k hk)⟩
def RLPost (W : World) (A : Option Addr) (n : Nat) (B : Option Addr) (r : MSt × (Int × Bool)) (e : Ending) (W' : World) : Prop :=
  ∃ A' c' B' d', e = .returned (.tuple #[mv A' n c' B' n d' r.1.2.2, .int .u64 r.2.1, .bool r.2.2]) ∧ Mem W' A' n c' B' n d' r.1.1 r.1.2.1 ∧ Below W.heap.size W W' ∧ ∀ g, g < W.heap.size → FarM n A B g → FarM n A' B' g
def RTPost (W : World) (A : Option Addr) (n : Nat) (B : Option Addr) (r : MSt × (Int × Bool)) (e : Ending) (W' : World) : Prop :=
  ∃ A' c' B' d', e = .returned (.tuple #[mv A' n c' B' n d' r.1.2.2, .bool r.2.2]) ∧ Mem W' A' n c' B' n d' r.1.1 r.1.2.1 ∧ Below W.heap.size W W' ∧ ∀ g, g < W.heap.size → FarM n A B g → FarM n A' B' g
set_option maxRecDepth 100000 in
set_option maxHeartbeats 4000000 in
theorem rload_any (A : Option Addr) (n c : Nat) (B : Option Addr) (d : Nat) (f : Bool) (ws : List Int) (ls : List Bool) (at_ : Int) (w : World) (h : Mem w A n c B n d ws ls) :
    Calls Try.prog 56 #[mv A n c B n d f, .int .i64 at_] w (RLPost w A n B (stepM (ws, ls, f) (1, at_, 0, 0))) := by
  have HM := hid h; have HB := hid (Below.refl w.heap.size w)
  have HF := hid (show ∀ g, w.heap.size ≤ g → FarM n A B g from fun g hg => h.far hg)
  obtain ⟨⟨⟨ws2, ls2, f2⟩, ⟨gx, gy⟩⟩, hst⟩ : ∃ r, r = stepM (ws, ls, f) (1, at_, 0, 0) := ⟨_, rfl⟩
  rw [← hst]
  have HST := hid hst
  clear h hst
  have bx := below_box w (.cells (mcs A n c B n d f) 44)
  replace HM := hid (HM.out.step bx); replace HB := hid (below_then HB.out bx)
  clear bx
  have PM := hid (Blk.new w 44 (mcs A n c B n d f))
  have bx := below_box (w.alloc (.cells (mcs A n c B n d f) 44)) (.cells (mcs none 0 0 none 0 0 false) 44)
  replace HM := hid (HM.out.step bx); replace PM := hid (PM.out.step bx); replace HB := hid (below_then HB.out bx)
  clear bx
  have PR := hid (Blk.new2 w 44 (mcs none 0 0 none 0 0 false) (.cells (mcs A n c B n d f) 44))
  go_enter Try.func56, Try.ntmps56
  obtain ⟨y00, y01, y02, yf0⟩ := PM.out.cells3
  go_wp2_with fail
  clear y00 y01 y02 yf0
  have hz0 := hid (show ((w.alloc (.cells (mcs A n c B n d f) 44)).alloc (.cells (mcs none 0 0 none 0 0 false) 44)).heap.size = w.heap.size + 2 by simp)
  generalize (w.alloc (.cells (mcs A n c B n d f) 44)).alloc (.cells (mcs none 0 0 none 0 0 false) 44) = W0 at *
  refine (rstep_any A n c B n d f ws ls 1 at_ 0 0 _ HM.out rfl).mono ?_
  rintro e w3 ⟨A2, c2, B2, d2, rfl, hmn, hb, htr⟩
  rw [← HST.out] at hmn ⊢
  dsimp only at hmn ⊢
  have MN := hid hmn; have TR := hid (show ∀ g, g < W0.heap.size → FarM n A B g → FarM n A2 B2 g from htr)
  have hs3 := hid (show w.heap.size + 2 ≤ w3.heap.size by have := hb.size; have := hz0.out; omega)
  have HFGO := hid (show FarM n A2 B2 w3.heap.size from hmn.far (Nat.le_refl _))
  clear hmn htr HM
  replace PM := hid (PM.out.step hb); replace PR := hid (PR.out.step hb); replace HB := hid (below_then HB.out hb)
  clear hb
  have bx := below_box w3 (.cells #[.int .u64 0, .bool false] 112)
  replace PM := hid (PM.out.step bx); replace PR := hid (PR.out.step bx); replace MN := hid (MN.out.step bx); replace HB := hid (below_then HB.out bx)
  clear bx
  have PG := hid (Blk.new w3 112 #[.int .u64 0, .bool false])
  have HFP := hid (show FarM n A2 B2 w.heap.size from TR.out _ (by have := hz0.out; omega) (HF.out _ (Nat.le_refl _)))
  have HFR := hid (show FarM n A2 B2 (w.heap.size + 1) from TR.out _ (by have := hz0.out; omega) (HF.out _ (by omega)))
  have HFG := hid (show FarM n A2 B2 w3.heap.size from HFGO.out)
  have hgr : (w3.alloc (.cells #[.int .u64 0, .bool false] 112)).grownBy ((((w3.alloc (.cells #[.int .u64 0, .bool false] 112)).setCell ⟨w.heap.size, 0, none⟩ (.slice A2 n c2)).setCell ⟨w.heap.size, 1, none⟩ (.slice B2 n d2)).setCell ⟨w.heap.size, 2, none⟩ (.bool f2)) (some (w.heap.size)) := (grown_set (grown_set (grown_set (World.grownBy.refl (w3.alloc (.cells #[.int .u64 0, .bool false] 112)) (some (w.heap.size))) 0 (.slice A2 n c2)) 1 (.slice B2 n d2)) 2 (.bool f2))
  have PX := PM; have hpx : Hid (Blk ((((w3.alloc (.cells #[.int .u64 0, .bool false] 112)).setCell ⟨w.heap.size, 0, none⟩ (.slice A2 n c2)).setCell ⟨w.heap.size, 1, none⟩ (.slice B2 n d2)).setCell ⟨w.heap.size, 2, none⟩ (.bool f2)) (w.heap.size) 44 #[.slice A2 n c2, .slice B2 n d2, .bool f2]) := hid (((PM.out.setCell 0 (.slice A2 n c2)).setCell 1 (.slice B2 n d2)).setCell 2 (.bool f2))
  obtain ⟨y00, y01, y02, yf0⟩ := PX.out.cells3
  replace PG := hid (PG.out.grown hgr (by have := hs3.out; simp; omega))
  replace PR := hid (PR.out.grown hgr (by have := hs3.out; simp <;> omega))
  replace MN := hid (mem_kept MN.out HFP.out hgr)
  replace HB := hid (HB.out.grown hgr HB.out.size (fun r e => by cases e; have := hs3.out; omega))
  replace PM := hpx
  clear hgr hpx
  obtain ⟨z0, z1, zf⟩ := PG.out.cells2
  go_upto_region 2 with fail
  clear y00 y01 y02 yf0 z0 z1 zf PX
  generalize ((((w3.alloc (.cells #[.int .u64 0, .bool false] 112)).setCell ⟨w.heap.size, 0, none⟩ (.slice A2 n c2)).setCell ⟨w.heap.size, 1, none⟩ (.slice B2 n d2)).setCell ⟨w.heap.size, 2, none⟩ (.bool f2)) = Wp at *
  have PX := PG
  have hbk0 : Blk (Wp.setCell ⟨w3.heap.size, 0, none⟩ (.int .u64 gx)) (w3.heap.size) 112 #[.int .u64 gx, .bool false] := PG.out.setCell 0 (.int .u64 gx)
  have hbk1 : Blk ((Wp.setCell ⟨w3.heap.size, 0, none⟩ (.int .u64 gx)).setCell ⟨w3.heap.size, 1, none⟩ (.bool gy)) (w3.heap.size) 112 #[.int .u64 gx, .bool gy] := hbk0.setCell 1 (.bool gy)
  have hgr : Wp.grownBy ((Wp.setCell ⟨w3.heap.size, 0, none⟩ (.int .u64 gx)).setCell ⟨w3.heap.size, 1, none⟩ (.bool gy)) (some (w3.heap.size)) := (grown_set (grown_set (World.grownBy.refl Wp (some (w3.heap.size))) 0 (.int .u64 gx)) 1 (.bool gy))
  replace PG := hid hbk1
  clear hbk0 hbk1
  generalize (Wp.setCell ⟨w3.heap.size, 0, none⟩ (.int .u64 gx)).setCell ⟨w3.heap.size, 1, none⟩ (.bool gy) = W5 at *
  replace PM := hid (PM.out.grown hgr (by have := hs3.out; simp; omega))
  replace PR := hid (PR.out.grown hgr (by have := hs3.out; simp <;> omega))
  replace MN := hid (mem_kept MN.out HFG.out hgr)
  replace HB := hid (HB.out.grown hgr HB.out.size (fun r e => by cases e; have := hs3.out; omega))
  clear hgr PX
  have bx := (Below.refl W5.heap.size W5).drew
  replace PM := hid (PM.out.step bx); replace PR := hid (PR.out.step bx); replace MN := hid (MN.out.step bx); replace PG := hid (PG.out.step bx); replace HB := hid (below_then HB.out bx)
  clear bx
  have hszd := hid (show W5.drew.heap.size = W5.heap.size from rfl)
  refine wp_region_noPanic ?_
  refine wp_region_held_drew (S := (fun W' : World => W'.cell? ⟨w.heap.size, 0, none⟩ = some (.slice A2 n c2) ∧ W'.cell? ⟨w.heap.size, 1, none⟩ = some (.slice B2 n d2) ∧ W'.cell? ⟨w.heap.size, 2, none⟩ = some (.bool f2) ∧ W'.cell? ⟨w3.heap.size, 0, none⟩ = some (.int .u64 gx) ∧ W'.cell? ⟨w3.heap.size, 1, none⟩ = some (.bool gy))) (by kernel_rfl) ⟨PM.out.cells3.1, PM.out.cells3.2.1, PM.out.cells3.2.2.1, PG.out.cells2.1, PG.out.cells2.2.1⟩ (fun hS => ?_)
  generalize W5.drew = Wd at *
  refine wpAnyH_take (i := 0) (v := ?_) (by simp only [List.getElem?_toArray, List.getElem?_cons_succ, List.getElem?_cons_zero]; rfl) (by kernel_rfl) (by kernel_rfl) (by kernel_rfl) (fun _ _ _ h => h) (Or.inl ⟨by rfl, ?_⟩) hS ?_
  rotate_left
  · intro w' hSw; (try dsimp only at hSw); go_split_ands; go_simp; (try with_reducible rfl)
  (try simp only [Act.put, List.setIfInBounds_toArray, List.set_cons_zero, List.set_cons_succ])
  refine wpAnyH_take (i := 1) (v := ?_) (by simp only [List.getElem?_toArray, List.getElem?_cons_succ, List.getElem?_cons_zero]; rfl) (by kernel_rfl) (by kernel_rfl) (by kernel_rfl) (fun _ _ _ h => h) (Or.inl ⟨by rfl, ?_⟩) hS ?_
  rotate_left
  · intro w' hSw; (try dsimp only at hSw); go_split_ands; go_simp; (try with_reducible rfl)
  (try simp only [Act.put, List.setIfInBounds_toArray, List.set_cons_zero, List.set_cons_succ])
  refine wpAnyH_take (i := 2) (v := ?_) (by simp only [List.getElem?_toArray, List.getElem?_cons_succ, List.getElem?_cons_zero]; rfl) (by kernel_rfl) (by kernel_rfl) (by kernel_rfl) (fun _ _ _ h => h) (Or.inl ⟨by rfl, ?_⟩) hS ?_
  rotate_left
  · intro w' hSw; (try dsimp only at hSw); go_split_ands; go_simp; (try with_reducible rfl)
  (try simp only [Act.put, List.setIfInBounds_toArray, List.set_cons_zero, List.set_cons_succ])
  refine wpAnyH_take (i := 3) (v := ?_) (by simp only [List.getElem?_toArray, List.getElem?_cons_succ, List.getElem?_cons_zero]; rfl) (by kernel_rfl) (by kernel_rfl) (by kernel_rfl) (fun _ _ _ h => h) (Or.inl ⟨by rfl, ?_⟩) hS ?_
  rotate_left
  · intro w' hSw; (try dsimp only at hSw); go_split_ands; go_simp; (try with_reducible rfl)
  (try simp only [Act.put, List.setIfInBounds_toArray, List.set_cons_zero, List.set_cons_succ])
  refine wpAnyH_take (i := 4) (v := ?_) (by simp only [List.getElem?_toArray, List.getElem?_cons_succ, List.getElem?_cons_zero]; rfl) (by kernel_rfl) (by kernel_rfl) (by kernel_rfl) (fun _ _ _ h => h) (Or.inl ⟨by rfl, ?_⟩) hS ?_
  rotate_left
  · intro w' hSw; (try dsimp only at hSw); go_split_ands; go_simp; (try with_reducible rfl)
  (try simp only [Act.put, List.setIfInBounds_toArray, List.set_cons_zero, List.set_cons_succ])
  refine wpAnyH_ready (rs := [5]) (by kernel_rfl) (by simp) ?_
  refine AllReadyH.cons (by simp only [List.getElem?_toArray, List.getElem?_cons_succ, List.getElem?_cons_zero]; rfl) (fun K hK => ?_) ?_
  · skip
    obtain ⟨y00, y01, y02, yf0⟩ := PR.out.cells3
    go_simp
    clear y00 y01 y02 yf0
    refine named_store3 PR.out ?_
    intro Ws5 hbk hgr hsz
    have hsz0 := hid hsz
    clear hsz
    replace PM := hid (PM.out.grown hgr (by simp <;> omega))
    replace PG := hid (PG.out.grown hgr (by have := hs3.out; simp; omega))
    replace MN := hid (mem_kept MN.out HFR.out hgr)
    replace HB := hid (HB.out.grown hgr HB.out.size (fun r e => by cases e; omega))
    replace PR := hid hbk
    clear hbk hgr
    refine hK.out _ _ ⟨PM.out.cells3.1, PM.out.cells3.2.1, PM.out.cells3.2.2.1, PG.out.cells2.1, PG.out.cells2.2.1⟩ (fun hS' => ?_)
    clear hK K hS
    have hS := hS'
    clear hS'
    (try simp only [Act.put, List.setIfInBounds_toArray, List.set_cons_zero, List.set_cons_succ])
    refine wpAnyH_take (i := 6) (v := ?_) (by simp only [List.getElem?_toArray, List.getElem?_cons_succ, List.getElem?_cons_zero]; rfl) (by kernel_rfl) (by kernel_rfl) (by kernel_rfl) (fun _ _ _ h => h) (Or.inl ⟨by rfl, ?_⟩) hS ?_
    rotate_left
    · intro w' hSw; (try dsimp only at hSw); go_split_ands; go_simp; (try with_reducible rfl)
    (try simp only [Act.put, List.setIfInBounds_toArray, List.set_cons_zero, List.set_cons_succ])
    refine wpAnyH_take (i := 7) (v := ?_) (by simp only [List.getElem?_toArray, List.getElem?_cons_succ, List.getElem?_cons_zero]; rfl) (by kernel_rfl) (by kernel_rfl) (by kernel_rfl) (fun _ _ _ h => h) (Or.inl ⟨by rfl, ?_⟩) hS ?_
    rotate_left
    · intro w' hSw; (try dsimp only at hSw); go_split_ands; go_simp; (try with_reducible rfl)
    (try simp only [Act.put, List.setIfInBounds_toArray, List.set_cons_zero, List.set_cons_succ])
    refine wpAnyH_done (by kernel_rfl) ?_ _
    refine NoPanic.normal ?_
    clear hS
    go_wp2
    obtain ⟨q0, q1, q2, qf⟩ := PR.out.cells3
    refine bodyPost_ret (v := .tuple #[mv A2 n c2 B2 n d2 f2, .int .u64 gx, .bool gy]) (by simp [results, Try.results56, go_sem, q0, q1, q2]) rfl ⟨A2, c2, B2, d2, rfl, MN.out, HB.out, fun g hg hf => TR.out g (by have := hz0.out; omega) hf⟩
  exact AllReadyH.nil
set_option maxRecDepth 100000 in
set_option maxHeartbeats 4000000 in
theorem rstore_any (A : Option Addr) (n c : Nat) (B : Option Addr) (d : Nat) (f : Bool) (ws : List Int) (ls : List Bool) (at_ v : Int) (w : World) (h : Mem w A n c B n d ws ls) :
    Calls Try.prog 57 #[mv A n c B n d f, .int .i64 at_, .int .u64 v] w (RTPost w A n B (stepM (ws, ls, f) (2, at_, 0, v))) := by
  have HM := hid h; have HB := hid (Below.refl w.heap.size w)
  have HF := hid (show ∀ g, w.heap.size ≤ g → FarM n A B g from fun g hg => h.far hg)
  obtain ⟨⟨⟨ws2, ls2, f2⟩, ⟨gx, gy⟩⟩, hst⟩ : ∃ r, r = stepM (ws, ls, f) (2, at_, 0, v) := ⟨_, rfl⟩
  rw [← hst]
  have HST := hid hst
  clear h hst
  have bx := below_box w (.cells (mcs A n c B n d f) 44)
  replace HM := hid (HM.out.step bx); replace HB := hid (below_then HB.out bx)
  clear bx
  have PM := hid (Blk.new w 44 (mcs A n c B n d f))
  have bx := below_box (w.alloc (.cells (mcs A n c B n d f) 44)) (.cells (mcs none 0 0 none 0 0 false) 44)
  replace HM := hid (HM.out.step bx); replace PM := hid (PM.out.step bx); replace HB := hid (below_then HB.out bx)
  clear bx
  have PR := hid (Blk.new2 w 44 (mcs none 0 0 none 0 0 false) (.cells (mcs A n c B n d f) 44))
  go_enter Try.func57, Try.ntmps57
  obtain ⟨y00, y01, y02, yf0⟩ := PM.out.cells3
  go_wp2_with fail
  clear y00 y01 y02 yf0
  have hz0 := hid (show ((w.alloc (.cells (mcs A n c B n d f) 44)).alloc (.cells (mcs none 0 0 none 0 0 false) 44)).heap.size = w.heap.size + 2 by simp)
  generalize (w.alloc (.cells (mcs A n c B n d f) 44)).alloc (.cells (mcs none 0 0 none 0 0 false) 44) = W0 at *
  refine (rstep_any A n c B n d f ws ls 2 at_ 0 v _ HM.out rfl).mono ?_
  rintro e w3 ⟨A2, c2, B2, d2, rfl, hmn, hb, htr⟩
  rw [← HST.out] at hmn ⊢
  dsimp only at hmn ⊢
  have MN := hid hmn; have TR := hid (show ∀ g, g < W0.heap.size → FarM n A B g → FarM n A2 B2 g from htr)
  have hs3 := hid (show w.heap.size + 2 ≤ w3.heap.size by have := hb.size; have := hz0.out; omega)
  have HFGO := hid (show FarM n A2 B2 w3.heap.size from hmn.far (Nat.le_refl _))
  clear hmn htr HM
  replace PM := hid (PM.out.step hb); replace PR := hid (PR.out.step hb); replace HB := hid (below_then HB.out hb)
  clear hb
  have bx := below_box w3 (.cells #[.int .u64 0, .bool false] 112)
  replace PM := hid (PM.out.step bx); replace PR := hid (PR.out.step bx); replace MN := hid (MN.out.step bx); replace HB := hid (below_then HB.out bx)
  clear bx
  have PG := hid (Blk.new w3 112 #[.int .u64 0, .bool false])
  have HFP := hid (show FarM n A2 B2 w.heap.size from TR.out _ (by have := hz0.out; omega) (HF.out _ (Nat.le_refl _)))
  have HFR := hid (show FarM n A2 B2 (w.heap.size + 1) from TR.out _ (by have := hz0.out; omega) (HF.out _ (by omega)))
  have HFG := hid (show FarM n A2 B2 w3.heap.size from HFGO.out)
  have hgr : (w3.alloc (.cells #[.int .u64 0, .bool false] 112)).grownBy ((((w3.alloc (.cells #[.int .u64 0, .bool false] 112)).setCell ⟨w.heap.size, 0, none⟩ (.slice A2 n c2)).setCell ⟨w.heap.size, 1, none⟩ (.slice B2 n d2)).setCell ⟨w.heap.size, 2, none⟩ (.bool f2)) (some (w.heap.size)) := (grown_set (grown_set (grown_set (World.grownBy.refl (w3.alloc (.cells #[.int .u64 0, .bool false] 112)) (some (w.heap.size))) 0 (.slice A2 n c2)) 1 (.slice B2 n d2)) 2 (.bool f2))
  have PX := PM; have hpx : Hid (Blk ((((w3.alloc (.cells #[.int .u64 0, .bool false] 112)).setCell ⟨w.heap.size, 0, none⟩ (.slice A2 n c2)).setCell ⟨w.heap.size, 1, none⟩ (.slice B2 n d2)).setCell ⟨w.heap.size, 2, none⟩ (.bool f2)) (w.heap.size) 44 #[.slice A2 n c2, .slice B2 n d2, .bool f2]) := hid (((PM.out.setCell 0 (.slice A2 n c2)).setCell 1 (.slice B2 n d2)).setCell 2 (.bool f2))
  obtain ⟨y00, y01, y02, yf0⟩ := PX.out.cells3
  replace PG := hid (PG.out.grown hgr (by have := hs3.out; simp; omega))
  replace PR := hid (PR.out.grown hgr (by have := hs3.out; simp <;> omega))
  replace MN := hid (mem_kept MN.out HFP.out hgr)
  replace HB := hid (HB.out.grown hgr HB.out.size (fun r e => by cases e; have := hs3.out; omega))
  replace PM := hpx
  clear hgr hpx
  obtain ⟨z0, z1, zf⟩ := PG.out.cells2
  go_upto_region 2 with fail
  clear y00 y01 y02 yf0 z0 z1 zf PX
  generalize ((((w3.alloc (.cells #[.int .u64 0, .bool false] 112)).setCell ⟨w.heap.size, 0, none⟩ (.slice A2 n c2)).setCell ⟨w.heap.size, 1, none⟩ (.slice B2 n d2)).setCell ⟨w.heap.size, 2, none⟩ (.bool f2)) = Wp at *
  have PX := PG
  have hbk0 : Blk (Wp.setCell ⟨w3.heap.size, 0, none⟩ (.int .u64 gx)) (w3.heap.size) 112 #[.int .u64 gx, .bool false] := PG.out.setCell 0 (.int .u64 gx)
  have hbk1 : Blk ((Wp.setCell ⟨w3.heap.size, 0, none⟩ (.int .u64 gx)).setCell ⟨w3.heap.size, 1, none⟩ (.bool gy)) (w3.heap.size) 112 #[.int .u64 gx, .bool gy] := hbk0.setCell 1 (.bool gy)
  have hgr : Wp.grownBy ((Wp.setCell ⟨w3.heap.size, 0, none⟩ (.int .u64 gx)).setCell ⟨w3.heap.size, 1, none⟩ (.bool gy)) (some (w3.heap.size)) := (grown_set (grown_set (World.grownBy.refl Wp (some (w3.heap.size))) 0 (.int .u64 gx)) 1 (.bool gy))
  replace PG := hid hbk1
  clear hbk0 hbk1
  generalize (Wp.setCell ⟨w3.heap.size, 0, none⟩ (.int .u64 gx)).setCell ⟨w3.heap.size, 1, none⟩ (.bool gy) = W5 at *
  replace PM := hid (PM.out.grown hgr (by have := hs3.out; simp; omega))
  replace PR := hid (PR.out.grown hgr (by have := hs3.out; simp <;> omega))
  replace MN := hid (mem_kept MN.out HFG.out hgr)
  replace HB := hid (HB.out.grown hgr HB.out.size (fun r e => by cases e; have := hs3.out; omega))
  clear hgr PX
  have bx := (Below.refl W5.heap.size W5).drew
  replace PM := hid (PM.out.step bx); replace PR := hid (PR.out.step bx); replace MN := hid (MN.out.step bx); replace PG := hid (PG.out.step bx); replace HB := hid (below_then HB.out bx)
  clear bx
  have hszd := hid (show W5.drew.heap.size = W5.heap.size from rfl)
  refine wp_region_noPanic ?_
  refine wp_region_held_drew (S := (fun W' : World => W'.cell? ⟨w.heap.size, 0, none⟩ = some (.slice A2 n c2) ∧ W'.cell? ⟨w.heap.size, 1, none⟩ = some (.slice B2 n d2) ∧ W'.cell? ⟨w.heap.size, 2, none⟩ = some (.bool f2) ∧ W'.cell? ⟨w3.heap.size, 0, none⟩ = some (.int .u64 gx) ∧ W'.cell? ⟨w3.heap.size, 1, none⟩ = some (.bool gy))) (by kernel_rfl) ⟨PM.out.cells3.1, PM.out.cells3.2.1, PM.out.cells3.2.2.1, PG.out.cells2.1, PG.out.cells2.2.1⟩ (fun hS => ?_)
  generalize W5.drew = Wd at *
  refine wpAnyH_take (i := 0) (v := ?_) (by simp only [List.getElem?_toArray, List.getElem?_cons_succ, List.getElem?_cons_zero]; rfl) (by kernel_rfl) (by kernel_rfl) (by kernel_rfl) (fun _ _ _ h => h) (Or.inl ⟨by rfl, ?_⟩) hS ?_
  rotate_left
  · intro w' hSw; (try dsimp only at hSw); go_split_ands; go_simp; (try with_reducible rfl)
  (try simp only [Act.put, List.setIfInBounds_toArray, List.set_cons_zero, List.set_cons_succ])
  refine wpAnyH_take (i := 1) (v := ?_) (by simp only [List.getElem?_toArray, List.getElem?_cons_succ, List.getElem?_cons_zero]; rfl) (by kernel_rfl) (by kernel_rfl) (by kernel_rfl) (fun _ _ _ h => h) (Or.inl ⟨by rfl, ?_⟩) hS ?_
  rotate_left
  · intro w' hSw; (try dsimp only at hSw); go_split_ands; go_simp; (try with_reducible rfl)
  (try simp only [Act.put, List.setIfInBounds_toArray, List.set_cons_zero, List.set_cons_succ])
  refine wpAnyH_take (i := 2) (v := ?_) (by simp only [List.getElem?_toArray, List.getElem?_cons_succ, List.getElem?_cons_zero]; rfl) (by kernel_rfl) (by kernel_rfl) (by kernel_rfl) (fun _ _ _ h => h) (Or.inl ⟨by rfl, ?_⟩) hS ?_
  rotate_left
  · intro w' hSw; (try dsimp only at hSw); go_split_ands; go_simp; (try with_reducible rfl)
  (try simp only [Act.put, List.setIfInBounds_toArray, List.set_cons_zero, List.set_cons_succ])
  refine wpAnyH_ready (rs := [3]) (by kernel_rfl) (by simp) ?_
  refine AllReadyH.cons (by simp only [List.getElem?_toArray, List.getElem?_cons_succ, List.getElem?_cons_zero]; rfl) (fun K hK => ?_) ?_
  · skip
    obtain ⟨y00, y01, y02, yf0⟩ := PR.out.cells3
    go_simp
    clear y00 y01 y02 yf0
    refine named_store3 PR.out ?_
    intro Ws3 hbk hgr hsz
    have hsz0 := hid hsz
    clear hsz
    replace PM := hid (PM.out.grown hgr (by simp <;> omega))
    replace PG := hid (PG.out.grown hgr (by have := hs3.out; simp; omega))
    replace MN := hid (mem_kept MN.out HFR.out hgr)
    replace HB := hid (HB.out.grown hgr HB.out.size (fun r e => by cases e; omega))
    replace PR := hid hbk
    clear hbk hgr
    refine hK.out _ _ ⟨PM.out.cells3.1, PM.out.cells3.2.1, PM.out.cells3.2.2.1, PG.out.cells2.1, PG.out.cells2.2.1⟩ (fun hS' => ?_)
    clear hK K hS
    have hS := hS'
    clear hS'
    (try simp only [Act.put, List.setIfInBounds_toArray, List.set_cons_zero, List.set_cons_succ])
    refine wpAnyH_take (i := 4) (v := ?_) (by simp only [List.getElem?_toArray, List.getElem?_cons_succ, List.getElem?_cons_zero]; rfl) (by kernel_rfl) (by kernel_rfl) (by kernel_rfl) (fun _ _ _ h => h) (Or.inl ⟨by rfl, ?_⟩) hS ?_
    rotate_left
    · intro w' hSw; (try dsimp only at hSw); go_split_ands; go_simp; (try with_reducible rfl)
    (try simp only [Act.put, List.setIfInBounds_toArray, List.set_cons_zero, List.set_cons_succ])
    refine wpAnyH_done (by kernel_rfl) ?_ _
    refine NoPanic.normal ?_
    clear hS
    go_wp2
    obtain ⟨q0, q1, q2, qf⟩ := PR.out.cells3
    refine bodyPost_ret (v := .tuple #[mv A2 n c2 B2 n d2 f2, .bool gy]) (by simp [results, Try.results57, go_sem, q0, q1, q2]) rfl ⟨A2, c2, B2, d2, rfl, MN.out, HB.out, fun g hg hf => TR.out g (by have := hz0.out; omega) hf⟩
  exact AllReadyH.nil
end Go.Proofs.Ytnkaajkdjbdpaaa
