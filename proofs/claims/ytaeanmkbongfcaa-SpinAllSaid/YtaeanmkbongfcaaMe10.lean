/- package memory: Run. No condition but sizes. -/
import Derived.Test.YtaeanmkbongfcaaMe9
import Derived.Test.YtaeanmkbongfcaaKitA
namespace Go.Proofs.Ytaeanmkbongfcaa
open Go.RowKit
def encA (a : Acc) : Nat → Value
  | 0 => .int .i64 a.1
  | 1 => .int .i64 a.2.1
  | 2 => .int .u64 a.2.2.1
  | _ => .int .u64 a.2.2.2
def encG (g : Int × Bool) : Nat → Value
  | 0 => .int .u64 g.1
  | _ => .bool g.2
theorem encG_one (y : Int × Bool) (j : Nat) (_ : j < 2) : (encG y j).oneCell' = true := by
  unfold encG; split <;> rfl
theorem info_got : (Try.prog.info? 54).map (fun i => (i.zero, i.size, i.bytes)) = some (some (.agg #[.int .u64 0, .bool false]), 2, 16) := by kernel_rfl
/-- accesses, one behind the other -/
def runG (s : MSt) (gs : List (Int × Bool)) : List Acc → Int × MSt × List (Int × Bool)
  | [] => (0, s, gs)
  | a :: l => if (accF s a).1 = 0 then runG (accF s a).2.1 (gs ++ [(accF s a).2.2]) l else ((accF s a).1, ([], [], false), [])
def runMF (s : MSt) (l : List Acc) : Int × MSt × List (Int × Bool) := if MGood s.1 s.2.1 then runG s [] l else (120, ([], [], false), [])
def MRPost (W : World) (r : Int × MSt × List (Int × Bool)) (e : Ending) (W' : World) : Prop :=
  ∃ A n c B m d G ng cg, e = .returned (.tuple #[mv A n c B m d r.2.1.2.2, .slice G ng cg, .int .i64 r.1]) ∧ Mown W' W.heap.size A n c B m d r.2.1.1 r.2.1.2.1 ∧ Om 2 encG W' W.heap.size 54 G ng cg r.2.2 ∧ Below W.heap.size W W'
section
variable {W W' : World} {A : Option Addr} {n c lo lo' : Nat} {B : Option Addr} {m d : Nat} {ws : List Int} {ls : List Bool}
theorem Mown.alloc (h : Mown W lo A n c B m d ws ls) (o : Obj) : Mown (W.alloc o) lo A n c B m d ws ls := ⟨h.oa.alloc o, h.ob.alloc o, h.apart, h.hn, h.hm⟩
theorem Mown.drew (h : Mown W lo A n c B m d ws ls) : Mown W.drew lo A n c B m d ws ls := ⟨h.oa.drewN 1, h.ob.drewN 1, h.apart, h.hn, h.hm⟩
theorem Ow.grownlo {α : Type} {enc : α → Value} {e : TypeId} {xs : List α} {row : Option Nat} (h : Ow enc W lo e A n c xs) (hg : W.grownBy W' row) (hr : ∀ k, row = some k → k < lo) : Ow enc W' lo e A n c xs := by
  refine ⟨h.len, h.own.1, ?_⟩
  rcases h.own.2 with hh | ⟨g, cap, cur, hv, hb1, hgg, r⟩
  · exact .inl hh
  · exact .inr ⟨g, cap, cur, hv, hb1, (hg.block g (Array.getElem?_eq_some_iff.1 hgg).1 (fun he => by have := hr g he.symm; omega)).trans hgg, r⟩
theorem Mown.grownlo {row : Option Nat} (h : Mown W lo A n c B m d ws ls) (hg : W.grownBy W' row) (hr : ∀ k, row = some k → k < lo) : Mown W' lo A n c B m d ws ls := ⟨h.oa.grownlo hg hr, h.ob.grownlo hg hr, h.apart, h.hn, h.hm⟩
theorem Sm.drew {α : Type} {sz : Nat} {enc : α → Nat → Value} {d : α} {hi : Nat} {xs : List α} (h : Sm sz enc d W lo hi A n xs) : Sm sz enc d W.drew lo hi A n xs := ⟨h.len, h.row⟩
theorem Sm.setCell {α : Type} {sz : Nat} {enc : α → Nat → Value} {d : α} {hi : Nat} {xs : List α} (h : Sm sz enc d W lo hi A n xs) {p : Addr} (hp : p.block < lo ∨ hi ≤ p.block) (u : Value) : Sm sz enc d (W.setCell p u) lo hi A n xs :=
  h.keep fun b i h1 h2 => World.cell?_setCell_other W p ⟨b, i, none⟩ u (fun e => by subst e; simp at hp; omega)
theorem Sm.one' {α : Type} {sz : Nat} {enc : α → Nat → Value} {d : α} {e : TypeId} {cs : Array Value} {g : Nat} (x : α) (hg : g = W.heap.size) (hc : ∀ j, j < sz → cs[j]? = some (enc x j)) : Sm sz enc d (W.alloc (.cells cs e)) g (g + 1) (some ⟨g, 0, none⟩) 1 [x] := by
  have h := Sm.one (sz := sz) (enc := enc) (d := d) (e := e) (w := W) x hg hc
  refine ⟨h.len, fun hn => ?_⟩
  obtain ⟨b, off, e1, h1, h2, h3⟩ := h.row hn
  obtain ⟨rfl, rfl⟩ : g = b ∧ 0 = off := by simpa using e1
  exact ⟨g, 0, rfl, Nat.le_refl _, by omega, h3⟩
theorem Om.lt {α : Type} {sz : Nat} {enc : α → Nat → Value} {e : TypeId} {xs : List α} (h : Om sz enc W lo e A n c xs) : ∀ k, (Value.slice A n c).ownBlock = some k → k < W.heap.size := fun k hk => (h.own.lt k hk).2
end
/-- in the loop of Run -/
structure RunRel (w wr : World) (A : Option Addr) (n c : Nat) (B : Option Addr) (m d : Nat) (s : MSt) (G : Option Addr) (ng cg : Nat) (gs : List (Int × Bool)) : Prop where
  om : Mown wr (w.heap.size + 2) A n c B m d s.1 s.2.1
  pm : Blk wr w.heap.size 25 (mcs A n c B m d s.2.2)
  pz : Blk wr (w.heap.size + 1) 25 (mcs none 0 0 none 0 0 false)
  og : Om 2 encG wr (w.heap.size + 2) 54 G ng cg gs
  be : Below w.heap.size w wr

set_option maxRecDepth 10000 in
set_option maxHeartbeats 4000000 in
theorem mrun_good (A : Option Addr) (n c : Nat) (B : Option Addr) (m d : Nat) (f : Bool) (ws : List Int) (ls : List Bool) (L : Option Addr) (nl kc : Nat) (al : List Acc) (w : World) (h : Mem w A n c B m d ws ls) (hL : Sm 4 encA (0, 0, 0, 0) w 0 w.heap.size L nl al) (hnl : nl ≤ 1000) (hg : MGood ws ls) :
    Calls Try.prog 44 #[mv A n c B m d f, .slice L nl kc] w (MRPost w (runMF (ws, ls, f) al)) := by
  obtain ⟨i0, hi0, hz00, hz01, hz02⟩ := info_parts info_got
  have hbx := below_then (below_box w (.cells (mcs A n c B m d f) 25)) (below_box _ (.cells (mcs none 0 0 none 0 0 false) 25))
  have HR := hid (h.step hbx)
  have PR := hid ((Blk.new w 25 (mcs A n c B m d f)).step (below_box _ (.cells (mcs none 0 0 none 0 0 false) 25)))
  have PZ := hid (Blk.new2 w 25 (mcs none 0 0 none 0 0 false) (.cells (mcs A n c B m d f) 25))
  have hc : mcheckC ws ls = 0 := if_pos hg
  have E := hid (show runMF (ws, ls, f) al = runG (ws, ls, f) [] al from if_pos hg)
  obtain ⟨k0, k1, k2, kf⟩ := PR.out.cells3
  have HB := hid hbx
  have HLs := hid hL
  clear h hL hg hbx
  go_enter Try.func44, Try.ntmps44
  go_wp2_with fail
  clear k0 k1 k2 kf
  refine (mcheck_any A n c B m d f ws ls _ HR.out).mono ?_
  rintro e w1 ⟨rfl, hb⟩
  rw [hc]
  replace PR := hid (PR.out.step hb); replace PZ := hid (PZ.out.step hb); replace HR := hid (HR.out.step hb)
  replace HB := hid (below_then HB.out hb)
  have hz1 : w.heap.size + 2 ≤ w1.heap.size := by have := hb.size; simpa using this
  obtain ⟨k0, k1, k2, kf⟩ := PR.out.cells3
  clear hb hc
  go_wp2_with fail
  clear k0 k1 k2 kf
  refine (mown_any A n c B m d f ws ls _ HR.out).mono ?_
  rintro e w2 ⟨ga, gb, rfl, ho, hb⟩
  replace PR := hid (PR.out.step hb); replace PZ := hid (PZ.out.step hb)
  replace HB := hid (below_then HB.out hb)
  have HO := hid (ho.mono (lo' := w.heap.size + 2) hz1)
  obtain ⟨k0, k1, k2, kf⟩ := PR.out.cells3
  clear hb ho HR
  go_wp2_with fail
  clear k0 k1 k2 kf
  go_loopw [24, 8] (fun i s8 wr => ∃ k : Nat, ∃ A1 n1 c1 B1 m1 d1, ∃ s : MSt, ∃ G ng cg gs, k ≤ nl ∧ i = .int .i64 k ∧ s8 = .slice G ng cg ∧ ng ≤ k ∧ runG (ws, ls, f) [] al = runG s gs (al.drop k) ∧ RunRel w wr A1 n1 c1 B1 m1 d1 s G ng cg gs) (fun i _ _ => nl - (intOf i).toNat)
  case atStart => exact ⟨0, _, _, _, _, _, _, (ws, ls, f), none, 0, 0, [], Nat.zero_le _, rfl, rfl, Nat.le_refl _, rfl, ⟨((HO.out.setCell (by simp) _).setCell (by simp) _).setCell (by simp) _, ((PR.out.setCell 0 _).setCell 1 _).setCell 2 _, ((PZ.out.far (by simp) _).far (by simp) _).far (by simp) _, Om.nil _ _ _, ((HB.out.setCell (by simp) _).setCell (by simp) _).setCell (by simp) _⟩⟩
  case round =>
    obtain ⟨k, A1, n1, c1, B1, m1, d1, ⟨ws1, ls1, f1⟩, G, ng, cg, gs, hk, rfl, rfl, hng, hrun, hr⟩ := hrel
    have HRr := hid hr
    clear HO PR PZ HB hz1
    by_cases hlt : k < nl
    · obtain ⟨b, off, rfl, _, hbB, hc⟩ := HLs.out.row (by omega)
      have g0 := (hr.be.cell (p := ⟨b, off + k * 4 + 0, none⟩) hbB).trans (hc k hlt 0 (by omega))
      have g1 := (hr.be.cell (p := ⟨b, off + k * 4 + 1, none⟩) hbB).trans (hc k hlt 1 (by omega))
      have g2 := (hr.be.cell (p := ⟨b, off + k * 4 + 2, none⟩) hbB).trans (hc k hlt 2 (by omega))
      have g3 := (hr.be.cell (p := ⟨b, off + k * 4 + 3, none⟩) hbB).trans (hc k hlt 3 (by omega))
      obtain ⟨⟨kind, at_, old, new⟩, hX⟩ : ∃ x, x = al[k]?.getD (0, 0, 0, 0) := ⟨_, rfl⟩
      rw [← hX] at g0 g1 g2 g3
      simp only [encA, Nat.add_zero] at g0 g1 g2 g3
      have hdrop : al.drop k = (kind, at_, old, new) :: al.drop (k + 1) := by
        have hl := HLs.out.len
        rw [List.drop_eq_getElem_cons (by omega), hX, List.getElem?_eq_getElem (by omega)]
        rfl
      obtain ⟨r, hR⟩ : ∃ r, r = accF (ws1, ls1, f1) (kind, at_, old, new) := ⟨_, rfl⟩
      have HRUN := hid (show runG (ws, ls, f) [] al = if r.1 = 0 then runG r.2.1 (gs ++ [r.2.2]) (al.drop (k + 1)) else (r.1, ([], [], false), []) by rw [hrun, hdrop, hR]; rfl)
      have HST := hid (mstep_any A1 n1 c1 B1 m1 d1 f1 kind at_ old new ws1 ls1 _ ((hr.om.step (below_box wr (.cells (acs kind at_ old new) 49))).mem))
      have HPM := hid (hr.pm.step (below_box wr (.cells (acs kind at_ old new) 49)))
      have HPZ := hid (hr.pz.step (below_box wr (.cells (acs kind at_ old new) 49)))
      have HOG := hid (hr.og.step (below_box wr (.cells (acs kind at_ old new) 49)))
      have HBE := hid (below_then hr.be (below_box wr (.cells (acs kind at_ old new) 49)))
      have hsz := hid (show w.heap.size + 2 ≤ wr.heap.size from hr.pz.lt)
      have PA := Blk.new wr 49 (acs kind at_ old new)
      obtain ⟨q0, q1, q2, q3, qf⟩ := PA.cells4
      obtain ⟨k0, k1, k2, kf⟩ := HPM.out.cells3
      rw [← hR] at HST
      clear hrun hX hdrop hc hr PA hR HLs
      go_wp2_with fail
      refine HST.out.mono ?_
      rintro e w5 ⟨A2, n2, c2, B2, m2, d2, rfl, ho, hb⟩
      obtain ⟨code, ⟨ws2, ls2, f2⟩, gx, gy⟩ := r
      dsimp only at ho HRUN ⊢
      clear g0 g1 g2 g3 q0 q1 q2 q3 qf k0 k1 k2 kf HST
      have hLT : Hid (∀ k, (Value.slice G ng cg).ownBlock = some k → k < wr.heap.size + 1) := hid (fun k hk => by have := HOG.out.lt k hk; simpa using this); have hGE := hid (HOG.out.row_ge)
      have hs5 := hid (show wr.heap.size + 1 ≤ w5.heap.size by have := hb.size; simpa using this)
      have hbb := below_then (below_box w5 (.cells (mcs A2 n2 c2 B2 m2 d2 f2) 25)) (below_box _ (.cells #[.int .u64 gx, .bool gy] 54))
      have hlo2 : wr.heap.size + 1 ≤ (wr.alloc (.cells (acs kind at_ old new) 49)).heap.size := by simp
      have HO := hid ((ho.step hbb).mono hlo2)
      have hb6 := below_then hb hbb
      replace HPM := hid (HPM.out.step hb6); replace HPZ := hid (HPZ.out.step hb6); replace HOG := hid (HOG.out.step hb6)
      replace HBE := hid (below_then HBE.out hb6)
      have B11 := hid ((Blk.new w5 25 (mcs A2 n2 c2 B2 m2 d2 f2)).step (below_box _ (.cells #[.int .u64 gx, .bool gy] 54)))
      have B12 := hid (Blk.new2 w5 54 #[.int .u64 gx, .bool gy] (.cells (mcs A2 n2 c2 B2 m2 d2 f2) 25))
      clear ho hb hbb hb6 hlo2 HRr
      have hz6 := hid (show ((w5.alloc (.cells (mcs A2 n2 c2 B2 m2 d2 f2) 25)).alloc (.cells #[.int .u64 gx, .bool gy] 54)).heap.size = w5.heap.size + 2 by simp)
      by_cases hc0 : code = 0
      · have HR0 := hid (HRUN.out.trans (if_pos hc0))
        subst hc0
        go_wp2_with fail
        generalize ((w5.alloc (.cells #[.slice A2 n2 c2, .slice B2 m2 d2, .bool f2] 25)).alloc (.cells #[.int .u64 gx, .bool gy] 54)) = W6 at *
        have HS : Hid (∀ W, Blk W w5.heap.size 25 (mcs A2 n2 c2 B2 m2 d2 f2) → Blk W (w5.heap.size + 1) 54 #[.int .u64 gx, .bool gy] → (W.cell? ⟨w5.heap.size, 0, none⟩ = some (.slice A2 n2 c2) ∧ W.cell? ⟨w5.heap.size, 1, none⟩ = some (.slice B2 m2 d2) ∧ W.cell? ⟨w5.heap.size, 2, none⟩ = some (.bool f2) ∧ W.cell? ⟨w5.heap.size + 1, 0, none⟩ = some (.int .u64 gx) ∧ W.cell? ⟨w5.heap.size + 1, 1, none⟩ = some (.bool gy))) :=
          hid (fun W h1 h2 => ⟨h1.cells3.1, h1.cells3.2.1, h1.cells3.2.2.1, h2.cells2.1, h2.cells2.2.1⟩)
        obtain ⟨p0, p1, p2, pf⟩ := HPM.out.cells3
        have pa0 := fun o => (HPM.out.alloc o).cells3.1; have pa1 := fun o => (HPM.out.alloc o).cells3.2.1; have pa2 := fun o => (HPM.out.alloc o).cells3.2.2.1; have paf := fun o => (HPM.out.alloc o).cells3.2.2.2
        have hs5' := hs5.out; have hsz' := hsz.out; have hz6' := hz6.out
        have HC2 : Hid (∀ j, j < 2 → (#[.int .u64 gx, .bool gy] : Array Value)[j]? = some (encG (gx, gy) j)) := hid (by intro j hj; match j, hj with | 0, _ => rfl | 1, _ => rfl)
        have HSM : Hid (Sm 2 encG (0, false) (W6.alloc (.cells #[.int .u64 gx, .bool gy] 54)).drew (w5.heap.size + 2) (w5.heap.size + 2 + 1) (some ⟨w5.heap.size + 2, 0, none⟩) 1 [(gx, gy)]) := hid (Sm.drew (Sm.one' (gx, gy) (by omega) HC2.out))
        go_region_held3 (fun w' => w'.cell? ⟨w5.heap.size, 0, none⟩ = some (.slice A2 n2 c2) ∧ w'.cell? ⟨w5.heap.size, 1, none⟩ = some (.slice B2 m2 d2) ∧ w'.cell? ⟨w5.heap.size, 2, none⟩ = some (.bool f2) ∧ w'.cell? ⟨w5.heap.size + 1, 0, none⟩ = some (.int .u64 gx) ∧ w'.cell? ⟨w5.heap.size + 1, 1, none⟩ = some (.bool gy))
          (first | (exact HS.out _ (by repeat (first | (with_reducible exact B11.out) | (with_reducible refine Blk.drew ?_) | (with_reducible refine Blk.alloc ?_ _) | (with_reducible refine Blk.far ?_ (by simp <;> omega) _) | (with_reducible refine Blk.grown ?_ hg' (fun he => by have h1 := hLT.out _ he.symm; have h2 := hGE.out _ he.symm; omega)))) (by repeat (first | (with_reducible exact B12.out) | (with_reducible refine Blk.drew ?_) | (with_reducible refine Blk.alloc ?_ _) | (with_reducible refine Blk.far ?_ (by simp <;> omega) _) | (with_reducible refine Blk.grown ?_ hg' (fun he => by have h1 := hLT.out _ he.symm; have h2 := hGE.out _ he.symm; omega))))) | (go_keep; done))
          (first
            | (go_split_ands; refine step_appm 2 encG (0, false) _ rfl _ _ 46 rfl (w.heap.size + 2) 54 i0 _ 16 Try.underlying46 hi0 hz00 hz01 hz02 rfl (by omega) G ng cg gs rfl ?_ (w5.heap.size + 2) (w5.heap.size + 2 + 1) _ 1 _ [(gx, gy)] rfl ?_ encG_one (by simp only [maxLen]; omega) (by omega) (by simp <;> omega) ?_; (focus (repeat (first | (with_reducible exact HOG.out) | (with_reducible refine Om.drew ?_) | (with_reducible refine Om.alloc ?_ _) | (with_reducible refine Om.setCell ?_ (by simp <;> omega) _)))); exact HSM.out; intro G' cg' w7 og' hg' hat'; (try (obtain ⟨t0, t1, t2, tf⟩ := (show Blk w7 w.heap.size 25 (mcs A1 n1 c1 B1 m1 d1 f1) from (by repeat (first | (with_reducible exact HPM.out) | (with_reducible refine Blk.drew ?_) | (with_reducible refine Blk.alloc ?_ _) | (with_reducible refine Blk.far ?_ (by simp <;> omega) _) | (with_reducible refine Blk.grown ?_ hg' (fun he => by have h1 := hLT.out _ he.symm; have h2 := hGE.out _ he.symm; omega))))).cells3))))
        go_wp2
        go_roundw
        case rel =>
          have e1 := (show Blk w7 w.heap.size 25 (mcs A1 n1 c1 B1 m1 d1 f1) from (by repeat (first | (with_reducible exact HPM.out) | (with_reducible refine Blk.drew ?_) | (with_reducible refine Blk.alloc ?_ _) | (with_reducible refine Blk.far ?_ (by simp <;> omega) _) | (with_reducible refine Blk.grown ?_ hg' (fun he => by have h1 := hLT.out _ he.symm; have h2 := hGE.out _ he.symm; omega)))))
          have e2 := (show Blk w7 (w.heap.size + 1) 25 (mcs none 0 0 none 0 0 false) from (by repeat (first | (with_reducible exact HPZ.out) | (with_reducible refine Blk.drew ?_) | (with_reducible refine Blk.alloc ?_ _) | (with_reducible refine Blk.far ?_ (by simp <;> omega) _) | (with_reducible refine Blk.grown ?_ hg' (fun he => by have h1 := hLT.out _ he.symm; have h2 := hGE.out _ he.symm; omega)))))
          have e3 := (((HO.out.alloc _).drew.grownlo hg' hLT.out).mono (lo' := w.heap.size + 2) (by omega))
          have e4 := (((HBE.out.alloc (by omega) _).drew).grown hg' (by simp; omega) (fun k hk => by have := hGE.out k hk; omega))
          exact ⟨k + 1, A2, n2, c2, B2, m2, d2, (ws2, ls2, f2), G', ng + 1, cg', gs ++ [(gx, gy)], by omega, by go_num, rfl, by omega, HR0.out,
            ⟨((e3.setCell (by simp) _).setCell (by simp) _).setCell (by simp) _, ((e1.setCell 0 _).setCell 1 _).setCell 2 _, ((e2.far (by simp) _).far (by simp) _).far (by simp) _, ((og'.setCell (by simp) _).setCell (by simp) _).setCell (by simp) _, ((e4.setCell (by simp) _).setCell (by simp) _).setCell (by simp) _⟩⟩
        case measure => simp [intOf]; omega
      · have HR1 := hid (HRUN.out.trans (if_neg hc0))
        have hc1 : (code != 0) = true := by simpa using hc0
        have HPZ' := HPZ
        obtain ⟨q0, q1, q2, qf⟩ := HPZ.out.cells3
        clear hc0
        go_wp2
        have q := ((HPZ'.out.setCell 0 (.slice none 0 0)).setCell 1 (.slice none 0 0)).setCell 2 (.bool false)
        obtain ⟨q0, q1, q2, qf⟩ := q.cells3
        refine bodyPost_ret (v := .tuple #[mnil, .slice none 0 0, .int .i64 code]) (by simp [results, Try.results44, go_sem, q0, q1, q2]) rfl ?_
        rw [E.out, HR1.out]
        exact ⟨none, 0, 0, none, 0, 0, none, 0, 0, rfl, Mown.none _ _, Om.nil _ _ _, ((HBE.out.setCell (by simp) _).setCell (by simp) _).setCell (by simp) _⟩
    · obtain rfl : k = nl := by omega
      have HE := hid (show runG (ws, ls, f) [] al = (0, (ws1, ls1, f1), gs) by rw [hrun, List.drop_of_length_le (by rw [HLs.out.len]; exact Nat.le_refl _)]; rfl)
      obtain ⟨k0, k1, k2, kf⟩ := hr.pm.cells3
      obtain ⟨q0, q1, q2, qf⟩ := hr.pz.cells3
      clear hrun hr
      go_wp2
      have q := ((HRr.out.pz.setCell 0 (.slice A1 n1 c1)).setCell 1 (.slice B1 m1 d1)).setCell 2 (.bool f1)
      obtain ⟨q0, q1, q2, qf⟩ := q.cells3
      refine bodyPost_ret (v := .tuple #[mv A1 n1 c1 B1 m1 d1 f1, .slice G ng cg, .int .i64 0]) (by simp [results, Try.results44, go_sem, q0, q1, q2]) rfl ?_
      rw [E.out, HE.out]
      exact ⟨A1, n1, c1, B1, m1, d1, G, ng, cg, rfl, (((HRr.out.om.setCell (by simp) _).setCell (by simp) _).setCell (by simp) _).mono (by omega), (((HRr.out.og.setCell (by simp) _).setCell (by simp) _).setCell (by simp) _).mono (by omega), ((HRr.out.be.setCell (by simp) _).setCell (by simp) _).setCell (by simp) _⟩
end Go.Proofs.Ytaeanmkbongfcaa
