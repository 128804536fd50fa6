/- afterglowref05: Play. No condition but sizes. -/
import Derived.Test.YtaeanmkbongfcaaSp15
namespace Go.Proofs.Ytaeanmkbongfcaa
open Go.RowKit
theorem pstepF_ref (m : MSt) (l : List Spn) (i : Nat) (hi : i < l.length) : pstepF m l i = ((rspStep m (spUp (l[i]?.getD (0, 0, 0)))).1, l.set i (rspStep m (spUp (l[i]?.getD (0, 0, 0)))).2) := by
  unfold pstepF rspStep
  split
  · rfl
  · rename_i h
    obtain ⟨⟨a, p, t⟩, hx⟩ : ∃ s, s = l[i]?.getD (0, 0, 0) := ⟨_, rfl⟩
    rw [← hx] at h ⊢
    have hp : spUp (a, p, t) = (a, p, t) := by
      unfold spUp at h ⊢
      dsimp only at h ⊢
      by_cases h3 : p = 3
      · rw [if_pos h3] at h; exact absurd (show spHas 4 by decide) h
      · rw [if_neg h3]
    rw [hp]
    have : l.set i (a, p, t) = l := by
      rw [hx, List.getElem?_eq_getElem hi]
      exact List.set_getElem_self hi
    rw [this]
theorem whoS_ref (m : MSt) (l : List Spn) (i : Nat) (hi : i < l.length) : (if 0 ≤ whoS m l (i : Int) then [whoS m l (i : Int)] else []) = if (rspStep m (spUp (l[i]?.getD (0, 0, 0)))).2.2.1 = 3 then [(i : Int)] else [] := by
  have h1 : ((pstepF m l i).2[i]?.getD (0, 0, 0)) = (rspStep m (spUp (l[i]?.getD (0, 0, 0)))).2 := by
    rw [pstepF_ref m l i hi]
    simp [hi]
  have h2 : (l[i]?.getD (0, 0, 0)).2.1 = 3 → (rspStep m (spUp (l[i]?.getD (0, 0, 0)))).2.2.1 ≠ 3 := by
    intro h3
    obtain ⟨⟨a, p, t⟩, hx⟩ : ∃ s, s = l[i]?.getD (0, 0, 0) := ⟨_, rfl⟩
    rw [← hx] at h3 ⊢
    dsimp only at h3
    subst h3
    have hu : spUp (a, 3, t) = (a, 4, t) := rfl
    rw [hu, rspStep, if_pos (show spHas 4 by decide)]
    generalize (stepM m (spNeed (a, 4, t))).2 = r
    obtain ⟨x, y⟩ := r
    cases y <;> simp [spTake]
  have hw : whoS m l (i : Int) = if (l[i]?.getD (0, 0, 0)).2.1 ≠ 3 ∧ (rspStep m (spUp (l[i]?.getD (0, 0, 0)))).2.2.1 = 3 then (i : Int) else -1 := by
    unfold whoS
    rw [show ((i : Int)).toNat = i from rfl, h1]
  by_cases h3 : (rspStep m (spUp (l[i]?.getD (0, 0, 0)))).2.2.1 = 3
  · have hv : whoS m l (i : Int) = (i : Int) := by rw [hw]; exact if_pos ⟨fun h => h2 h h3, h3⟩
    rw [hv, if_pos h3, if_pos (by omega)]
  · have hv : whoS m l (i : Int) = -1 := by rw [hw]; exact if_neg (fun h => h3 h.2)
    rw [hv, if_neg h3, if_neg (by omega)]
def RPlPost (w : World) (n nl : Nat) (r : MSt × List Spn × List Int) (e : Ending) (w' : World) : Prop :=
  ∃ A c B d L cl G ng cg, e = .returned (.tuple #[mv A n c B n d r.1.2.2, .slice L nl cl, .slice G ng cg]) ∧ Mem w' A n c B n d r.1.1 r.1.2.1 ∧ Om 3 encS w' w.heap.size 38 L nl cl r.2.1 ∧ Ow i64 w' w.heap.size 3 G ng cg r.2.2 ∧ Below w.heap.size w w'
/-- what the rounds of the reference's Play keep -/
structure RpI (w W0 : World) (n g nl cr : Nat) (W : World) (A : Option Addr) (c : Nat) (B : Option Addr) (d : Nat) (m : MSt) (l : List Spn) (G : Option Addr) (ng cg : Nat) (hs : List Int) : Prop where
  pm : Blk W w.heap.size 25 (mcs A n c B n d m.2.2)
  pz : Blk W (w.heap.size + 1) 25 (mcs none 0 0 none 0 0 false)
  mem : Mem W A n c B n d m.1 m.2.1
  row : Om 3 encS W w.heap.size 38 (some ⟨g, 0, none⟩) nl cr l
  held : Ow i64 W W0.heap.size 3 G ng cg hs
  f0 : FarM n A B w.heap.size
  f1 : FarM n A B (w.heap.size + 1)
  f2 : FarM n A B g
  f3 : ∀ a, G = some a → FarM n A B a.block
  be : Below w.heap.size w W
  size : W0.heap.size ≤ W.heap.size
section
variable {w W0 : World} {n g nl cr : Nat} {W W' : World} {A : Option Addr} {c : Nat} {B : Option Addr} {d : Nat} {m : MSt} {l : List Spn} {G : Option Addr} {ng cg : Nat} {hs : List Int}
theorem RpI.step (h : RpI w W0 n g nl cr W A c B d m l G ng cg hs) (hb : Below W.heap.size W W') : RpI w W0 n g nl cr W' A c B d m l G ng cg hs :=
  ⟨h.pm.step hb, h.pz.step hb, h.mem.step hb, h.row.step hb, h.held.step hb, h.f0, h.f1, h.f2, h.f3, below_then h.be hb, Nat.le_trans h.size hb.size⟩
/-- the memory, and one who wants a lock, are stored -/
theorem RpI.store {W4 : World} (h4 : RpI w W0 n g nl cr W4 A c B d m l G ng cg hs) (hb : Below W4.heap.size W4 W) {A2 : Option Addr} {c2 : Nat} {B2 : Option Addr} {d2 : Nat} {m2 : MSt} {i : Nat} {s : Spn} (hi : i < nl) (hm : Mem W A2 n c2 B2 n d2 m2.1 m2.2.1) (tr : ∀ g, g < W4.heap.size → FarM n A B g → FarM n A2 B2 g) :
    RpI w W0 n g nl cr ((((((W.setCell ⟨w.heap.size, 0, none⟩ (.slice A2 n c2)).setCell ⟨w.heap.size, 1, none⟩ (.slice B2 n d2)).setCell ⟨w.heap.size, 2, none⟩ (.bool m2.2.2)).setCell ⟨g, i * 3, none⟩ (encS s 0)).setCell ⟨g, i * 3 + 1, none⟩ (encS s 1)).setCell ⟨g, i * 3 + 2, none⟩ (encS s 2)) A2 c2 B2 d2 m2 (l.set i s) G ng cg hs := by
  have h := h4.step hb
  obtain ⟨hg1, cs, hgb⟩ := h.row.blk _ rfl
  obtain ⟨_, cs4, hgb4⟩ := h4.row.blk _ rfl
  dsimp only at hg1 hgb hgb4
  have hne : g ≠ w.heap.size := h.row.ne_blk h.pm (by decide) _ rfl
  have hnz : g ≠ w.heap.size + 1 := h.row.ne_blk h.pz (by decide) _ rfl
  have F0 := tr _ h4.pm.lt h4.f0; have F1 := tr _ h4.pz.lt h4.f1; have F2 := tr _ hgb4.lt h4.f2
  have hpl := h.pm.lt
  refine ⟨?_, ?_, ?_, ?_, ?_, F0, F1, F2, fun a ha => tr _ (by obtain ⟨_, cs', hb'⟩ := h4.held.blk a ha; exact hb'.lt) (h4.f3 a ha), ?_, by simpa using h.size⟩
  · exact (((((h.pm.setCell 0 _).setCell 1 _).setCell 2 _).far (p := ⟨g, i * 3, none⟩) (Ne.symm hne) _).far (p := ⟨g, i * 3 + 1, none⟩) (Ne.symm hne) _).far (p := ⟨g, i * 3 + 2, none⟩) (Ne.symm hne) _
  · exact (((((h.pz.far (p := ⟨w.heap.size, 0, none⟩) (by simp) _).far (p := ⟨w.heap.size, 1, none⟩) (by simp) _).far (p := ⟨w.heap.size, 2, none⟩) (by simp) _).far (p := ⟨g, i * 3, none⟩) (Ne.symm hnz) _).far (p := ⟨g, i * 3 + 1, none⟩) (Ne.symm hnz) _).far (p := ⟨g, i * 3 + 2, none⟩) (Ne.symm hnz) _
  · exact (((((hm.setFar F0 0 _).setFar F0 1 _).setFar F0 2 _).setFar F2 _ _).setFar F2 _ _).setFar F2 _ _
  · refine Om.stored3 ?_ i s hi
    exact ((h.row.farB (p := ⟨w.heap.size, 0, none⟩) (fun a ha => by cases ha; exact hne) _).farB (p := ⟨w.heap.size, 1, none⟩) (fun a ha => by cases ha; exact hne) _).farB (p := ⟨w.heap.size, 2, none⟩) (fun a ha => by cases ha; exact hne) _
  · have e1 : ∀ a, G = some a → a.block ≠ w.heap.size := h.held.ne_blk h.pm (by decide)
    have e2 : ∀ a, G = some a → a.block ≠ g := h.held.ne_blk hgb (by decide)
    exact (((((h.held.farB (p := ⟨w.heap.size, 0, none⟩) e1 _).farB (p := ⟨w.heap.size, 1, none⟩) e1 _).farB (p := ⟨w.heap.size, 2, none⟩) e1 _).farB (p := ⟨g, i * 3, none⟩) e2 _).farB (p := ⟨g, i * 3 + 1, none⟩) e2 _).farB (p := ⟨g, i * 3 + 2, none⟩) e2 _
  · exact (((((h.be.setCell (Nat.le_refl _) _).setCell (Nat.le_refl _) _).setCell (Nat.le_refl _) _).setCell hg1 _).setCell hg1 _).setCell hg1 _
/-- one more who came to hold a lock -/
theorem RpI.app (h : RpI w W0 n g nl cr W A c B d m l G ng cg hs) (hz : w.heap.size + 1 < W0.heap.size) (hg0 : g < W0.heap.size) (hg : W.grownBy W' (Value.slice G ng cg).ownBlock) {G' : Option Addr} {ng' cg' : Nat} {hs' : List Int} (ho : Ow i64 W' W0.heap.size 3 G' ng' cg' hs') (hat : (Value.slice G' ng' cg').ownBlock = (Value.slice G ng cg).ownBlock ∨ (Value.slice G' ng' cg').ownBlock = some W.heap.size) :
    RpI w W0 n g nl cr W' A c B d m l G' ng' cg' hs' := by
  have hr : ∀ r, (Value.slice G ng cg).ownBlock = some r → W0.heap.size ≤ r ∧ FarM n A B r := fun r hr => by
    refine ⟨h.held.row_ge r hr, ?_⟩
    cases hG : G with
    | none => rw [hG] at hr; cases hr
    | some a => rw [hG] at hr; simp only [Value.ownBlock, Option.some.injEq] at hr; rw [← hr]; exact h.f3 a hG
  have hm : Mem W' A n c B n d m.1 m.2.1 := by
    cases hq : (Value.slice G ng cg).ownBlock with
    | none => rw [hq] at hg; exact h.mem.step (below_of_grown hg)
    | some r => rw [hq] at hg; exact mem_kept h.mem (hr r hq).2 hg
  refine ⟨h.pm.grown hg (fun e => by have := (hr _ e.symm).1; omega), h.pz.grown hg (fun e => by have := (hr _ e.symm).1; omega), hm, h.row.keptG hg (fun a ha e => by cases ha; have := (hr _ e.symm).1; dsimp only at this; omega), ho, h.f0, h.f1, h.f2, fun a ha => ?_, h.be.grown hg h.be.size (fun r e => by have := (hr r e).1; omega), Nat.le_trans h.size hg.size⟩
  subst ha
  rcases hat with e | e
  · exact (hr a.block e.symm).2
  · have : a.block = W.heap.size := by simpa [Value.ownBlock] using e
    rw [this]
    exact h.mem.far (Nat.le_refl _)
end
theorem Om.some_ {α : Type} {sz : Nat} {enc : α → Nat → Value} {w : World} {lo : Nat} {e : TypeId} {A : Option Addr} {n c : Nat} {xs : List α} (h : Om sz enc w lo e A n c xs) {r : Nat} (hr : (Value.slice A n c).ownBlock = some r) : A = some ⟨r, 0, none⟩ := by
  rcases h.own.2 with ⟨hv, h0⟩ | ⟨g, cap, cur, hv, _⟩
  · simp only [Value.slice.injEq] at hv; obtain ⟨rfl, _⟩ := hv; cases hr
  · simp only [Value.slice.injEq] at hv; obtain ⟨rfl, _⟩ := hv; simp only [Value.ownBlock, Option.some.injEq] at hr; rw [← hr]
set_option maxRecDepth 100000 in
set_option maxHeartbeats 8000000 in
theorem rspplay_any (A : Option Addr) (n c : Nat) (B : Option Addr) (k d : Nat) (f : Bool) (ws : List Int) (ls : List Bool) (L : Option Addr) (nl cl : Nat) (l : List Spn) (Q : Option Addr) (nq cq : Nat) (picks : List Int) (w : World) (h : Mem w A n c B k d ws ls) (hnk : k = n) (hl : Sm 3 encS (0, 0, 0) w 0 w.heap.size L nl l) (hnl : nl ≤ 1000000) (hq : Sl i64 0 w 0 w.heap.size Q nq picks) (hnq : nq ≤ 1000000) :
    Calls Try.prog 15 #[mv A n c B k d f, .slice L nl cl, .slice Q nq cq] w (RPlPost w n nl ((playS (ws, ls, f) l (vpk nl picks)).1, (playS (ws, ls, f) l (vpk nl picks)).2, heldF (ws, ls, f) l (vpk nl picks))) := by
  subst hnk
  have HM := hid h; have HL := hid hl; have HQ0 := hid hq; have HB := hid (Below.refl w.heap.size w)
  have HF := hid (show ∀ g, w.heap.size ≤ g → FarM k A B g from fun g hg => h.far hg)
  have hll := hid hl.len; have hql := hid hq.len
  obtain ⟨i0, hi0, hz00, hz01, hz02⟩ := info_parts info_spn
  obtain ⟨i1, hi1, hz10, hz11, hz12⟩ := info_parts info_int
  have HI1 := hid hi1; have HZ10 := hid hz10; have HZ11 := hid hz11; have HZ12 := hid hz12
  clear h hl hq hi1 hz10 hz11 hz12
  have bx := below_box w (.cells (mcs A k c B k d f) 25)
  replace HM := hid (HM.out.step bx); replace HL := hid (HL.out.step bx); replace HB := hid (below_then HB.out bx)
  clear bx
  have PM := hid (Blk.new w 25 (mcs A k c B k d f))
  have bx := below_box (w.alloc (.cells (mcs A k c B k d f) 25)) (.cells (mcs none 0 0 none 0 0 false) 25)
  replace HM := hid (HM.out.step bx); replace HL := hid (HL.out.step bx); replace PM := hid (PM.out.step bx); replace HB := hid (below_then HB.out bx)
  clear bx
  have PZ := hid (Blk.new2 w 25 (mcs none 0 0 none 0 0 false) (.cells (mcs A k c B k d f) 25))
  go_enter Try.func15, Try.ntmps15
  go_upto_region 1 with fail
  have hz1 := hid (show ((w.alloc (.cells (mcs A k c B k d f) 25)).alloc (.cells (mcs none 0 0 none 0 0 false) 25)).heap.size = w.heap.size + 2 by simp)
  generalize (w.alloc (.cells (mcs A k c B k d f) 25)).alloc (.cells (mcs none 0 0 none 0 0 false) 25) = W1 at *
  go_wp2_with (at_builtin; refine wpList_appm 3 encS (0, 0, 0) _ rfl _ _ 26 rfl W1.heap.size 38 i0 _ 24 Try.underlying26 hi0 hz00 hz01 hz02 rfl (by omega) _ _ _ [] rfl (Om.empty W1 _ _ (Nat.le_refl _)) 0 W1.heap.size L nl cl l rfl (HL.out.alloc (Nat.le_refl _) _) encS_one (by simp only [maxLen]; omega) (by omega) (by simp) ?_; intro A1 c1 w2 hown1 hg1 hat1; have HAT := hid hat1; simp only [Nat.zero_add, List.nil_append] at hown1 HAT; have HOW := hid hown1; have HGR := hid hg1; clear hown1 hg1 hat1)
  obtain ⟨g, rfl⟩ : ∃ g, A1 = some ⟨g, 0, none⟩ := by
    rcases HAT.out with e | e
    · exact ⟨_, HOW.out.some_ (e.trans rfl)⟩
    · exact ⟨_, HOW.out.some_ e⟩
  have hb := ((Below.refl _ W1).alloc (Nat.le_refl _) (.cells #[] 38)).grown HGR.out (by simp) (fun k hk => by simp [Value.ownBlock] at hk; omega)
  replace HM := hid (HM.out.step hb); replace HL := hid (HL.out.step hb); replace PM := hid (PM.out.step hb); replace PZ := hid (PZ.out.step hb); replace HB := hid (below_then HB.out hb)
  clear hb hi0 hz00 hz01 hz02 HGR HAT
  have hgl := hid (show W1.heap.size ≤ g from (HOW.out.blk _ rfl).1)
  have hgu := hid (show g < w2.heap.size from (HOW.out.blk _ rfl).2.choose_spec.lt)
  have hpz := hid PZ.out.lt
  have T0 := hid (show RpI w w2 k g nl c1 w2 A c B d (ws, ls, f) l none 0 0 [] from ⟨PM.out, PZ.out, HM.out, HOW.out.mono (by have := hz1.out; omega), Ow.nil _ _ _, HF.out _ (Nat.le_refl _), HF.out _ (by omega), HF.out _ (by have := hgl.out; have := hz1.out; omega), (fun a ha => by cases ha), HB.out, Nat.le_refl _⟩)
  clear PM PZ HM HOW HB HL HF
  go_loopw [10, 12, 19] (fun s10 _ i wr => ∃ (j ng cg c' d' : Nat) (A' B' G : Option Addr), j ≤ nq ∧ i = .int .i64 j ∧ s10 = .slice G ng cg ∧ ng ≤ j ∧ RpI w w2 k g nl c1 wr A' c' B' d' (playS (ws, ls, f) l (vpk nl (picks.take j))).1 (playS (ws, ls, f) l (vpk nl (picks.take j))).2 G ng cg (heldF (ws, ls, f) l (vpk nl (picks.take j)))) (fun _ _ i _ => nq - (intOf i).toNat)
  case atStart => exact ⟨0, 0, 0, c, d, A, B, none, Nat.zero_le _, rfl, rfl, Nat.le_refl _, T0.out⟩
  case round =>
    clear T0
    obtain ⟨j, ng, cg, c', d', A', B', G, hj, rfl, rfl, hng, hT⟩ := hrel
    have HT := hid hT
    obtain ⟨⟨⟨ws1, ls1, f1⟩, l1⟩, hst⟩ : ∃ s, s = playS (ws, ls, f) l (vpk nl (picks.take j)) := ⟨_, rfl⟩
    obtain ⟨hs1, hhs⟩ : ∃ s, s = heldF (ws, ls, f) l (vpk nl (picks.take j)) := ⟨_, rfl⟩
    rw [← hst, ← hhs] at HT
    dsimp only at HT
    have HST := hid hst; have HHS := hid hhs
    clear hT hst hhs
    have hl1 := hid HT.out.row.len
    have HQ := hid (HQ0.out.below HT.out.be (Nat.le_refl _))
    by_cases hjq : j < nq
    · obtain ⟨b, off, rfl, _, _, hc⟩ := HQ.out.row (by omega)
      have f0 := hc j hjq
      obtain ⟨i, hi⟩ : ∃ i, i = picks[j]?.getD 0 := ⟨_, rfl⟩
      have hts := vpk_take_succ (n := nl) (r := picks) (j := j) (by rw [hql.out]; exact hjq)
      rw [← hi] at f0 hts
      have HTS := hid hts
      clear hc hi hts HQ
      have hjn : (j : Int) < (nq : Int) := by omega
      by_cases hi0 : i < 0
      · have d0 : decide (i < 0) = true := decide_eq_true hi0
        have HTS2 := hid (show vpk nl (picks.take (j + 1)) = vpk nl (picks.take j) by rw [HTS.out, if_neg (by omega)])
        go_wp2_with fail
        go_roundw
        case rel => exact ⟨j + 1, ng, cg, c', d', A', B', G, by omega, by go_num, rfl, by omega, by rw [HTS2.out, ← HST.out, ← HHS.out]; exact HT.out⟩
        case measure => simp [intOf]; omega
      have d0 : decide (i < 0) = false := decide_eq_false hi0
      by_cases hil : (nl : Int) ≤ i
      · have d1 : decide ((nl : Int) ≤ i) = true := decide_eq_true hil
        have HTS2 := hid (show vpk nl (picks.take (j + 1)) = vpk nl (picks.take j) by rw [HTS.out, if_neg (by omega)])
        go_wp2_with fail
        go_roundw
        case rel => exact ⟨j + 1, ng, cg, c', d', A', B', G, by omega, by go_num, rfl, by omega, by rw [HTS2.out, ← HST.out, ← HHS.out]; exact HT.out⟩
        case measure => simp [intOf]; omega
      have d1 : decide ((nl : Int) ≤ i) = false := decide_eq_false hil
      obtain ⟨i, rfl⟩ := Int.eq_ofNat_of_zero_le (by omega : 0 ≤ i)
      have hinl : i < nl := by omega
      have hii : (i : Int) < (nl : Int) := by omega
      have hTS2 : vpk nl (picks.take (j + 1)) = vpk nl (picks.take j) ++ [(i : Int)] := by rw [HTS.out, if_pos ⟨by omega, by omega⟩]
      have HTS2 := hid hTS2
      obtain ⟨⟨sa, sp, st⟩, hsx⟩ : ∃ s, s = l1[i]?.getD (0, 0, 0) := ⟨_, rfl⟩
      obtain ⟨g', hgq, _, _, hc, hfz⟩ := HT.out.row.at_ (0, 0, 0) hinl
      obtain rfl : g = g' := by simpa using hgq
      have x0 := hc 0 (by omega); have x1 := hc 1 (by omega); have x2 := hc 2 (by omega)
      rw [← hsx] at x0 x1 x2
      rw [Nat.add_zero] at x0
      simp only [encS] at x0 x1 x2
      have HSX := hid hsx
      clear hgq hc hsx hTS2 HTS
      go_upto_region 8 with fail
      clear x0 x1 x2 hfz f0
      have HT0 := HT; have hBW3 := hid (below_box wr (.cells (scs sa sp st) 38))
      have bx := below_box wr (.cells (scs sa sp st) 38)
      replace HT := hid (HT.out.step bx)
      clear bx
      have PS := hid (Blk.new wr 38 (scs sa sp st))
      have XT := HT0
      have hz3 := hid (show (wr.alloc (.cells (scs sa sp st) 38)).heap.size = wr.heap.size + 1 by simp)
      generalize wr.alloc (.cells (scs sa sp st) 38) = W3 at *
      obtain ⟨p2, hp2⟩ : ∃ p2, p2 = if sp = 3 then (4 : Int) else sp := ⟨_, rfl⟩
      have HU := hid (show spUp (sa, sp, st) = (sa, p2, st) by unfold spUp; rw [hp2]; split <;> rfl)
      have HPP := hid hp2
      clear hp2
      obtain ⟨y00, y01, y02, yf0⟩ := PS.out.cells3
      go_upto_if 37 with fail
      clear y00 y01 y02 yf0
      go_cut [] (fun wx => Blk wx wr.heap.size 38 (scs sa p2 st) ∧ Below wr.heap.size W3 wx)
      case first =>
        by_cases h3 : sp = 3
        · obtain rfl : p2 = 4 := by rw [HPP.out, if_pos h3]
          subst h3
          obtain ⟨y00, y01, y02, yf0⟩ := PS.out.cells3
          go_wp2
          go_meet
          exact ⟨PS.out.setCell 1 (.int .i64 4), (Below.refl wr.heap.size W3).setCell (p := ⟨wr.heap.size, 1, none⟩) (Nat.le_refl _) _⟩
        · have h3b : (sp == 3) = false := by simpa using h3
          obtain rfl : p2 = sp := by rw [HPP.out, if_neg h3]
          obtain ⟨y00, y01, y02, yf0⟩ := PS.out.cells3
          go_wp2
          go_meet
          exact ⟨PS.out, Below.refl _ _⟩
      case rest =>
        rename World => W4
        obtain ⟨ps, hb4⟩ := hcut
        have hb := (below_box wr (.cells (scs sa sp st) 38))
        have hb := hBW3.out.trans hb4
        have HT := hid (XT.out.step hb)
        have PS := hid ps
        clear ps hb4 hb
        obtain ⟨pm0, pm1, pm2, pmf⟩ := HT.out.pm.cells3
        obtain ⟨y00, y01, y02, yf0⟩ := PS.out.cells3
        go_wp2_with fail
        clear pm0 pm1 pm2 pmf y00 y01 y02 yf0
        refine (rspstep_any A' k c' B' k d' f1 ws1 ls1 sa p2 st W4 HT.out.mem rfl).mono ?_
        rintro e w5 ⟨A5, c5, B5, d5, rfl, hm5, hb, htr⟩
        obtain ⟨⟨⟨ws5, ls5, f5⟩, ⟨ta, tp, tt⟩⟩, hrs⟩ : ∃ r, r = rspStep (ws1, ls1, f1) (sa, p2, st) := ⟨_, rfl⟩
        rw [← hrs] at hm5 ⊢
        dsimp only at hm5 ⊢
        have HRS := hid hrs
        have HT5 := hid (HT.out.store hb (i := i) (s := (ta, tp, tt)) (m2 := (ws5, ls5, f5)) hinl hm5 htr)
        clear hrs
        have XPS := PS
        have P5 := hid ((HT.out.step hb).pm)
        obtain ⟨pm0, pm1, pm2, pmf⟩ := P5.out.cells3
        obtain ⟨g', hgq, _, _, hc, hfz⟩ := (HT.out.step hb).row.at_ (0, 0, 0) hinl
        obtain rfl : g = g' := by simpa using hgq
        obtain ⟨⟨o0, o1, o2⟩, ho⟩ : ∃ x, x = l1[i]?.getD (0, 0, 0) := ⟨_, rfl⟩
        have x0 := hc 0 (by omega); have x1 := hc 1 (by omega); have x2 := hc 2 (by omega)
        rw [← ho] at x0 x1 x2
        rw [Nat.add_zero] at x0
        simp only [encS] at x0 x1 x2
        have ne1 : ¬ g = w.heap.size := by
          intro e
          exact HT.out.row.ne_blk HT.out.pm (by decide) _ rfl e
        have ne2 : ¬ w.heap.size = g := fun e => ne1 e.symm
        clear hgq hc ho P5 hb hm5 htr
        go_upto_region 11 with fail
        clear pm0 pm1 pm2 pmf x0 x1 x2 hfz ne1 ne2
        simp only [encS] at HT5
        generalize (((((w5.setCell ⟨w.heap.size, 0, none⟩ (.slice A5 k c5)).setCell ⟨w.heap.size, 1, none⟩ (.slice B5 k d5)).setCell ⟨w.heap.size, 2, none⟩ (.bool f5)).setCell ⟨g, i * 3, none⟩ (.int .i64 ta)).setCell ⟨g, i * 3 + 1, none⟩ (.int .i64 tp)).setCell ⟨g, i * 3 + 2, none⟩ (.int .u64 tt) = W6 at *
        clear HT PS XPS
        have hl5 := hid HT5.out.row.len
        obtain ⟨g', hgq, _, _, hc, hfz⟩ := HT5.out.row.at_ (0, 0, 0) hinl
        obtain rfl : g = g' := by simpa using hgq
        have x1 := hc 1 (by omega)
        have hgt : (l1.set i (ta, tp, tt))[i]?.getD (0, 0, 0) = (ta, tp, tt) := by rw [List.getElem?_set_self (by rw [hl1.out]; exact hinl)]; rfl
        rw [hgt] at x1
        simp only [encS] at x1
        have HRF := hid (show playS (ws, ls, f) l (vpk nl (picks.take (j + 1))) = ((ws5, ls5, f5), l1.set i (ta, tp, tt)) by
          rw [HTS2.out, playS_snoc, ← HST.out]
          show pstepF (ws1, ls1, f1) l1 i = _
          rw [pstepF_ref _ _ _ (by rw [hl1.out]; exact hinl), ← HSX.out, HU.out, ← HRS.out])
        have HHF := hid (show heldF (ws, ls, f) l (vpk nl (picks.take (j + 1))) = hs1 ++ (if tp = 3 then [(i : Int)] else []) by
          rw [HTS2.out, heldF_snoc, ← HST.out, ← HHS.out]
          show hs1 ++ (if 0 ≤ whoS (ws1, ls1, f1) l1 (i : Int) then [whoS (ws1, ls1, f1) l1 (i : Int)] else []) = _
          rw [whoS_ref _ _ _ (by rw [hl1.out]; exact hinl), ← HSX.out, HU.out, ← HRS.out])
        clear hgq hc hgt
        by_cases h3 : tp = 3
        · have d3 : (tp == 3) = true := by simpa using h3
          have hi1 := HI1.out; have hz10 := HZ10.out; have hz11 := HZ11.out; have hz12 := HZ12.out
          have HTP := hid h3
          clear h3
          go_wp2_with (at_builtin; refine wpList_app i64 0 _ rfl _ _ 27 rfl w2.heap.size 3 i1 _ 8 Try.underlying27 hi1 hz10 hz11 hz12 rfl G ng cg hs1 rfl ((HT5.out.step (below_box _ _)).held) W6.heap.size (W6.heap.size + 1) _ 1 _ [(i : Int)] rfl (Sl.one' (by simp)) (fun _ => rfl) (by simp only [maxLen]; omega) (by omega) (by have := HT5.out.size; simp; omega) ?_; intro G' cg' w7 og' hg' hat'; have HT7 := hid ((HT5.out.step (below_box W6 (.cells #[.int .i64 i] 3))).app (by have := hpz.out; omega) hgu.out hg' og' hat'); clear og' hg' hat')
          clear hi1 hz10 hz11 hz12 x1 hfz
          go_roundw
          case rel => exact ⟨j + 1, ng + 1, cg', c5, d5, A5, B5, G', by omega, by go_num, rfl, by omega, by rw [HRF.out, HHF.out, if_pos HTP.out]; exact HT7.out⟩
          case measure => simp [intOf]; omega
        · have d3 : (tp == 3) = false := by simpa using h3
          have HTP := hid h3
          clear h3
          go_wp2_with fail
          clear x1 hfz
          go_roundw
          case rel => exact ⟨j + 1, ng, cg, c5, d5, A5, B5, G, by omega, by go_num, rfl, by omega, by rw [HRF.out, HHF.out, if_neg HTP.out, List.append_nil]; exact HT5.out⟩
          case measure => simp [intOf]; omega
    · obtain rfl : j = nq := by omega
      have hall : picks.take j = picks := List.take_of_length_le (Nat.le_of_eq hql.out)
      have HST2 := hid (show playS (ws, ls, f) l (vpk nl picks) = ((ws1, ls1, f1), l1) by rw [HST.out, hall]) 
      have HHS2 := hid (show heldF (ws, ls, f) l (vpk nl picks) = hs1 by rw [HHS.out, hall])
      clear hall
      obtain ⟨pm0, pm1, pm2, pmf⟩ := HT.out.pm.cells3
      obtain ⟨pz0, pz1, pz2, pzf⟩ := HT.out.pz.cells3
      go_wp2
      obtain ⟨q0, q1, q2, qf⟩ := (((HT.out.pz.setCell 0 (.slice A' k c')).setCell 1 (.slice B' k d')).setCell 2 (.bool f1)).cells3
      refine bodyPost_ret (v := .tuple #[mv A' k c' B' k d' f1, .slice (some ⟨g, 0, none⟩) nl c1, .slice G ng cg]) (by simp [results, Try.results15, go_sem, q0, q1, q2]) rfl ?_
      rw [HST2.out, HHS2.out]
      refine ⟨A', c', B', d', _, c1, G, ng, cg, rfl, ((HT.out.mem.setFar HT.out.f1 0 _).setFar HT.out.f1 1 _).setFar HT.out.f1 2 _, ?_, ?_, ((HT.out.be.setCell (by simp) _).setCell (by simp) _).setCell (by simp) _⟩
      · exact ((HT.out.row.farB (p := ⟨w.heap.size + 1, 0, none⟩) (HT.out.row.ne_blk HT.out.pz (by decide)) _).farB (p := ⟨w.heap.size + 1, 1, none⟩) (HT.out.row.ne_blk HT.out.pz (by decide)) _).farB (p := ⟨w.heap.size + 1, 2, none⟩) (HT.out.row.ne_blk HT.out.pz (by decide)) _
      · exact (((HT.out.held.setCell (p := ⟨w.heap.size + 1, 0, none⟩) hpz.out _).setCell (p := ⟨w.heap.size + 1, 1, none⟩) hpz.out _).setCell (p := ⟨w.heap.size + 1, 2, none⟩) hpz.out _).mono (by have := hpz.out; omega)
end Go.Proofs.Ytaeanmkbongfcaa
