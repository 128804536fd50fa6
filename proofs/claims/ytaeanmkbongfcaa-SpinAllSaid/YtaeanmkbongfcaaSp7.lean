/- package spin: a step of a play. No condition but sizes. -/
import Derived.Test.YtaeanmkbongfcaaSp6
import Derived.Test.YtaeanmkbongfcaaKitA
import Derived.Deep.DeepCutAuto
namespace Go.Proofs.Ytaeanmkbongfcaa
open Go.RowKit
@[reducible] def pcs (A : Option Addr) (n c : Nat) (B : Option Addr) (m d : Nat) (f : Bool) (L : Option Addr) (nl cl : Nat) : Array Value := #[.slice A n c, .slice B m d, .bool f, .slice L nl cl]
theorem mown_farT {W : World} {lo : Nat} {A : Option Addr} {n c : Nat} {B : Option Addr} {m d : Nat} {ws : List Int} {ls : List Bool} (h : Mown W lo A n c B m d ws ls) {g : Nat} {t : TypeId} {cs : Array Value} (hb : Blk W g t cs) (h1 : t ≠ 36) (h2 : t ≠ 4) (o : Nat) (u : Value) :
    Mown (W.setCell ⟨g, o, none⟩ u) lo A n c B m d ws ls := ⟨h.oa.farT hb h1 o u, h.ob.farT hb h2 o u, h.apart, h.hn, h.hm⟩
theorem mown_kept {W W' : World} {lo : Nat} {A : Option Addr} {n c : Nat} {B : Option Addr} {m d : Nat} {ws : List Int} {ls : List Bool} (h : Mown W lo A n c B m d ws ls) {g : Nat} {t : TypeId} {cs : Array Value} (hb : Blk W g t cs) (h1 : t ≠ 36) (h2 : t ≠ 4) (hg : W.grownBy W' (some g)) :
    Mown W' lo A n c B m d ws ls := ⟨h.oa.keptG hg (fun a ha e => h.oa.ne_blk hb h1 a ha (by simpa using e)), h.ob.keptG hg (fun a ha e => h.ob.ne_blk hb h2 a ha (by simpa using e)), h.apart, h.hn, h.hm⟩
def spUp (s : Spn) : Spn := if s.2.1 = 3 then (s.1, 4, s.2.2) else s
/-- a play behind a step of one -/
def pstepF (m : MSt) (l : List Spn) (i : Nat) : MSt × List Spn :=
  if spHas (spUp (l[i]?.getD (0, 0, 0))).2.1 then ((stepM m (spNeed (spUp (l[i]?.getD (0, 0, 0))))).1, l.set i (spTake (spUp (l[i]?.getD (0, 0, 0))) (stepM m (spNeed (spUp (l[i]?.getD (0, 0, 0))))).2)) else (m, l)
/-- a play in memory -/
structure Plm (W : World) (P lo : Nat) (m : MSt) (L : Option Addr) (nl cl lo2 : Nat) (l : List Spn) : Prop where
  box : ∃ A n c B k d, Blk W P 83 (pcs A n c B k d m.2.2 L nl cl) ∧ Mown W lo A n c B k d m.1 m.2.1
  row : Om 3 encS W lo2 38 L nl cl l
  le : lo ≤ W.heap.size
/-- the blocks that a play turns -/
def plp (P : Nat) (L : Option Addr) (i : Nat) : Prop := i = P ∨ ∃ a, L = some a ∧ a.block = i
def PsPost (w : World) (P lo : Nat) (m : MSt) (L : Option Addr) (nl cl lo2 : Nat) (l : List Spn) (i : Nat) (e : Ending) (w' : World) : Prop :=
  e = .returned (.tuple #[]) ∧ Plm w' P lo (pstepF m l i).1 L nl cl lo2 (pstepF m l i).2 ∧ GrownP (plp P L) w w'
structure PsMid (W5 W : World) (g7 g8 : Nat) (A : Option Addr) (n c : Nat) (B : Option Addr) (k d : Nat) (m : MSt) (x : Int) (y : Bool) : Prop where
  b7 : Blk W g7 25 (mcs A n c B k d m.2.2)
  b8 : Blk W g8 54 #[.int .u64 x, .bool y]
  own : Mown W W5.heap.size A n c B k d m.1 m.2.1
  be : Below W5.heap.size W5 W
theorem Blk.ne {W : World} {g g' : Nat} {t t' : TypeId} {cs cs' : Array Value} (h : Blk W g t cs) (h' : Blk W g' t' cs') (hne : t ≠ t') : g ≠ g' := by
  rintro rfl
  unfold Blk at h h'
  rw [h] at h'
  simp only [Option.some.injEq, Obj.cells.injEq] at h'
  exact hne h'.2.1
theorem tneB : (54 : TypeId) ≠ 83 := by decide
theorem tneC : (54 : TypeId) ≠ 38 := by decide
theorem tneA : (25 : TypeId) ≠ 54 := by decide
theorem tne1 : (25 : TypeId) ≠ 36 := by decide
theorem tne2 : (25 : TypeId) ≠ 4 := by decide
theorem tne3 : (54 : TypeId) ≠ 36 := by decide
theorem tne4 : (54 : TypeId) ≠ 4 := by decide
theorem tne5 : (83 : TypeId) ≠ 36 := by decide
theorem tne6 : (83 : TypeId) ≠ 4 := by decide
theorem tne7 : (83 : TypeId) ≠ 38 := by decide
theorem tne8 : (38 : TypeId) ≠ 36 := by decide
theorem tne9 : (38 : TypeId) ≠ 4 := by decide
set_option maxRecDepth 100000 in
set_option maxHeartbeats 8000000 in
theorem pstep_any (P lo : Nat) (m : MSt) (L : Option Addr) (nl cl lo2 : Nat) (l : List Spn) (i : Nat) (w : World) (h : Plm w P lo m L nl cl lo2 l) (hi : i < nl) (hnl : nl ≤ 1000000) (hg : MGood m.1 m.2.1) (hs : SpGood (l[i]?.getD (0, 0, 0))) :
    Calls Try.prog 45 #[ptr P, .int .i64 i] w (PsPost w P lo m L nl cl lo2 l i) := by
  obtain ⟨⟨A, n, c, B, k, d, hb, hm⟩, hr, hle⟩ := h
  obtain ⟨ws, ls, f⟩ := m
  dsimp only at hb hm hg
  have HP := hid hb; have HM := hid hm; have HL := hid hr; have HB := hid (Below.refl w.heap.size w)
  have HG := hid hg
  obtain ⟨⟨a, p, t⟩, hsx⟩ : ∃ s, s = l[i]?.getD (0, 0, 0) := ⟨_, rfl⟩
  rw [← hsx] at hs
  have HS := hid hs; have HX := hid hsx
  obtain ⟨g, rfl, hg1, hg2, hc, hfz⟩ := HL.out.at_ (0, 0, 0) hi
  have f0 := hc 0 (by omega); have f1 := hc 1 (by omega); have f2 := hc 2 (by omega)
  rw [← hsx] at f0 f1 f2
  rw [Nat.add_zero] at f0
  simp only [encS] at f0 f1 f2
  have HNE := hid (show g ≠ P from HL.out.ne_blk HP.out tne7 _ rfl)
  have hii : (i : Int) < (nl : Int) := by omega
  have H0 := HP; have H1 := HM; have H2 := HL
  clear hb hm hr hs hsx hc hfz
  obtain ⟨y00, y01, y02, y03, yf0⟩ := HP.out.cells4
  go_enter Try.func45, Try.ntmps45
  go_upto_region 1 with fail
  clear f0 f1 f2 y00 y01 y02 y03 yf0
  have bx := below_box w (.cells (scs a p t) 38)
  replace HP := hid (HP.out.step bx); replace HM := hid (HM.out.step bx); replace HL := hid (HL.out.step bx); replace HB := hid (below_then HB.out bx)
  clear bx
  have PS := hid (Blk.new w 38 (scs a p t))
  have hz1 := hid (show (w.alloc (.cells (scs a p t) 38)).heap.size = w.heap.size + 1 by simp)
  generalize w.alloc (.cells (scs a p t) 38) = W1 at *
  obtain ⟨p2, hp2⟩ : ∃ p2, p2 = if p = 3 then (4 : Int) else p := ⟨_, rfl⟩
  have HU := hid (show spUp (a, p, t) = (a, p2, t) by unfold spUp; rw [hp2]; split <;> rfl)
  have HS2 := hid (show SpGood (a, p2, t) by obtain ⟨s1, s2, s3, s4⟩ := HS.out; dsimp only at s1 s2 s3 s4; refine ⟨s1, ?_, ?_, ?_⟩ <;> dsimp only <;> rw [hp2] <;> split <;> first | omega | (intro hh; omega))
  skip
  have HPP := hid hp2
  clear hp2
  obtain ⟨y00, y01, y02, yf0⟩ := PS.out.cells3
  go_upto_if 19 with fail
  clear y00 y01 y02 yf0
  go_cut [] (fun wx => Blk wx w.heap.size 38 (scs a p2 t) ∧ Blk wx P 83 (pcs A n c B k d f (some ⟨g, 0, none⟩) nl cl) ∧ Mown wx lo A n c B k d ws ls ∧ Om 3 encS wx lo2 38 (some ⟨g, 0, none⟩) nl cl l ∧ Below w.heap.size w wx)
  case first =>
    by_cases h3 : p = 3
    · obtain rfl : p2 = 4 := by rw [HPP.out, if_pos h3]
      subst h3
      obtain ⟨y00, y01, y02, yf0⟩ := PS.out.cells3
      go_wp2
      go_meet
      exact ⟨PS.out.setCell 1 (.int .i64 4), HP.out.far (p := ⟨w.heap.size, 1, none⟩) (Nat.ne_of_lt H0.out.lt) _, mown_farT HM.out PS.out tne8 tne9 1 _, HL.out.farB (fun a ha => by cases ha; show g ≠ w.heap.size; omega) _, HB.out.setCell (Nat.le_refl _) _⟩
    · have h3b : (p == 3) = false := by simpa using h3
      obtain rfl : p2 = p := by rw [HPP.out, if_neg h3]
      obtain ⟨y00, y01, y02, yf0⟩ := PS.out.cells3
      go_wp2
      go_meet
      exact ⟨PS.out, HP.out, HM.out, HL.out, HB.out⟩
  case rest =>
    rename World => W2
    obtain ⟨ps, hp, hm, hl, hb⟩ := hcut
    replace PS := hid ps; replace HP := hid hp; replace HM := hid hm; replace HL := hid hl; replace HB := hid hb
    clear ps hp hm hl hb
    obtain ⟨y00, y01, y02, yf0⟩ := PS.out.cells3
    go_wp2_with fail
    clear y00 y01 y02 yf0
    refine (spneed_any a p2 t W2).mono ?_
    rintro e W3 ⟨rfl, hb⟩
    replace HP := hid (HP.out.step hb); replace HM := hid (HM.out.step hb); replace HL := hid (HL.out.step hb); replace PS := hid (PS.out.step hb); replace HB := hid (below_then HB.out hb)
    clear hb
    by_cases hh : spHas p2
    · rw [show spNeedF (a, p2, t) = (spNeed (a, p2, t), true) from if_pos ⟨HS2.out, hh⟩]
      have HH := hid hh
      clear hh
      obtain ⟨⟨nk, na, no, nn⟩, hn⟩ : ∃ x, x = spNeed (a, p2, t) := ⟨_, rfl⟩
      rw [← hn]
      have HN := hid hn
      clear hn
      dsimp only
      have bx := below_box W3 (.cells (acs nk na no nn) 49)
      replace HP := hid (HP.out.step bx); replace HM := hid (HM.out.step bx); replace HL := hid (HL.out.step bx); replace PS := hid (PS.out.step bx); replace HB := hid (below_then HB.out bx)
      clear bx
      have PA := hid (Blk.new W3 49 (acs nk na no nn))
      skip
      obtain ⟨y00, y01, y02, y03, yf0⟩ := HP.out.cells4
      obtain ⟨y10, y11, y12, y13, yf1⟩ := PA.out.cells4
      go_upto_region 5 with fail
      clear y00 y01 y02 y03 yf0 y10 y11 y12 y13 yf1
      generalize W3.alloc (.cells (acs nk na no nn) 49) = W5 at *
      have hlo5 := hid (show lo ≤ W5.heap.size by have := PS.out.lt; omega)
      obtain ⟨⟨⟨ws2, ls2, f2⟩, ⟨gx, gy⟩⟩, hst⟩ : ∃ r, r = stepM (ws, ls, f) (nk, na, no, nn) := ⟨_, rfl⟩
      have hk13 : ¬ (nk < 1 ∨ 3 < nk) := by have := HN.out; unfold spNeed at this; (split at this) <;> (try split at this) <;> (try split at this) <;> (simp only [Prod.mk.injEq] at this; omega)
      have HAC := hid (show accF (ws, ls, f) (nk, na, no, nn) = (0, ((ws2, ls2, f2), (gx, gy))) by rw [accF, if_neg (not_not_intro HG.out), if_neg hk13, ← hst])
      have HST := hid hst; have HBQ := hid (Below.refl W5.heap.size W5)
      clear hst hk13 hg
      go_cut [7, 8, 9] (fun s7 s8 s9 wx => ∃ g7 g8 A2 n2 c2 B2 k2 d2, s7 = ptr g7 ∧ s8 = ptr g8 ∧ s9 = .int .i64 0 ∧ PsMid W5 wx g7 g8 A2 n2 c2 B2 k2 d2 (ws2, ls2, f2) gx gy)
      case first =>
        have bx := (Below.refl W5.heap.size W5).drew
        replace HBQ := hid (below_then HBQ.out bx)
        clear bx
        have hszd := hid (show W5.drew.heap.size = W5.heap.size from rfl)
        refine wp_region_noPanic ?_
        refine wp_region_held_drew (S := (fun W' : World => W'.cell? ⟨P, 0, none⟩ = some (.slice A n c) ∧ W'.cell? ⟨P, 1, none⟩ = some (.slice B k d) ∧ W'.cell? ⟨P, 2, none⟩ = some (.bool f) ∧ W'.cell? ⟨P, 3, none⟩ = some (.slice (some ⟨g, 0, none⟩) nl cl) ∧ W'.cell? ⟨W3.heap.size, 0, none⟩ = some (.int .i64 nk) ∧ W'.cell? ⟨W3.heap.size, 1, none⟩ = some (.int .i64 na) ∧ W'.cell? ⟨W3.heap.size, 2, none⟩ = some (.int .u64 no) ∧ W'.cell? ⟨W3.heap.size, 3, none⟩ = some (.int .u64 nn))) (by kernel_rfl) ⟨(HP.out.step HBQ.out).cells4.1, (HP.out.step HBQ.out).cells4.2.1, (HP.out.step HBQ.out).cells4.2.2.1, (HP.out.step HBQ.out).cells4.2.2.2.1, (PA.out.step HBQ.out).cells4.1, (PA.out.step HBQ.out).cells4.2.1, (PA.out.step HBQ.out).cells4.2.2.1, (PA.out.step HBQ.out).cells4.2.2.2.1⟩ (fun hS => ?_)
        generalize W5.drew = Wd at *
        refine wpAnyH_take (i := 0) (v := ?_) (by simp only [List.getElem?_toArray, List.getElem?_cons_succ, List.getElem?_cons_zero]; rfl) (by kernel_rfl) (by kernel_rfl) (by kernel_rfl) (fun _ _ _ h => h) (Or.inl ⟨by rfl, ?_⟩) hS ?_
        rotate_left
        · intro w' hSw; (try dsimp only at hSw); go_split_ands; go_simp; (try with_reducible rfl)
        (try simp only [Act.put, List.setIfInBounds_toArray, List.set_cons_zero, List.set_cons_succ])
        refine wpAnyH_take (i := 1) (v := ?_) (by simp only [List.getElem?_toArray, List.getElem?_cons_succ, List.getElem?_cons_zero]; rfl) (by kernel_rfl) (by kernel_rfl) (by kernel_rfl) (fun _ _ _ h => h) (Or.inl ⟨by rfl, ?_⟩) hS ?_
        rotate_left
        · intro w' hSw; (try dsimp only at hSw); go_split_ands; go_simp; (try with_reducible rfl)
        (try simp only [Act.put, List.setIfInBounds_toArray, List.set_cons_zero, List.set_cons_succ])
        refine wpAnyH_take (i := 2) (v := ?_) (by simp only [List.getElem?_toArray, List.getElem?_cons_succ, List.getElem?_cons_zero]; rfl) (by kernel_rfl) (by kernel_rfl) (by kernel_rfl) (fun _ _ _ h => h) (Or.inl ⟨by rfl, ?_⟩) hS ?_
        rotate_left
        · intro w' hSw; (try dsimp only at hSw); go_split_ands; go_simp; (try with_reducible rfl)
        (try simp only [Act.put, List.setIfInBounds_toArray, List.set_cons_zero, List.set_cons_succ])
        refine wpAnyH_take (i := 3) (v := ?_) (by simp only [List.getElem?_toArray, List.getElem?_cons_succ, List.getElem?_cons_zero]; rfl) (by kernel_rfl) (by kernel_rfl) (by kernel_rfl) (fun _ _ _ h => h) (Or.inl ⟨by rfl, ?_⟩) hS ?_
        rotate_left
        · intro w' hSw; (try dsimp only at hSw); go_split_ands; go_simp; (try with_reducible rfl)
        (try simp only [Act.put, List.setIfInBounds_toArray, List.set_cons_zero, List.set_cons_succ])
        refine wpAnyH_take (i := 4) (v := ?_) (by simp only [List.getElem?_toArray, List.getElem?_cons_succ, List.getElem?_cons_zero]; rfl) (by kernel_rfl) (by kernel_rfl) (by kernel_rfl) (fun _ _ _ h => h) (Or.inl ⟨by rfl, ?_⟩) hS ?_
        rotate_left
        · intro w' hSw; (try dsimp only at hSw); go_split_ands; go_simp; (try with_reducible rfl)
        (try simp only [Act.put, List.setIfInBounds_toArray, List.set_cons_zero, List.set_cons_succ])
        refine wpAnyH_ready (rs := [5, 10, 11]) (by kernel_rfl) (by simp) ?_
        refine AllReadyH.cons (by simp only [List.getElem?_toArray, List.getElem?_cons_succ, List.getElem?_cons_zero]; rfl) (fun K hK => ?_) ?_
        · skip
          go_simp
          refine (mstep_any A n c B k d f nk na no nn ws ls _ (HM.out.step HBQ.out).mem).mono ?_
          rintro e w6 ⟨A2, n2, c2, B2, k2, d2, rfl, ho, hb⟩
          have hsz0 := hid (show Wd.heap.size ≤ w6.heap.size from hb.size)
          replace HBQ := hid (below_then HBQ.out hb)
          clear hb
          rw [HAC.out] at ho ⊢
          dsimp only at ho ⊢
          have HM2 := hid (ho.mono (show W5.heap.size ≤ _ by have := hszd.out; omega))
          clear ho
          go_wp2_with fail
          refine hK.out _ _ ⟨(HP.out.step HBQ.out).cells4.1, (HP.out.step HBQ.out).cells4.2.1, (HP.out.step HBQ.out).cells4.2.2.1, (HP.out.step HBQ.out).cells4.2.2.2.1, (PA.out.step HBQ.out).cells4.1, (PA.out.step HBQ.out).cells4.2.1, (PA.out.step HBQ.out).cells4.2.2.1, (PA.out.step HBQ.out).cells4.2.2.2.1⟩ (fun hS' => ?_)
          clear hK K hS
          have hS := hS'
          clear hS'
          (try simp only [Act.put, List.setIfInBounds_toArray, List.set_cons_zero, List.set_cons_succ])
          refine wpAnyH_take (i := 6) (v := ?_) (by simp only [List.getElem?_toArray, List.getElem?_cons_succ, List.getElem?_cons_zero]; rfl) (by kernel_rfl) (by kernel_rfl) (by kernel_rfl) (fun _ _ _ h => h) (Or.inl ⟨by rfl, ?_⟩) hS ?_
          rotate_left
          · intro w' hSw; (try dsimp only at hSw); go_split_ands; go_simp; (try with_reducible rfl)
          (try simp only [Act.put, List.setIfInBounds_toArray, List.set_cons_zero, List.set_cons_succ])
          refine wpAnyH_take (i := 7) (v := ?_) (by simp only [List.getElem?_toArray, List.getElem?_cons_succ, List.getElem?_cons_zero]; rfl) (by kernel_rfl) (by kernel_rfl) (by kernel_rfl) (fun _ _ _ h => h) (Or.inl ⟨by rfl, ?_⟩) hS ?_
          rotate_left
          · intro w' hSw; (try dsimp only at hSw); go_split_ands; go_simp; (try with_reducible rfl)
          (try simp only [Act.put, List.setIfInBounds_toArray, List.set_cons_zero, List.set_cons_succ])
          refine wpAnyH_take (i := 8) (v := ?_) (by simp only [List.getElem?_toArray, List.getElem?_cons_succ, List.getElem?_cons_zero]; rfl) (by kernel_rfl) (by kernel_rfl) (by kernel_rfl) (fun _ _ _ h => h) (Or.inl ⟨by rfl, ?_⟩) hS ?_
          rotate_left
          · intro w' hSw; (try dsimp only at hSw); go_split_ands; go_simp; (try with_reducible rfl)
          (try simp only [Act.put, List.setIfInBounds_toArray, List.set_cons_zero, List.set_cons_succ])
          refine wpAnyH_take (i := 9) (v := ?_) (by simp only [List.getElem?_toArray, List.getElem?_cons_succ, List.getElem?_cons_zero]; rfl) (by kernel_rfl) (by kernel_rfl) (by kernel_rfl) (fun _ _ _ h => h) (Or.inl ⟨by rfl, ?_⟩) hS ?_
          rotate_left
          · intro w' hSw; (try dsimp only at hSw); go_split_ands; go_simp; (try with_reducible rfl)
          (try simp only [Act.put, List.setIfInBounds_toArray, List.set_cons_zero, List.set_cons_succ])
          refine wpAnyH_ready (rs := [10, 11]) (by kernel_rfl) (by simp) ?_
          refine AllReadyH.cons (by simp only [List.getElem?_toArray, List.getElem?_cons_succ, List.getElem?_cons_zero]; rfl) (fun K hK => ?_) ?_
          · skip
            go_simp
            refine named_alloc ?_
            intro Wa10 hbk hb hsz
            have hsz1 := hid hsz
            replace HM2 := hid (HM2.out.step hb); replace HBQ := hid (below_then HBQ.out hb)
            have P7 := hid hbk
            clear hb hbk hsz
            refine hK.out _ _ ⟨(HP.out.step HBQ.out).cells4.1, (HP.out.step HBQ.out).cells4.2.1, (HP.out.step HBQ.out).cells4.2.2.1, (HP.out.step HBQ.out).cells4.2.2.2.1, (PA.out.step HBQ.out).cells4.1, (PA.out.step HBQ.out).cells4.2.1, (PA.out.step HBQ.out).cells4.2.2.1, (PA.out.step HBQ.out).cells4.2.2.2.1⟩ (fun hS' => ?_)
            clear hK K hS
            have hS := hS'
            clear hS'
            (try simp only [Act.put, List.setIfInBounds_toArray, List.set_cons_zero, List.set_cons_succ])
            refine wpAnyH_ready (rs := [11]) (by kernel_rfl) (by simp) ?_
            refine AllReadyH.cons (by simp only [List.getElem?_toArray, List.getElem?_cons_succ, List.getElem?_cons_zero]; rfl) (fun K hK => ?_) ?_
            · skip
              go_simp
              refine named_alloc ?_
              intro Wa11 hbk hb hsz
              have hsz2 := hid hsz
              replace HM2 := hid (HM2.out.step hb); replace P7 := hid (P7.out.step hb); replace HBQ := hid (below_then HBQ.out hb)
              have P8 := hid hbk
              clear hb hbk hsz
              refine hK.out _ _ ⟨(HP.out.step HBQ.out).cells4.1, (HP.out.step HBQ.out).cells4.2.1, (HP.out.step HBQ.out).cells4.2.2.1, (HP.out.step HBQ.out).cells4.2.2.2.1, (PA.out.step HBQ.out).cells4.1, (PA.out.step HBQ.out).cells4.2.1, (PA.out.step HBQ.out).cells4.2.2.1, (PA.out.step HBQ.out).cells4.2.2.2.1⟩ (fun hS' => ?_)
              clear hK K hS
              have hS := hS'
              clear hS'
              (try simp only [Act.put, List.setIfInBounds_toArray, List.set_cons_zero, List.set_cons_succ])
              refine wpAnyH_ready (rs := [12]) (by kernel_rfl) (by simp) ?_
              refine AllReadyH.cons (by simp only [List.getElem?_toArray, List.getElem?_cons_succ, List.getElem?_cons_zero]; rfl) (fun K hK => ?_) ?_
              · skip
                obtain ⟨y00, y01, y02, yf0⟩ := P7.out.cells3
                go_simp
                clear y00 y01 y02 yf0
                refine named_store3 P7.out ?_
                intro Ws12 hbk hgr hsz
                have hsz3 := hid hsz
                clear hsz
                replace P8 := hid (P8.out.grown hgr (fun e => P7.out.ne P8.out tneA (by simpa using e.symm)))
                replace HM2 := hid (mown_kept HM2.out P7.out tne1 tne2 hgr)
                replace HBQ := hid (HBQ.out.grown hgr HBQ.out.size (fun r e => by cases e; have := hszd.out; have := hsz0.out; have := hsz1.out; have := hsz2.out; have := hsz3.out; omega))
                replace P7 := hid hbk
                clear hbk hgr
                refine hK.out _ _ ⟨(HP.out.step HBQ.out).cells4.1, (HP.out.step HBQ.out).cells4.2.1, (HP.out.step HBQ.out).cells4.2.2.1, (HP.out.step HBQ.out).cells4.2.2.2.1, (PA.out.step HBQ.out).cells4.1, (PA.out.step HBQ.out).cells4.2.1, (PA.out.step HBQ.out).cells4.2.2.1, (PA.out.step HBQ.out).cells4.2.2.2.1⟩ (fun hS' => ?_)
                clear hK K hS
                have hS := hS'
                clear hS'
                (try simp only [Act.put, List.setIfInBounds_toArray, List.set_cons_zero, List.set_cons_succ])
                refine wpAnyH_ready (rs := [13]) (by kernel_rfl) (by simp) ?_
                refine AllReadyH.cons (by simp only [List.getElem?_toArray, List.getElem?_cons_succ, List.getElem?_cons_zero]; rfl) (fun K hK => ?_) ?_
                · skip
                  obtain ⟨y00, y01, yf0⟩ := P8.out.cells2
                  go_simp
                  clear y00 y01 yf0
                  refine named_store2 P8.out ?_
                  intro Ws13 hbk hgr hsz
                  have hsz4 := hid hsz
                  clear hsz
                  replace P7 := hid (P7.out.grown hgr (fun e => P7.out.ne P8.out tneA (by simpa using e)))
                  replace HM2 := hid (mown_kept HM2.out P8.out tne3 tne4 hgr)
                  replace HBQ := hid (HBQ.out.grown hgr HBQ.out.size (fun r e => by cases e; have := hszd.out; have := hsz0.out; have := hsz1.out; have := hsz2.out; have := hsz3.out; have := hsz4.out; omega))
                  replace P8 := hid hbk
                  clear hbk hgr
                  refine hK.out _ _ ⟨(HP.out.step HBQ.out).cells4.1, (HP.out.step HBQ.out).cells4.2.1, (HP.out.step HBQ.out).cells4.2.2.1, (HP.out.step HBQ.out).cells4.2.2.2.1, (PA.out.step HBQ.out).cells4.1, (PA.out.step HBQ.out).cells4.2.1, (PA.out.step HBQ.out).cells4.2.2.1, (PA.out.step HBQ.out).cells4.2.2.2.1⟩ (fun hS' => ?_)
                  clear hK K hS
                  have hS := hS'
                  clear hS'
                  (try simp only [Act.put, List.setIfInBounds_toArray, List.set_cons_zero, List.set_cons_succ])
                  refine wpAnyH_take (i := 14) (v := ?_) (by simp only [List.getElem?_toArray, List.getElem?_cons_succ, List.getElem?_cons_zero]; rfl) (by kernel_rfl) (by kernel_rfl) (by kernel_rfl) (fun _ _ _ h => h) (Or.inl ⟨by rfl, ?_⟩) hS ?_
                  rotate_left
                  · intro w' hSw; (try dsimp only at hSw); go_split_ands; go_simp; (try with_reducible rfl)
                  (try simp only [Act.put, List.setIfInBounds_toArray, List.set_cons_zero, List.set_cons_succ])
                  refine wpAnyH_done (by kernel_rfl) ?_ _
                  refine NoPanic.normal ?_
                  clear hS
                  go_wp2_with fail
                  go_meet
                  exact ⟨_, _, _, _, _, _, _, _, rfl, rfl, rfl, P7.out, P8.out, HM2.out, HBQ.out⟩
                exact AllReadyH.nil
              exact AllReadyH.nil
            exact AllReadyH.nil
          refine AllReadyH.cons (by simp only [List.getElem?_toArray, List.getElem?_cons_succ, List.getElem?_cons_zero]; rfl) (fun K hK => ?_) ?_
          · skip
            go_simp
            refine named_alloc ?_
            intro Wa11 hbk hb hsz
            have hsz1 := hid hsz
            replace HM2 := hid (HM2.out.step hb); replace HBQ := hid (below_then HBQ.out hb)
            have P8 := hid hbk
            clear hb hbk hsz
            refine hK.out _ _ ⟨(HP.out.step HBQ.out).cells4.1, (HP.out.step HBQ.out).cells4.2.1, (HP.out.step HBQ.out).cells4.2.2.1, (HP.out.step HBQ.out).cells4.2.2.2.1, (PA.out.step HBQ.out).cells4.1, (PA.out.step HBQ.out).cells4.2.1, (PA.out.step HBQ.out).cells4.2.2.1, (PA.out.step HBQ.out).cells4.2.2.2.1⟩ (fun hS' => ?_)
            clear hK K hS
            have hS := hS'
            clear hS'
            (try simp only [Act.put, List.setIfInBounds_toArray, List.set_cons_zero, List.set_cons_succ])
            refine wpAnyH_ready (rs := [10]) (by kernel_rfl) (by simp) ?_
            refine AllReadyH.cons (by simp only [List.getElem?_toArray, List.getElem?_cons_succ, List.getElem?_cons_zero]; rfl) (fun K hK => ?_) ?_
            · skip
              go_simp
              refine named_alloc ?_
              intro Wa10 hbk hb hsz
              have hsz2 := hid hsz
              replace HM2 := hid (HM2.out.step hb); replace P8 := hid (P8.out.step hb); replace HBQ := hid (below_then HBQ.out hb)
              have P7 := hid hbk
              clear hb hbk hsz
              refine hK.out _ _ ⟨(HP.out.step HBQ.out).cells4.1, (HP.out.step HBQ.out).cells4.2.1, (HP.out.step HBQ.out).cells4.2.2.1, (HP.out.step HBQ.out).cells4.2.2.2.1, (PA.out.step HBQ.out).cells4.1, (PA.out.step HBQ.out).cells4.2.1, (PA.out.step HBQ.out).cells4.2.2.1, (PA.out.step HBQ.out).cells4.2.2.2.1⟩ (fun hS' => ?_)
              clear hK K hS
              have hS := hS'
              clear hS'
              (try simp only [Act.put, List.setIfInBounds_toArray, List.set_cons_zero, List.set_cons_succ])
              refine wpAnyH_ready (rs := [12]) (by kernel_rfl) (by simp) ?_
              refine AllReadyH.cons (by simp only [List.getElem?_toArray, List.getElem?_cons_succ, List.getElem?_cons_zero]; rfl) (fun K hK => ?_) ?_
              · skip
                obtain ⟨y00, y01, y02, yf0⟩ := P7.out.cells3
                go_simp
                clear y00 y01 y02 yf0
                refine named_store3 P7.out ?_
                intro Ws12 hbk hgr hsz
                have hsz3 := hid hsz
                clear hsz
                replace P8 := hid (P8.out.grown hgr (fun e => P7.out.ne P8.out tneA (by simpa using e.symm)))
                replace HM2 := hid (mown_kept HM2.out P7.out tne1 tne2 hgr)
                replace HBQ := hid (HBQ.out.grown hgr HBQ.out.size (fun r e => by cases e; have := hszd.out; have := hsz0.out; have := hsz1.out; have := hsz2.out; have := hsz3.out; omega))
                replace P7 := hid hbk
                clear hbk hgr
                refine hK.out _ _ ⟨(HP.out.step HBQ.out).cells4.1, (HP.out.step HBQ.out).cells4.2.1, (HP.out.step HBQ.out).cells4.2.2.1, (HP.out.step HBQ.out).cells4.2.2.2.1, (PA.out.step HBQ.out).cells4.1, (PA.out.step HBQ.out).cells4.2.1, (PA.out.step HBQ.out).cells4.2.2.1, (PA.out.step HBQ.out).cells4.2.2.2.1⟩ (fun hS' => ?_)
                clear hK K hS
                have hS := hS'
                clear hS'
                (try simp only [Act.put, List.setIfInBounds_toArray, List.set_cons_zero, List.set_cons_succ])
                refine wpAnyH_ready (rs := [13]) (by kernel_rfl) (by simp) ?_
                refine AllReadyH.cons (by simp only [List.getElem?_toArray, List.getElem?_cons_succ, List.getElem?_cons_zero]; rfl) (fun K hK => ?_) ?_
                · skip
                  obtain ⟨y00, y01, yf0⟩ := P8.out.cells2
                  go_simp
                  clear y00 y01 yf0
                  refine named_store2 P8.out ?_
                  intro Ws13 hbk hgr hsz
                  have hsz4 := hid hsz
                  clear hsz
                  replace P7 := hid (P7.out.grown hgr (fun e => P7.out.ne P8.out tneA (by simpa using e)))
                  replace HM2 := hid (mown_kept HM2.out P8.out tne3 tne4 hgr)
                  replace HBQ := hid (HBQ.out.grown hgr HBQ.out.size (fun r e => by cases e; have := hszd.out; have := hsz0.out; have := hsz1.out; have := hsz2.out; have := hsz3.out; have := hsz4.out; omega))
                  replace P8 := hid hbk
                  clear hbk hgr
                  refine hK.out _ _ ⟨(HP.out.step HBQ.out).cells4.1, (HP.out.step HBQ.out).cells4.2.1, (HP.out.step HBQ.out).cells4.2.2.1, (HP.out.step HBQ.out).cells4.2.2.2.1, (PA.out.step HBQ.out).cells4.1, (PA.out.step HBQ.out).cells4.2.1, (PA.out.step HBQ.out).cells4.2.2.1, (PA.out.step HBQ.out).cells4.2.2.2.1⟩ (fun hS' => ?_)
                  clear hK K hS
                  have hS := hS'
                  clear hS'
                  (try simp only [Act.put, List.setIfInBounds_toArray, List.set_cons_zero, List.set_cons_succ])
                  refine wpAnyH_take (i := 14) (v := ?_) (by simp only [List.getElem?_toArray, List.getElem?_cons_succ, List.getElem?_cons_zero]; rfl) (by kernel_rfl) (by kernel_rfl) (by kernel_rfl) (fun _ _ _ h => h) (Or.inl ⟨by rfl, ?_⟩) hS ?_
                  rotate_left
                  · intro w' hSw; (try dsimp only at hSw); go_split_ands; go_simp; (try with_reducible rfl)
                  (try simp only [Act.put, List.setIfInBounds_toArray, List.set_cons_zero, List.set_cons_succ])
                  refine wpAnyH_done (by kernel_rfl) ?_ _
                  refine NoPanic.normal ?_
                  clear hS
                  go_wp2_with fail
                  go_meet
                  exact ⟨_, _, _, _, _, _, _, _, rfl, rfl, rfl, P7.out, P8.out, HM2.out, HBQ.out⟩
                exact AllReadyH.nil
              exact AllReadyH.nil
            exact AllReadyH.nil
          exact AllReadyH.nil
        refine AllReadyH.cons (by simp only [List.getElem?_toArray, List.getElem?_cons_succ, List.getElem?_cons_zero]; rfl) (fun K hK => ?_) ?_
        · skip
          go_simp
          refine named_alloc ?_
          intro Wa10 hbk hb hsz
          have hsz0 := hid hsz
          replace HBQ := hid (below_then HBQ.out hb)
          have P7 := hid hbk
          clear hb hbk hsz
          refine hK.out _ _ ⟨(HP.out.step HBQ.out).cells4.1, (HP.out.step HBQ.out).cells4.2.1, (HP.out.step HBQ.out).cells4.2.2.1, (HP.out.step HBQ.out).cells4.2.2.2.1, (PA.out.step HBQ.out).cells4.1, (PA.out.step HBQ.out).cells4.2.1, (PA.out.step HBQ.out).cells4.2.2.1, (PA.out.step HBQ.out).cells4.2.2.2.1⟩ (fun hS' => ?_)
          clear hK K hS
          have hS := hS'
          clear hS'
          (try simp only [Act.put, List.setIfInBounds_toArray, List.set_cons_zero, List.set_cons_succ])
          refine wpAnyH_ready (rs := [5, 11]) (by kernel_rfl) (by simp) ?_
          refine AllReadyH.cons (by simp only [List.getElem?_toArray, List.getElem?_cons_succ, List.getElem?_cons_zero]; rfl) (fun K hK => ?_) ?_
          · skip
            go_simp
            refine (mstep_any A n c B k d f nk na no nn ws ls _ (HM.out.step HBQ.out).mem).mono ?_
            rintro e w6 ⟨A2, n2, c2, B2, k2, d2, rfl, ho, hb⟩
            have hsz1 := hid (show Wa10.heap.size ≤ w6.heap.size from hb.size)
            replace P7 := hid (P7.out.step hb); replace HBQ := hid (below_then HBQ.out hb)
            clear hb
            rw [HAC.out] at ho ⊢
            dsimp only at ho ⊢
            have HM2 := hid (ho.mono (show W5.heap.size ≤ _ by have := hszd.out; have := hsz0.out; omega))
            clear ho
            go_wp2_with fail
            refine hK.out _ _ ⟨(HP.out.step HBQ.out).cells4.1, (HP.out.step HBQ.out).cells4.2.1, (HP.out.step HBQ.out).cells4.2.2.1, (HP.out.step HBQ.out).cells4.2.2.2.1, (PA.out.step HBQ.out).cells4.1, (PA.out.step HBQ.out).cells4.2.1, (PA.out.step HBQ.out).cells4.2.2.1, (PA.out.step HBQ.out).cells4.2.2.2.1⟩ (fun hS' => ?_)
            clear hK K hS
            have hS := hS'
            clear hS'
            (try simp only [Act.put, List.setIfInBounds_toArray, List.set_cons_zero, List.set_cons_succ])
            refine wpAnyH_take (i := 6) (v := ?_) (by simp only [List.getElem?_toArray, List.getElem?_cons_succ, List.getElem?_cons_zero]; rfl) (by kernel_rfl) (by kernel_rfl) (by kernel_rfl) (fun _ _ _ h => h) (Or.inl ⟨by rfl, ?_⟩) hS ?_
            rotate_left
            · intro w' hSw; (try dsimp only at hSw); go_split_ands; go_simp; (try with_reducible rfl)
            (try simp only [Act.put, List.setIfInBounds_toArray, List.set_cons_zero, List.set_cons_succ])
            refine wpAnyH_take (i := 7) (v := ?_) (by simp only [List.getElem?_toArray, List.getElem?_cons_succ, List.getElem?_cons_zero]; rfl) (by kernel_rfl) (by kernel_rfl) (by kernel_rfl) (fun _ _ _ h => h) (Or.inl ⟨by rfl, ?_⟩) hS ?_
            rotate_left
            · intro w' hSw; (try dsimp only at hSw); go_split_ands; go_simp; (try with_reducible rfl)
            (try simp only [Act.put, List.setIfInBounds_toArray, List.set_cons_zero, List.set_cons_succ])
            refine wpAnyH_take (i := 8) (v := ?_) (by simp only [List.getElem?_toArray, List.getElem?_cons_succ, List.getElem?_cons_zero]; rfl) (by kernel_rfl) (by kernel_rfl) (by kernel_rfl) (fun _ _ _ h => h) (Or.inl ⟨by rfl, ?_⟩) hS ?_
            rotate_left
            · intro w' hSw; (try dsimp only at hSw); go_split_ands; go_simp; (try with_reducible rfl)
            (try simp only [Act.put, List.setIfInBounds_toArray, List.set_cons_zero, List.set_cons_succ])
            refine wpAnyH_take (i := 9) (v := ?_) (by simp only [List.getElem?_toArray, List.getElem?_cons_succ, List.getElem?_cons_zero]; rfl) (by kernel_rfl) (by kernel_rfl) (by kernel_rfl) (fun _ _ _ h => h) (Or.inl ⟨by rfl, ?_⟩) hS ?_
            rotate_left
            · intro w' hSw; (try dsimp only at hSw); go_split_ands; go_simp; (try with_reducible rfl)
            (try simp only [Act.put, List.setIfInBounds_toArray, List.set_cons_zero, List.set_cons_succ])
            refine wpAnyH_ready (rs := [11]) (by kernel_rfl) (by simp) ?_
            refine AllReadyH.cons (by simp only [List.getElem?_toArray, List.getElem?_cons_succ, List.getElem?_cons_zero]; rfl) (fun K hK => ?_) ?_
            · skip
              go_simp
              refine named_alloc ?_
              intro Wa11 hbk hb hsz
              have hsz2 := hid hsz
              replace P7 := hid (P7.out.step hb); replace HM2 := hid (HM2.out.step hb); replace HBQ := hid (below_then HBQ.out hb)
              have P8 := hid hbk
              clear hb hbk hsz
              refine hK.out _ _ ⟨(HP.out.step HBQ.out).cells4.1, (HP.out.step HBQ.out).cells4.2.1, (HP.out.step HBQ.out).cells4.2.2.1, (HP.out.step HBQ.out).cells4.2.2.2.1, (PA.out.step HBQ.out).cells4.1, (PA.out.step HBQ.out).cells4.2.1, (PA.out.step HBQ.out).cells4.2.2.1, (PA.out.step HBQ.out).cells4.2.2.2.1⟩ (fun hS' => ?_)
              clear hK K hS
              have hS := hS'
              clear hS'
              (try simp only [Act.put, List.setIfInBounds_toArray, List.set_cons_zero, List.set_cons_succ])
              refine wpAnyH_ready (rs := [12]) (by kernel_rfl) (by simp) ?_
              refine AllReadyH.cons (by simp only [List.getElem?_toArray, List.getElem?_cons_succ, List.getElem?_cons_zero]; rfl) (fun K hK => ?_) ?_
              · skip
                obtain ⟨y00, y01, y02, yf0⟩ := P7.out.cells3
                go_simp
                clear y00 y01 y02 yf0
                refine named_store3 P7.out ?_
                intro Ws12 hbk hgr hsz
                have hsz3 := hid hsz
                clear hsz
                replace P8 := hid (P8.out.grown hgr (fun e => P7.out.ne P8.out tneA (by simpa using e.symm)))
                replace HM2 := hid (mown_kept HM2.out P7.out tne1 tne2 hgr)
                replace HBQ := hid (HBQ.out.grown hgr HBQ.out.size (fun r e => by cases e; have := hszd.out; have := hsz0.out; have := hsz1.out; have := hsz2.out; have := hsz3.out; omega))
                replace P7 := hid hbk
                clear hbk hgr
                refine hK.out _ _ ⟨(HP.out.step HBQ.out).cells4.1, (HP.out.step HBQ.out).cells4.2.1, (HP.out.step HBQ.out).cells4.2.2.1, (HP.out.step HBQ.out).cells4.2.2.2.1, (PA.out.step HBQ.out).cells4.1, (PA.out.step HBQ.out).cells4.2.1, (PA.out.step HBQ.out).cells4.2.2.1, (PA.out.step HBQ.out).cells4.2.2.2.1⟩ (fun hS' => ?_)
                clear hK K hS
                have hS := hS'
                clear hS'
                (try simp only [Act.put, List.setIfInBounds_toArray, List.set_cons_zero, List.set_cons_succ])
                refine wpAnyH_ready (rs := [13]) (by kernel_rfl) (by simp) ?_
                refine AllReadyH.cons (by simp only [List.getElem?_toArray, List.getElem?_cons_succ, List.getElem?_cons_zero]; rfl) (fun K hK => ?_) ?_
                · skip
                  obtain ⟨y00, y01, yf0⟩ := P8.out.cells2
                  go_simp
                  clear y00 y01 yf0
                  refine named_store2 P8.out ?_
                  intro Ws13 hbk hgr hsz
                  have hsz4 := hid hsz
                  clear hsz
                  replace P7 := hid (P7.out.grown hgr (fun e => P7.out.ne P8.out tneA (by simpa using e)))
                  replace HM2 := hid (mown_kept HM2.out P8.out tne3 tne4 hgr)
                  replace HBQ := hid (HBQ.out.grown hgr HBQ.out.size (fun r e => by cases e; have := hszd.out; have := hsz0.out; have := hsz1.out; have := hsz2.out; have := hsz3.out; have := hsz4.out; omega))
                  replace P8 := hid hbk
                  clear hbk hgr
                  refine hK.out _ _ ⟨(HP.out.step HBQ.out).cells4.1, (HP.out.step HBQ.out).cells4.2.1, (HP.out.step HBQ.out).cells4.2.2.1, (HP.out.step HBQ.out).cells4.2.2.2.1, (PA.out.step HBQ.out).cells4.1, (PA.out.step HBQ.out).cells4.2.1, (PA.out.step HBQ.out).cells4.2.2.1, (PA.out.step HBQ.out).cells4.2.2.2.1⟩ (fun hS' => ?_)
                  clear hK K hS
                  have hS := hS'
                  clear hS'
                  (try simp only [Act.put, List.setIfInBounds_toArray, List.set_cons_zero, List.set_cons_succ])
                  refine wpAnyH_take (i := 14) (v := ?_) (by simp only [List.getElem?_toArray, List.getElem?_cons_succ, List.getElem?_cons_zero]; rfl) (by kernel_rfl) (by kernel_rfl) (by kernel_rfl) (fun _ _ _ h => h) (Or.inl ⟨by rfl, ?_⟩) hS ?_
                  rotate_left
                  · intro w' hSw; (try dsimp only at hSw); go_split_ands; go_simp; (try with_reducible rfl)
                  (try simp only [Act.put, List.setIfInBounds_toArray, List.set_cons_zero, List.set_cons_succ])
                  refine wpAnyH_done (by kernel_rfl) ?_ _
                  refine NoPanic.normal ?_
                  clear hS
                  go_wp2_with fail
                  go_meet
                  exact ⟨_, _, _, _, _, _, _, _, rfl, rfl, rfl, P7.out, P8.out, HM2.out, HBQ.out⟩
                exact AllReadyH.nil
              exact AllReadyH.nil
            exact AllReadyH.nil
          refine AllReadyH.cons (by simp only [List.getElem?_toArray, List.getElem?_cons_succ, List.getElem?_cons_zero]; rfl) (fun K hK => ?_) ?_
          · skip
            go_simp
            refine named_alloc ?_
            intro Wa11 hbk hb hsz
            have hsz1 := hid hsz
            replace P7 := hid (P7.out.step hb); replace HBQ := hid (below_then HBQ.out hb)
            have P8 := hid hbk
            clear hb hbk hsz
            refine hK.out _ _ ⟨(HP.out.step HBQ.out).cells4.1, (HP.out.step HBQ.out).cells4.2.1, (HP.out.step HBQ.out).cells4.2.2.1, (HP.out.step HBQ.out).cells4.2.2.2.1, (PA.out.step HBQ.out).cells4.1, (PA.out.step HBQ.out).cells4.2.1, (PA.out.step HBQ.out).cells4.2.2.1, (PA.out.step HBQ.out).cells4.2.2.2.1⟩ (fun hS' => ?_)
            clear hK K hS
            have hS := hS'
            clear hS'
            (try simp only [Act.put, List.setIfInBounds_toArray, List.set_cons_zero, List.set_cons_succ])
            refine wpAnyH_ready (rs := [5]) (by kernel_rfl) (by simp) ?_
            refine AllReadyH.cons (by simp only [List.getElem?_toArray, List.getElem?_cons_succ, List.getElem?_cons_zero]; rfl) (fun K hK => ?_) ?_
            · skip
              go_simp
              refine (mstep_any A n c B k d f nk na no nn ws ls _ (HM.out.step HBQ.out).mem).mono ?_
              rintro e w6 ⟨A2, n2, c2, B2, k2, d2, rfl, ho, hb⟩
              have hsz2 := hid (show Wa11.heap.size ≤ w6.heap.size from hb.size)
              replace P7 := hid (P7.out.step hb); replace P8 := hid (P8.out.step hb); replace HBQ := hid (below_then HBQ.out hb)
              clear hb
              rw [HAC.out] at ho ⊢
              dsimp only at ho ⊢
              have HM2 := hid (ho.mono (show W5.heap.size ≤ _ by have := hszd.out; have := hsz0.out; have := hsz1.out; omega))
              clear ho
              go_wp2_with fail
              refine hK.out _ _ ⟨(HP.out.step HBQ.out).cells4.1, (HP.out.step HBQ.out).cells4.2.1, (HP.out.step HBQ.out).cells4.2.2.1, (HP.out.step HBQ.out).cells4.2.2.2.1, (PA.out.step HBQ.out).cells4.1, (PA.out.step HBQ.out).cells4.2.1, (PA.out.step HBQ.out).cells4.2.2.1, (PA.out.step HBQ.out).cells4.2.2.2.1⟩ (fun hS' => ?_)
              clear hK K hS
              have hS := hS'
              clear hS'
              (try simp only [Act.put, List.setIfInBounds_toArray, List.set_cons_zero, List.set_cons_succ])
              refine wpAnyH_take (i := 6) (v := ?_) (by simp only [List.getElem?_toArray, List.getElem?_cons_succ, List.getElem?_cons_zero]; rfl) (by kernel_rfl) (by kernel_rfl) (by kernel_rfl) (fun _ _ _ h => h) (Or.inl ⟨by rfl, ?_⟩) hS ?_
              rotate_left
              · intro w' hSw; (try dsimp only at hSw); go_split_ands; go_simp; (try with_reducible rfl)
              (try simp only [Act.put, List.setIfInBounds_toArray, List.set_cons_zero, List.set_cons_succ])
              refine wpAnyH_take (i := 7) (v := ?_) (by simp only [List.getElem?_toArray, List.getElem?_cons_succ, List.getElem?_cons_zero]; rfl) (by kernel_rfl) (by kernel_rfl) (by kernel_rfl) (fun _ _ _ h => h) (Or.inl ⟨by rfl, ?_⟩) hS ?_
              rotate_left
              · intro w' hSw; (try dsimp only at hSw); go_split_ands; go_simp; (try with_reducible rfl)
              (try simp only [Act.put, List.setIfInBounds_toArray, List.set_cons_zero, List.set_cons_succ])
              refine wpAnyH_take (i := 8) (v := ?_) (by simp only [List.getElem?_toArray, List.getElem?_cons_succ, List.getElem?_cons_zero]; rfl) (by kernel_rfl) (by kernel_rfl) (by kernel_rfl) (fun _ _ _ h => h) (Or.inl ⟨by rfl, ?_⟩) hS ?_
              rotate_left
              · intro w' hSw; (try dsimp only at hSw); go_split_ands; go_simp; (try with_reducible rfl)
              (try simp only [Act.put, List.setIfInBounds_toArray, List.set_cons_zero, List.set_cons_succ])
              refine wpAnyH_take (i := 9) (v := ?_) (by simp only [List.getElem?_toArray, List.getElem?_cons_succ, List.getElem?_cons_zero]; rfl) (by kernel_rfl) (by kernel_rfl) (by kernel_rfl) (fun _ _ _ h => h) (Or.inl ⟨by rfl, ?_⟩) hS ?_
              rotate_left
              · intro w' hSw; (try dsimp only at hSw); go_split_ands; go_simp; (try with_reducible rfl)
              (try simp only [Act.put, List.setIfInBounds_toArray, List.set_cons_zero, List.set_cons_succ])
              refine wpAnyH_ready (rs := [12]) (by kernel_rfl) (by simp) ?_
              refine AllReadyH.cons (by simp only [List.getElem?_toArray, List.getElem?_cons_succ, List.getElem?_cons_zero]; rfl) (fun K hK => ?_) ?_
              · skip
                obtain ⟨y00, y01, y02, yf0⟩ := P7.out.cells3
                go_simp
                clear y00 y01 y02 yf0
                refine named_store3 P7.out ?_
                intro Ws12 hbk hgr hsz
                have hsz3 := hid hsz
                clear hsz
                replace P8 := hid (P8.out.grown hgr (fun e => P7.out.ne P8.out tneA (by simpa using e.symm)))
                replace HM2 := hid (mown_kept HM2.out P7.out tne1 tne2 hgr)
                replace HBQ := hid (HBQ.out.grown hgr HBQ.out.size (fun r e => by cases e; have := hszd.out; have := hsz0.out; have := hsz1.out; have := hsz2.out; have := hsz3.out; omega))
                replace P7 := hid hbk
                clear hbk hgr
                refine hK.out _ _ ⟨(HP.out.step HBQ.out).cells4.1, (HP.out.step HBQ.out).cells4.2.1, (HP.out.step HBQ.out).cells4.2.2.1, (HP.out.step HBQ.out).cells4.2.2.2.1, (PA.out.step HBQ.out).cells4.1, (PA.out.step HBQ.out).cells4.2.1, (PA.out.step HBQ.out).cells4.2.2.1, (PA.out.step HBQ.out).cells4.2.2.2.1⟩ (fun hS' => ?_)
                clear hK K hS
                have hS := hS'
                clear hS'
                (try simp only [Act.put, List.setIfInBounds_toArray, List.set_cons_zero, List.set_cons_succ])
                refine wpAnyH_ready (rs := [13]) (by kernel_rfl) (by simp) ?_
                refine AllReadyH.cons (by simp only [List.getElem?_toArray, List.getElem?_cons_succ, List.getElem?_cons_zero]; rfl) (fun K hK => ?_) ?_
                · skip
                  obtain ⟨y00, y01, yf0⟩ := P8.out.cells2
                  go_simp
                  clear y00 y01 yf0
                  refine named_store2 P8.out ?_
                  intro Ws13 hbk hgr hsz
                  have hsz4 := hid hsz
                  clear hsz
                  replace P7 := hid (P7.out.grown hgr (fun e => P7.out.ne P8.out tneA (by simpa using e)))
                  replace HM2 := hid (mown_kept HM2.out P8.out tne3 tne4 hgr)
                  replace HBQ := hid (HBQ.out.grown hgr HBQ.out.size (fun r e => by cases e; have := hszd.out; have := hsz0.out; have := hsz1.out; have := hsz2.out; have := hsz3.out; have := hsz4.out; omega))
                  replace P8 := hid hbk
                  clear hbk hgr
                  refine hK.out _ _ ⟨(HP.out.step HBQ.out).cells4.1, (HP.out.step HBQ.out).cells4.2.1, (HP.out.step HBQ.out).cells4.2.2.1, (HP.out.step HBQ.out).cells4.2.2.2.1, (PA.out.step HBQ.out).cells4.1, (PA.out.step HBQ.out).cells4.2.1, (PA.out.step HBQ.out).cells4.2.2.1, (PA.out.step HBQ.out).cells4.2.2.2.1⟩ (fun hS' => ?_)
                  clear hK K hS
                  have hS := hS'
                  clear hS'
                  (try simp only [Act.put, List.setIfInBounds_toArray, List.set_cons_zero, List.set_cons_succ])
                  refine wpAnyH_take (i := 14) (v := ?_) (by simp only [List.getElem?_toArray, List.getElem?_cons_succ, List.getElem?_cons_zero]; rfl) (by kernel_rfl) (by kernel_rfl) (by kernel_rfl) (fun _ _ _ h => h) (Or.inl ⟨by rfl, ?_⟩) hS ?_
                  rotate_left
                  · intro w' hSw; (try dsimp only at hSw); go_split_ands; go_simp; (try with_reducible rfl)
                  (try simp only [Act.put, List.setIfInBounds_toArray, List.set_cons_zero, List.set_cons_succ])
                  refine wpAnyH_done (by kernel_rfl) ?_ _
                  refine NoPanic.normal ?_
                  clear hS
                  go_wp2_with fail
                  go_meet
                  exact ⟨_, _, _, _, _, _, _, _, rfl, rfl, rfl, P7.out, P8.out, HM2.out, HBQ.out⟩
                exact AllReadyH.nil
              exact AllReadyH.nil
            exact AllReadyH.nil
          exact AllReadyH.nil
        refine AllReadyH.cons (by simp only [List.getElem?_toArray, List.getElem?_cons_succ, List.getElem?_cons_zero]; rfl) (fun K hK => ?_) ?_
        · skip
          go_simp
          refine named_alloc ?_
          intro Wa11 hbk hb hsz
          have hsz0 := hid hsz
          replace HBQ := hid (below_then HBQ.out hb)
          have P8 := hid hbk
          clear hb hbk hsz
          refine hK.out _ _ ⟨(HP.out.step HBQ.out).cells4.1, (HP.out.step HBQ.out).cells4.2.1, (HP.out.step HBQ.out).cells4.2.2.1, (HP.out.step HBQ.out).cells4.2.2.2.1, (PA.out.step HBQ.out).cells4.1, (PA.out.step HBQ.out).cells4.2.1, (PA.out.step HBQ.out).cells4.2.2.1, (PA.out.step HBQ.out).cells4.2.2.2.1⟩ (fun hS' => ?_)
          clear hK K hS
          have hS := hS'
          clear hS'
          (try simp only [Act.put, List.setIfInBounds_toArray, List.set_cons_zero, List.set_cons_succ])
          refine wpAnyH_ready (rs := [5, 10]) (by kernel_rfl) (by simp) ?_
          refine AllReadyH.cons (by simp only [List.getElem?_toArray, List.getElem?_cons_succ, List.getElem?_cons_zero]; rfl) (fun K hK => ?_) ?_
          · skip
            go_simp
            refine (mstep_any A n c B k d f nk na no nn ws ls _ (HM.out.step HBQ.out).mem).mono ?_
            rintro e w6 ⟨A2, n2, c2, B2, k2, d2, rfl, ho, hb⟩
            have hsz1 := hid (show Wa11.heap.size ≤ w6.heap.size from hb.size)
            replace P8 := hid (P8.out.step hb); replace HBQ := hid (below_then HBQ.out hb)
            clear hb
            rw [HAC.out] at ho ⊢
            dsimp only at ho ⊢
            have HM2 := hid (ho.mono (show W5.heap.size ≤ _ by have := hszd.out; have := hsz0.out; omega))
            clear ho
            go_wp2_with fail
            refine hK.out _ _ ⟨(HP.out.step HBQ.out).cells4.1, (HP.out.step HBQ.out).cells4.2.1, (HP.out.step HBQ.out).cells4.2.2.1, (HP.out.step HBQ.out).cells4.2.2.2.1, (PA.out.step HBQ.out).cells4.1, (PA.out.step HBQ.out).cells4.2.1, (PA.out.step HBQ.out).cells4.2.2.1, (PA.out.step HBQ.out).cells4.2.2.2.1⟩ (fun hS' => ?_)
            clear hK K hS
            have hS := hS'
            clear hS'
            (try simp only [Act.put, List.setIfInBounds_toArray, List.set_cons_zero, List.set_cons_succ])
            refine wpAnyH_take (i := 6) (v := ?_) (by simp only [List.getElem?_toArray, List.getElem?_cons_succ, List.getElem?_cons_zero]; rfl) (by kernel_rfl) (by kernel_rfl) (by kernel_rfl) (fun _ _ _ h => h) (Or.inl ⟨by rfl, ?_⟩) hS ?_
            rotate_left
            · intro w' hSw; (try dsimp only at hSw); go_split_ands; go_simp; (try with_reducible rfl)
            (try simp only [Act.put, List.setIfInBounds_toArray, List.set_cons_zero, List.set_cons_succ])
            refine wpAnyH_take (i := 7) (v := ?_) (by simp only [List.getElem?_toArray, List.getElem?_cons_succ, List.getElem?_cons_zero]; rfl) (by kernel_rfl) (by kernel_rfl) (by kernel_rfl) (fun _ _ _ h => h) (Or.inl ⟨by rfl, ?_⟩) hS ?_
            rotate_left
            · intro w' hSw; (try dsimp only at hSw); go_split_ands; go_simp; (try with_reducible rfl)
            (try simp only [Act.put, List.setIfInBounds_toArray, List.set_cons_zero, List.set_cons_succ])
            refine wpAnyH_take (i := 8) (v := ?_) (by simp only [List.getElem?_toArray, List.getElem?_cons_succ, List.getElem?_cons_zero]; rfl) (by kernel_rfl) (by kernel_rfl) (by kernel_rfl) (fun _ _ _ h => h) (Or.inl ⟨by rfl, ?_⟩) hS ?_
            rotate_left
            · intro w' hSw; (try dsimp only at hSw); go_split_ands; go_simp; (try with_reducible rfl)
            (try simp only [Act.put, List.setIfInBounds_toArray, List.set_cons_zero, List.set_cons_succ])
            refine wpAnyH_take (i := 9) (v := ?_) (by simp only [List.getElem?_toArray, List.getElem?_cons_succ, List.getElem?_cons_zero]; rfl) (by kernel_rfl) (by kernel_rfl) (by kernel_rfl) (fun _ _ _ h => h) (Or.inl ⟨by rfl, ?_⟩) hS ?_
            rotate_left
            · intro w' hSw; (try dsimp only at hSw); go_split_ands; go_simp; (try with_reducible rfl)
            (try simp only [Act.put, List.setIfInBounds_toArray, List.set_cons_zero, List.set_cons_succ])
            refine wpAnyH_ready (rs := [10]) (by kernel_rfl) (by simp) ?_
            refine AllReadyH.cons (by simp only [List.getElem?_toArray, List.getElem?_cons_succ, List.getElem?_cons_zero]; rfl) (fun K hK => ?_) ?_
            · skip
              go_simp
              refine named_alloc ?_
              intro Wa10 hbk hb hsz
              have hsz2 := hid hsz
              replace P8 := hid (P8.out.step hb); replace HM2 := hid (HM2.out.step hb); replace HBQ := hid (below_then HBQ.out hb)
              have P7 := hid hbk
              clear hb hbk hsz
              refine hK.out _ _ ⟨(HP.out.step HBQ.out).cells4.1, (HP.out.step HBQ.out).cells4.2.1, (HP.out.step HBQ.out).cells4.2.2.1, (HP.out.step HBQ.out).cells4.2.2.2.1, (PA.out.step HBQ.out).cells4.1, (PA.out.step HBQ.out).cells4.2.1, (PA.out.step HBQ.out).cells4.2.2.1, (PA.out.step HBQ.out).cells4.2.2.2.1⟩ (fun hS' => ?_)
              clear hK K hS
              have hS := hS'
              clear hS'
              (try simp only [Act.put, List.setIfInBounds_toArray, List.set_cons_zero, List.set_cons_succ])
              refine wpAnyH_ready (rs := [12]) (by kernel_rfl) (by simp) ?_
              refine AllReadyH.cons (by simp only [List.getElem?_toArray, List.getElem?_cons_succ, List.getElem?_cons_zero]; rfl) (fun K hK => ?_) ?_
              · skip
                obtain ⟨y00, y01, y02, yf0⟩ := P7.out.cells3
                go_simp
                clear y00 y01 y02 yf0
                refine named_store3 P7.out ?_
                intro Ws12 hbk hgr hsz
                have hsz3 := hid hsz
                clear hsz
                replace P8 := hid (P8.out.grown hgr (fun e => P7.out.ne P8.out tneA (by simpa using e.symm)))
                replace HM2 := hid (mown_kept HM2.out P7.out tne1 tne2 hgr)
                replace HBQ := hid (HBQ.out.grown hgr HBQ.out.size (fun r e => by cases e; have := hszd.out; have := hsz0.out; have := hsz1.out; have := hsz2.out; have := hsz3.out; omega))
                replace P7 := hid hbk
                clear hbk hgr
                refine hK.out _ _ ⟨(HP.out.step HBQ.out).cells4.1, (HP.out.step HBQ.out).cells4.2.1, (HP.out.step HBQ.out).cells4.2.2.1, (HP.out.step HBQ.out).cells4.2.2.2.1, (PA.out.step HBQ.out).cells4.1, (PA.out.step HBQ.out).cells4.2.1, (PA.out.step HBQ.out).cells4.2.2.1, (PA.out.step HBQ.out).cells4.2.2.2.1⟩ (fun hS' => ?_)
                clear hK K hS
                have hS := hS'
                clear hS'
                (try simp only [Act.put, List.setIfInBounds_toArray, List.set_cons_zero, List.set_cons_succ])
                refine wpAnyH_ready (rs := [13]) (by kernel_rfl) (by simp) ?_
                refine AllReadyH.cons (by simp only [List.getElem?_toArray, List.getElem?_cons_succ, List.getElem?_cons_zero]; rfl) (fun K hK => ?_) ?_
                · skip
                  obtain ⟨y00, y01, yf0⟩ := P8.out.cells2
                  go_simp
                  clear y00 y01 yf0
                  refine named_store2 P8.out ?_
                  intro Ws13 hbk hgr hsz
                  have hsz4 := hid hsz
                  clear hsz
                  replace P7 := hid (P7.out.grown hgr (fun e => P7.out.ne P8.out tneA (by simpa using e)))
                  replace HM2 := hid (mown_kept HM2.out P8.out tne3 tne4 hgr)
                  replace HBQ := hid (HBQ.out.grown hgr HBQ.out.size (fun r e => by cases e; have := hszd.out; have := hsz0.out; have := hsz1.out; have := hsz2.out; have := hsz3.out; have := hsz4.out; omega))
                  replace P8 := hid hbk
                  clear hbk hgr
                  refine hK.out _ _ ⟨(HP.out.step HBQ.out).cells4.1, (HP.out.step HBQ.out).cells4.2.1, (HP.out.step HBQ.out).cells4.2.2.1, (HP.out.step HBQ.out).cells4.2.2.2.1, (PA.out.step HBQ.out).cells4.1, (PA.out.step HBQ.out).cells4.2.1, (PA.out.step HBQ.out).cells4.2.2.1, (PA.out.step HBQ.out).cells4.2.2.2.1⟩ (fun hS' => ?_)
                  clear hK K hS
                  have hS := hS'
                  clear hS'
                  (try simp only [Act.put, List.setIfInBounds_toArray, List.set_cons_zero, List.set_cons_succ])
                  refine wpAnyH_take (i := 14) (v := ?_) (by simp only [List.getElem?_toArray, List.getElem?_cons_succ, List.getElem?_cons_zero]; rfl) (by kernel_rfl) (by kernel_rfl) (by kernel_rfl) (fun _ _ _ h => h) (Or.inl ⟨by rfl, ?_⟩) hS ?_
                  rotate_left
                  · intro w' hSw; (try dsimp only at hSw); go_split_ands; go_simp; (try with_reducible rfl)
                  (try simp only [Act.put, List.setIfInBounds_toArray, List.set_cons_zero, List.set_cons_succ])
                  refine wpAnyH_done (by kernel_rfl) ?_ _
                  refine NoPanic.normal ?_
                  clear hS
                  go_wp2_with fail
                  go_meet
                  exact ⟨_, _, _, _, _, _, _, _, rfl, rfl, rfl, P7.out, P8.out, HM2.out, HBQ.out⟩
                exact AllReadyH.nil
              exact AllReadyH.nil
            exact AllReadyH.nil
          refine AllReadyH.cons (by simp only [List.getElem?_toArray, List.getElem?_cons_succ, List.getElem?_cons_zero]; rfl) (fun K hK => ?_) ?_
          · skip
            go_simp
            refine named_alloc ?_
            intro Wa10 hbk hb hsz
            have hsz1 := hid hsz
            replace P8 := hid (P8.out.step hb); replace HBQ := hid (below_then HBQ.out hb)
            have P7 := hid hbk
            clear hb hbk hsz
            refine hK.out _ _ ⟨(HP.out.step HBQ.out).cells4.1, (HP.out.step HBQ.out).cells4.2.1, (HP.out.step HBQ.out).cells4.2.2.1, (HP.out.step HBQ.out).cells4.2.2.2.1, (PA.out.step HBQ.out).cells4.1, (PA.out.step HBQ.out).cells4.2.1, (PA.out.step HBQ.out).cells4.2.2.1, (PA.out.step HBQ.out).cells4.2.2.2.1⟩ (fun hS' => ?_)
            clear hK K hS
            have hS := hS'
            clear hS'
            (try simp only [Act.put, List.setIfInBounds_toArray, List.set_cons_zero, List.set_cons_succ])
            refine wpAnyH_ready (rs := [5]) (by kernel_rfl) (by simp) ?_
            refine AllReadyH.cons (by simp only [List.getElem?_toArray, List.getElem?_cons_succ, List.getElem?_cons_zero]; rfl) (fun K hK => ?_) ?_
            · skip
              go_simp
              refine (mstep_any A n c B k d f nk na no nn ws ls _ (HM.out.step HBQ.out).mem).mono ?_
              rintro e w6 ⟨A2, n2, c2, B2, k2, d2, rfl, ho, hb⟩
              have hsz2 := hid (show Wa10.heap.size ≤ w6.heap.size from hb.size)
              replace P8 := hid (P8.out.step hb); replace P7 := hid (P7.out.step hb); replace HBQ := hid (below_then HBQ.out hb)
              clear hb
              rw [HAC.out] at ho ⊢
              dsimp only at ho ⊢
              have HM2 := hid (ho.mono (show W5.heap.size ≤ _ by have := hszd.out; have := hsz0.out; have := hsz1.out; omega))
              clear ho
              go_wp2_with fail
              refine hK.out _ _ ⟨(HP.out.step HBQ.out).cells4.1, (HP.out.step HBQ.out).cells4.2.1, (HP.out.step HBQ.out).cells4.2.2.1, (HP.out.step HBQ.out).cells4.2.2.2.1, (PA.out.step HBQ.out).cells4.1, (PA.out.step HBQ.out).cells4.2.1, (PA.out.step HBQ.out).cells4.2.2.1, (PA.out.step HBQ.out).cells4.2.2.2.1⟩ (fun hS' => ?_)
              clear hK K hS
              have hS := hS'
              clear hS'
              (try simp only [Act.put, List.setIfInBounds_toArray, List.set_cons_zero, List.set_cons_succ])
              refine wpAnyH_take (i := 6) (v := ?_) (by simp only [List.getElem?_toArray, List.getElem?_cons_succ, List.getElem?_cons_zero]; rfl) (by kernel_rfl) (by kernel_rfl) (by kernel_rfl) (fun _ _ _ h => h) (Or.inl ⟨by rfl, ?_⟩) hS ?_
              rotate_left
              · intro w' hSw; (try dsimp only at hSw); go_split_ands; go_simp; (try with_reducible rfl)
              (try simp only [Act.put, List.setIfInBounds_toArray, List.set_cons_zero, List.set_cons_succ])
              refine wpAnyH_take (i := 7) (v := ?_) (by simp only [List.getElem?_toArray, List.getElem?_cons_succ, List.getElem?_cons_zero]; rfl) (by kernel_rfl) (by kernel_rfl) (by kernel_rfl) (fun _ _ _ h => h) (Or.inl ⟨by rfl, ?_⟩) hS ?_
              rotate_left
              · intro w' hSw; (try dsimp only at hSw); go_split_ands; go_simp; (try with_reducible rfl)
              (try simp only [Act.put, List.setIfInBounds_toArray, List.set_cons_zero, List.set_cons_succ])
              refine wpAnyH_take (i := 8) (v := ?_) (by simp only [List.getElem?_toArray, List.getElem?_cons_succ, List.getElem?_cons_zero]; rfl) (by kernel_rfl) (by kernel_rfl) (by kernel_rfl) (fun _ _ _ h => h) (Or.inl ⟨by rfl, ?_⟩) hS ?_
              rotate_left
              · intro w' hSw; (try dsimp only at hSw); go_split_ands; go_simp; (try with_reducible rfl)
              (try simp only [Act.put, List.setIfInBounds_toArray, List.set_cons_zero, List.set_cons_succ])
              refine wpAnyH_take (i := 9) (v := ?_) (by simp only [List.getElem?_toArray, List.getElem?_cons_succ, List.getElem?_cons_zero]; rfl) (by kernel_rfl) (by kernel_rfl) (by kernel_rfl) (fun _ _ _ h => h) (Or.inl ⟨by rfl, ?_⟩) hS ?_
              rotate_left
              · intro w' hSw; (try dsimp only at hSw); go_split_ands; go_simp; (try with_reducible rfl)
              (try simp only [Act.put, List.setIfInBounds_toArray, List.set_cons_zero, List.set_cons_succ])
              refine wpAnyH_ready (rs := [12]) (by kernel_rfl) (by simp) ?_
              refine AllReadyH.cons (by simp only [List.getElem?_toArray, List.getElem?_cons_succ, List.getElem?_cons_zero]; rfl) (fun K hK => ?_) ?_
              · skip
                obtain ⟨y00, y01, y02, yf0⟩ := P7.out.cells3
                go_simp
                clear y00 y01 y02 yf0
                refine named_store3 P7.out ?_
                intro Ws12 hbk hgr hsz
                have hsz3 := hid hsz
                clear hsz
                replace P8 := hid (P8.out.grown hgr (fun e => P7.out.ne P8.out tneA (by simpa using e.symm)))
                replace HM2 := hid (mown_kept HM2.out P7.out tne1 tne2 hgr)
                replace HBQ := hid (HBQ.out.grown hgr HBQ.out.size (fun r e => by cases e; have := hszd.out; have := hsz0.out; have := hsz1.out; have := hsz2.out; have := hsz3.out; omega))
                replace P7 := hid hbk
                clear hbk hgr
                refine hK.out _ _ ⟨(HP.out.step HBQ.out).cells4.1, (HP.out.step HBQ.out).cells4.2.1, (HP.out.step HBQ.out).cells4.2.2.1, (HP.out.step HBQ.out).cells4.2.2.2.1, (PA.out.step HBQ.out).cells4.1, (PA.out.step HBQ.out).cells4.2.1, (PA.out.step HBQ.out).cells4.2.2.1, (PA.out.step HBQ.out).cells4.2.2.2.1⟩ (fun hS' => ?_)
                clear hK K hS
                have hS := hS'
                clear hS'
                (try simp only [Act.put, List.setIfInBounds_toArray, List.set_cons_zero, List.set_cons_succ])
                refine wpAnyH_ready (rs := [13]) (by kernel_rfl) (by simp) ?_
                refine AllReadyH.cons (by simp only [List.getElem?_toArray, List.getElem?_cons_succ, List.getElem?_cons_zero]; rfl) (fun K hK => ?_) ?_
                · skip
                  obtain ⟨y00, y01, yf0⟩ := P8.out.cells2
                  go_simp
                  clear y00 y01 yf0
                  refine named_store2 P8.out ?_
                  intro Ws13 hbk hgr hsz
                  have hsz4 := hid hsz
                  clear hsz
                  replace P7 := hid (P7.out.grown hgr (fun e => P7.out.ne P8.out tneA (by simpa using e)))
                  replace HM2 := hid (mown_kept HM2.out P8.out tne3 tne4 hgr)
                  replace HBQ := hid (HBQ.out.grown hgr HBQ.out.size (fun r e => by cases e; have := hszd.out; have := hsz0.out; have := hsz1.out; have := hsz2.out; have := hsz3.out; have := hsz4.out; omega))
                  replace P8 := hid hbk
                  clear hbk hgr
                  refine hK.out _ _ ⟨(HP.out.step HBQ.out).cells4.1, (HP.out.step HBQ.out).cells4.2.1, (HP.out.step HBQ.out).cells4.2.2.1, (HP.out.step HBQ.out).cells4.2.2.2.1, (PA.out.step HBQ.out).cells4.1, (PA.out.step HBQ.out).cells4.2.1, (PA.out.step HBQ.out).cells4.2.2.1, (PA.out.step HBQ.out).cells4.2.2.2.1⟩ (fun hS' => ?_)
                  clear hK K hS
                  have hS := hS'
                  clear hS'
                  (try simp only [Act.put, List.setIfInBounds_toArray, List.set_cons_zero, List.set_cons_succ])
                  refine wpAnyH_take (i := 14) (v := ?_) (by simp only [List.getElem?_toArray, List.getElem?_cons_succ, List.getElem?_cons_zero]; rfl) (by kernel_rfl) (by kernel_rfl) (by kernel_rfl) (fun _ _ _ h => h) (Or.inl ⟨by rfl, ?_⟩) hS ?_
                  rotate_left
                  · intro w' hSw; (try dsimp only at hSw); go_split_ands; go_simp; (try with_reducible rfl)
                  (try simp only [Act.put, List.setIfInBounds_toArray, List.set_cons_zero, List.set_cons_succ])
                  refine wpAnyH_done (by kernel_rfl) ?_ _
                  refine NoPanic.normal ?_
                  clear hS
                  go_wp2_with fail
                  go_meet
                  exact ⟨_, _, _, _, _, _, _, _, rfl, rfl, rfl, P7.out, P8.out, HM2.out, HBQ.out⟩
                exact AllReadyH.nil
              exact AllReadyH.nil
            exact AllReadyH.nil
          exact AllReadyH.nil
        exact AllReadyH.nil
      case rest =>
        obtain ⟨g7, g8, A2, n2, c2, B2, k2, d2, rfl, rfl, rfl, hmid⟩ := hcut
        rename World => W6
        have HMID := hid hmid; have hb := hmid.be
        clear hmid
        replace HP := hid (HP.out.step hb); replace HM := hid (HM.out.step hb); replace HL := hid (HL.out.step hb); replace PS := hid (PS.out.step hb); replace HB := hid (below_then HB.out hb)
        clear hb
        have B7 := hid HMID.out.b7; have B8 := hid HMID.out.b8; have O2 := hid HMID.out.own; have HGP := hid (GrownP.ofBelow (p := plp P (some ⟨g, 0, none⟩)) HB.out)
        have hsz6 := hid (show w.heap.size ≤ W6.heap.size from HB.out.size)
        obtain ⟨y00, y01, y02, y03, yf0⟩ := HP.out.cells4
        obtain ⟨y10, y11, y12, yf1⟩ := B7.out.cells3
        go_upto_region 8 with fail
        clear y00 y01 y02 y03 yf0 y10 y11 y12 yf1
        refine named_store34 HP.out ?_
        intro W7 hbk hgr hsz
        have hsz7 := hid hsz
        replace PS := hid (PS.out.grown hgr (fun e => by have := H0.out.lt; simp at e; omega))
        replace HL := hid (HL.out.keptG hgr (fun a ha e => by cases ha; exact HNE.out (by simpa using e)))
        replace B8 := hid (B8.out.grown hgr (fun e => B8.out.ne HP.out tneB (by simpa using e)))
        replace O2 := hid (mown_kept O2.out HP.out tne5 tne6 hgr)
        replace HGP := hid (HGP.out.trans (GrownP.ofGrown hgr (.inl rfl)))
        replace HP := hid hbk
        clear hbk hgr hsz HM B7 HB
        obtain ⟨⟨ta, tp, tt⟩, htk⟩ : ∃ s, s = spTake (a, p2, t) (gx, gy) := ⟨_, rfl⟩
        have HTE := hid (show spTakeF (a, p2, t) (gx, gy) = ((ta, tp, tt), 0) from (spTakeF_ok HS2.out HH.out).trans (by rw [← htk]))
        have HTK := hid htk
        clear htk
        have XGP := HGP; have HW7 := hid (Below.refl W7.heap.size W7)
        have bx := (Below.refl W7.heap.size W7).drew
        replace HP := hid (HP.out.step bx); replace PS := hid (PS.out.step bx); replace B8 := hid (B8.out.step bx); replace HL := hid (HL.out.step bx); replace O2 := hid (O2.out.step bx); replace HW7 := hid (below_then HW7.out bx)
        clear bx
        have hszd := hid (show W7.drew.heap.size = W7.heap.size from rfl)
        refine wp_region_noPanic ?_
        refine wp_region_held_drew (S := (fun W' : World => W'.cell? ⟨P, 0, none⟩ = some (.slice A2 n2 c2) ∧ W'.cell? ⟨P, 1, none⟩ = some (.slice B2 k2 d2) ∧ W'.cell? ⟨P, 2, none⟩ = some (.bool f2) ∧ W'.cell? ⟨P, 3, none⟩ = some (.slice (some ⟨g, 0, none⟩) nl cl) ∧ W'.cell? ⟨w.heap.size, 0, none⟩ = some (.int .i64 a) ∧ W'.cell? ⟨w.heap.size, 1, none⟩ = some (.int .i64 p2) ∧ W'.cell? ⟨w.heap.size, 2, none⟩ = some (.int .u64 t) ∧ W'.cell? ⟨g8, 0, none⟩ = some (.int .u64 gx) ∧ W'.cell? ⟨g8, 1, none⟩ = some (.bool gy))) (by kernel_rfl) ⟨HP.out.cells4.1, HP.out.cells4.2.1, HP.out.cells4.2.2.1, HP.out.cells4.2.2.2.1, PS.out.cells3.1, PS.out.cells3.2.1, PS.out.cells3.2.2.1, B8.out.cells2.1, B8.out.cells2.2.1⟩ (fun hS => ?_)
        generalize W7.drew = Wd at *
        refine wpAnyH_take (i := 0) (v := ?_) (by simp only [List.getElem?_toArray, List.getElem?_cons_succ, List.getElem?_cons_zero]; rfl) (by kernel_rfl) (by kernel_rfl) (by kernel_rfl) (fun _ _ _ h => h) (Or.inl ⟨by rfl, ?_⟩) hS ?_
        rotate_left
        · intro w' hSw; (try dsimp only at hSw); go_split_ands; go_simp; (try with_reducible rfl)
        (try simp only [Act.put, List.setIfInBounds_toArray, List.set_cons_zero, List.set_cons_succ])
        refine wpAnyH_take (i := 1) (v := ?_) (by simp only [List.getElem?_toArray, List.getElem?_cons_succ, List.getElem?_cons_zero]; rfl) (by kernel_rfl) (by kernel_rfl) (by kernel_rfl) (fun _ _ _ h => h) (Or.inl ⟨by rfl, ?_⟩) hS ?_
        rotate_left
        · intro w' hSw; (try dsimp only at hSw); go_split_ands; go_simp; (try with_reducible rfl)
        (try simp only [Act.put, List.setIfInBounds_toArray, List.set_cons_zero, List.set_cons_succ])
        refine wpAnyH_take (i := 2) (v := ?_) (by simp only [List.getElem?_toArray, List.getElem?_cons_succ, List.getElem?_cons_zero]; rfl) (by kernel_rfl) (by kernel_rfl) (by kernel_rfl) (fun _ _ _ h => h) (Or.inl ⟨by rfl, ?_⟩) hS ?_
        rotate_left
        · intro w' hSw; (try dsimp only at hSw); go_split_ands; go_simp; (try with_reducible rfl)
        (try simp only [Act.put, List.setIfInBounds_toArray, List.set_cons_zero, List.set_cons_succ])
        refine wpAnyH_take (i := 3) (v := ?_) (by simp only [List.getElem?_toArray, List.getElem?_cons_succ, List.getElem?_cons_zero]; rfl) (by kernel_rfl) (by kernel_rfl) (by kernel_rfl) (fun _ _ _ h => h) (Or.inl ⟨by rfl, ?_⟩) hS ?_
        rotate_left
        · intro w' hSw; (try dsimp only at hSw); go_split_ands; go_simp; (try with_reducible rfl)
        (try simp only [Act.put, List.setIfInBounds_toArray, List.set_cons_zero, List.set_cons_succ])
        refine wpAnyH_take (i := 4) (v := ?_) (by simp only [List.getElem?_toArray, List.getElem?_cons_succ, List.getElem?_cons_zero]; rfl) (by kernel_rfl) (by kernel_rfl) (by kernel_rfl) (fun _ _ _ h => h) (Or.inl ⟨by rfl, ?_⟩) hS ?_
        rotate_left
        · intro w' hSw; (try dsimp only at hSw); go_split_ands; go_simp; (try with_reducible rfl)
        (try simp only [Act.put, List.setIfInBounds_toArray, List.set_cons_zero, List.set_cons_succ])
        refine wpAnyH_take (i := 5) (v := ?_) (by simp only [List.getElem?_toArray, List.getElem?_cons_succ, List.getElem?_cons_zero]; rfl) (by kernel_rfl) (by kernel_rfl) (by kernel_rfl) (fun _ _ _ h => h) (Or.inl ⟨by rfl, ?_⟩) hS ?_
        rotate_left
        · intro w' hSw; (try dsimp only at hSw); go_split_ands; go_simp; (try with_reducible rfl)
        (try simp only [Act.put, List.setIfInBounds_toArray, List.set_cons_zero, List.set_cons_succ])
        refine wpAnyH_take (i := 6) (v := ?_) (by simp only [List.getElem?_toArray, List.getElem?_cons_succ, List.getElem?_cons_zero]; rfl) (by kernel_rfl) (by kernel_rfl) (by kernel_rfl) (fun _ _ _ h => h) (Or.inl ⟨by rfl, ?_⟩) hS ?_
        rotate_left
        · intro w' hSw; (try dsimp only at hSw); go_split_ands; go_simp; (try with_reducible rfl)
        (try simp only [Act.put, List.setIfInBounds_toArray, List.set_cons_zero, List.set_cons_succ])
        refine wpAnyH_ready (rs := [7]) (by kernel_rfl) (by simp) ?_
        refine AllReadyH.cons (by simp only [List.getElem?_toArray, List.getElem?_cons_succ, List.getElem?_cons_zero]; rfl) (fun K hK => ?_) ?_
        · skip
          go_simp
          refine (sptake_any a p2 t gx gy _).mono ?_
          rintro e w8 ⟨rfl, hb⟩
          have hsz0 := hid (show Wd.heap.size ≤ w8.heap.size from hb.size)
          replace HP := hid (HP.out.step hb); replace PS := hid (PS.out.step hb); replace B8 := hid (B8.out.step hb); replace HL := hid (HL.out.step hb); replace O2 := hid (O2.out.step hb); replace HW7 := hid (below_then HW7.out hb)
          clear hb
          rw [HTE.out]
          dsimp only
          replace HGP := hid (XGP.out.trans (GrownP.ofBelow HW7.out))
          go_wp2_with fail
          refine hK.out _ _ ⟨HP.out.cells4.1, HP.out.cells4.2.1, HP.out.cells4.2.2.1, HP.out.cells4.2.2.2.1, PS.out.cells3.1, PS.out.cells3.2.1, PS.out.cells3.2.2.1, B8.out.cells2.1, B8.out.cells2.2.1⟩ (fun hS' => ?_)
          clear hK K hS
          have hS := hS'
          clear hS'
          (try simp only [Act.put, List.setIfInBounds_toArray, List.set_cons_zero, List.set_cons_succ])
          refine wpAnyH_take (i := 8) (v := ?_) (by simp only [List.getElem?_toArray, List.getElem?_cons_succ, List.getElem?_cons_zero]; rfl) (by kernel_rfl) (by kernel_rfl) (by kernel_rfl) (fun _ _ _ h => h) (Or.inl ⟨by rfl, ?_⟩) hS ?_
          rotate_left
          · intro w' hSw; (try dsimp only at hSw); go_split_ands; go_simp; (try with_reducible rfl)
          (try simp only [Act.put, List.setIfInBounds_toArray, List.set_cons_zero, List.set_cons_succ])
          refine wpAnyH_take (i := 9) (v := ?_) (by simp only [List.getElem?_toArray, List.getElem?_cons_succ, List.getElem?_cons_zero]; rfl) (by kernel_rfl) (by kernel_rfl) (by kernel_rfl) (fun _ _ _ h => h) (Or.inl ⟨by rfl, ?_⟩) hS ?_
          rotate_left
          · intro w' hSw; (try dsimp only at hSw); go_split_ands; go_simp; (try with_reducible rfl)
          (try simp only [Act.put, List.setIfInBounds_toArray, List.set_cons_zero, List.set_cons_succ])
          refine wpAnyH_take (i := 10) (v := ?_) (by simp only [List.getElem?_toArray, List.getElem?_cons_succ, List.getElem?_cons_zero]; rfl) (by kernel_rfl) (by kernel_rfl) (by kernel_rfl) (fun _ _ _ h => h) (Or.inl ⟨by rfl, ?_⟩) hS ?_
          rotate_left
          · intro w' hSw; (try dsimp only at hSw); go_split_ands; go_simp; (try with_reducible rfl)
          (try simp only [Act.put, List.setIfInBounds_toArray, List.set_cons_zero, List.set_cons_succ])
          refine wpAnyH_take (i := 11) (v := ?_) (by simp only [List.getElem?_toArray, List.getElem?_cons_succ, List.getElem?_cons_zero]; rfl) (by kernel_rfl) (by kernel_rfl) (by kernel_rfl) (fun _ _ _ h => h) (Or.inl ⟨by rfl, ?_⟩) hS ?_
          rotate_left
          · intro w' hSw; (try dsimp only at hSw); go_split_ands; go_simp; (try with_reducible rfl)
          (try simp only [Act.put, List.setIfInBounds_toArray, List.set_cons_zero, List.set_cons_succ])
          refine wpAnyH_ready (rs := [12]) (by kernel_rfl) (by simp) ?_
          refine AllReadyH.cons (by simp only [List.getElem?_toArray, List.getElem?_cons_succ, List.getElem?_cons_zero]; rfl) (fun K hK => ?_) ?_
          · skip
            obtain ⟨g', hgq, _, _, hc, hfz⟩ := HL.out.at_ (0, 0, 0) hi
            obtain rfl : g = g' := by simpa using hgq
            clear hgq
            obtain ⟨v0, hv0⟩ : ∃ v, v = encS (l[i]?.getD (0, 0, 0)) 0 := ⟨_, rfl⟩
            have f0 := hc 0 (by omega); have f1 := hc 1 (by omega); have f2 := hc 2 (by omega)
            rw [Nat.add_zero] at f0
            clear hc
            go_simp
            clear f0 f1 f2 hfz hv0
            refine named_row3 (enc := encS) HL.out i (ta, tp, tt) hi ?_
            intro Wr hbk hgr hsz
            have hszr := hid hsz
            replace HP := hid (HP.out.grown hgr (fun e => HNE.out (by simpa using e.symm)))
            replace PS := hid (PS.out.grown hgr (fun e => by simp at e; omega))
            replace B8 := hid (B8.out.grown hgr (fun e => HL.out.ne_blk B8.out tneC _ rfl (by simpa using e.symm)))
            replace O2 := hid (mown_kept O2.out (HL.out.blk _ rfl).2.choose_spec tne8 tne9 hgr)
            replace HGP := hid (HGP.out.trans (GrownP.ofGrown hgr (.inr ⟨_, rfl, rfl⟩)))
            replace HL := hid hbk
            clear hbk hgr hsz
            refine hK.out _ _ ⟨HP.out.cells4.1, HP.out.cells4.2.1, HP.out.cells4.2.2.1, HP.out.cells4.2.2.2.1, PS.out.cells3.1, PS.out.cells3.2.1, PS.out.cells3.2.2.1, B8.out.cells2.1, B8.out.cells2.2.1⟩ (fun hS' => ?_)
            clear hK K hS
            have hS := hS'
            clear hS'
            (try simp only [Act.put, List.setIfInBounds_toArray, List.set_cons_zero, List.set_cons_succ])
            refine wpAnyH_done (by kernel_rfl) ?_ _
            refine NoPanic.normal ?_
            clear hS
            go_wp2_with fail
            refine bodyPost_ret (v := .tuple #[]) (by simp [results, Try.results45, go_sem]) rfl ⟨rfl, ?_, HGP.out⟩
            have hE : pstepF (ws, ls, f) l i = ((ws2, ls2, f2), l.set i (ta, tp, tt)) := by
              unfold pstepF
              rw [← HX.out, HU.out, if_pos HH.out, ← HN.out, ← HST.out, ← HTK.out]
            rw [hE]
            exact ⟨⟨A2, n2, c2, B2, k2, d2, HP.out, O2.out.mono hlo5.out⟩, HL.out, by have := hszd.out; have := hsz0.out; have := hszr.out; have := hsz6.out; have := hsz7.out; omega⟩
          exact AllReadyH.nil
        exact AllReadyH.nil
    · rw [show spNeedF (a, p2, t) = ((0, 0, 0, 0), false) from if_neg (fun h => hh h.2)]
      have HH := hid hh
      clear hh
      dsimp only
      have bx := below_box W3 (.cells (acs 0 0 0 0) 49)
      replace HP := hid (HP.out.step bx); replace HM := hid (HM.out.step bx); replace HL := hid (HL.out.step bx); replace HB := hid (below_then HB.out bx)
      clear bx
      have PA := hid (Blk.new W3 49 (acs 0 0 0 0))
      go_wp2
      refine bodyPost_ret (v := .tuple #[]) (by simp [results, Try.results45, go_sem]) rfl ⟨rfl, ?_, GrownP.ofBelow HB.out⟩
      have hE : pstepF (ws, ls, f) l i = ((ws, ls, f), l) := by
        unfold pstepF
        rw [← HX.out, HU.out, if_neg HH.out]
      rw [hE]
      exact ⟨⟨A, n, c, B, k, d, HP.out, HM.out⟩, HL.out, Nat.le_trans hle HB.out.size⟩
end Go.Proofs.Ytaeanmkbongfcaa
