/- package seq: accesses of a CPU. No condition but sizes. -/
import Derived.Test.YtnkaajkdjbdpaaaSq6
import Derived.Test.YtnkaajkdjbdpaaaKitA
import Derived.Deep.DeepCutAuto
import Derived.Deep.CutBlock
namespace Go.Proofs.Ytnkaajkdjbdpaaa
open Go.RowKit
abbrev ptr (g : Nat) : Value := .pointer (some ⟨g, 0, none⟩)
@[reducible] def cpuc (A : Option Addr) (n c : Nat) (B : Option Addr) (m d : Nat) (f l : Bool) : Array Value := #[.slice A n c, .slice B m d, .bool f, .bool l]
theorem mown_kept {W W' : World} {lo : Nat} {A : Option Addr} {n c : Nat} {B : Option Addr} {m d : Nat} {ws : List Int} {ls : List Bool} (h : Mown W lo A n c B m d ws ls) {g : Nat} {t : TypeId} {cs : Array Value} (hb : Blk W g t cs) (h1 : t ≠ 27) (h2 : t ≠ 4) (hg : W.grownBy W' (some g)) :
    Mown W' lo A n c B m d ws ls := ⟨h.oa.keptG hg (fun a ha e => h.oa.ne_blk hb h1 a ha (by simpa using e)), h.ob.keptG hg (fun a ha e => h.ob.ne_blk hb h2 a ha (by simpa using e)), h.apart, h.hn, h.hm⟩
theorem Blk.ne {W : World} {g g' : Nat} {t t' : TypeId} {cs cs' : Array Value} (h : Blk W g t cs) (h' : Blk W g' t' cs') (hne : t ≠ t') : g ≠ g' := by
  rintro rfl
  unfold Blk at h h'
  rw [h] at h'
  simp only [Option.some.injEq, Obj.cells.injEq] at h'
  exact hne h'.2.1
/-- a CPU's memory; whether its last access was a fault -/
structure Cpm (W : World) (C lo : Nat) (m : MSt) (l : Bool) : Prop where
  box : ∃ A n c B k d, Blk W C 102 (cpuc A n c B k d m.2.2 l) ∧ Mown W lo A n c B k d m.1 m.2.1
theorem Cpm.kept {W W' : World} {C lo : Nat} {m : MSt} {l : Bool} (h : Cpm W C lo m l) {g : Nat} {t : TypeId} {cs : Array Value} (hb : Blk W g t cs) (h1 : t ≠ 27) (h2 : t ≠ 4) (h3 : t ≠ 102) (hg : W.grownBy W' (some g)) : Cpm W' C lo m l := by
  obtain ⟨A, n, c, B, k, d, hc, hm⟩ := h.box
  exact ⟨A, n, c, B, k, d, hc.grown hg (fun e => hb.ne hc h3 (by simpa using e.symm)), mown_kept hm hb h1 h2 hg⟩
theorem Cpm.step {W W' : World} {C lo : Nat} {m : MSt} {l : Bool} (h : Cpm W C lo m l) (hb : Below W.heap.size W W') : Cpm W' C lo m l := by
  obtain ⟨A, n, c, B, k, d, hc, hm⟩ := h.box
  exact ⟨A, n, c, B, k, d, hc.step hb, hm.step hb⟩
theorem below_grown {w W W' : World} {g : Nat} (hb : Below w.heap.size w W) (hg : W.grownBy W' (some g)) : w.grownBy W' (some g) :=
  ⟨hg.os.trans hb.os, hg.tape.trans hb.tape, hg.output.trans hb.output, Nat.le_trans hb.size hg.size, fun i hi hne => (hg.block i (Nat.lt_of_lt_of_le hi hb.size) hne).trans (hb.block i hi)⟩
theorem grown_trans {w W W' : World} {r : Option Nat} (hb : w.grownBy W r) (hg : W.grownBy W' r) : w.grownBy W' r :=
  ⟨hg.os.trans hb.os, hg.tape.trans hb.tape, hg.output.trans hb.output, Nat.le_trans hb.size hg.size, fun i hi hne => (hg.block i (Nat.lt_of_lt_of_le hi hb.size) hne).trans (hb.block i hi hne)⟩
/-- behind an access: its parts, boxed -/
structure DoesMid (W5 W : World) (g5 g6 : Nat) (A : Option Addr) (n c : Nat) (B : Option Addr) (k d : Nat) (m : MSt) (x : Int) (y : Bool) : Prop where
  b5 : Blk W g5 44 (mcs A n c B k d m.2.2)
  b6 : Blk W g6 112 #[.int .u64 x, .bool y]
  own : Mown W W5.heap.size A n c B k d m.1 m.2.1
  be : Below W5.heap.size W5 W
def DoesPost (w : World) (C : Nat) (r : MSt × (Int × Bool)) (e : Ending) (w' : World) : Prop := e = .returned (.int .u64 r.2.1) ∧ Cpm w' C w.heap.size r.1 (!r.2.2) ∧ w.grownBy w' (some C)
theorem tc1 : (102 : TypeId) ≠ 27 := by decide
theorem tc2 : (102 : TypeId) ≠ 4 := by decide
theorem tm1 : (44 : TypeId) ≠ 27 := by decide
theorem tm2 : (44 : TypeId) ≠ 4 := by decide
theorem tg1 : (112 : TypeId) ≠ 27 := by decide
theorem tg2 : (112 : TypeId) ≠ 4 := by decide
set_option maxRecDepth 100000 in
set_option maxHeartbeats 8000000 in
theorem does_acc (C lo : Nat) (m : MSt) (l : Bool) (nk na no nn : Int) (w : World) (h : Cpm w C lo m l) (hg : MGood m.1 m.2.1) (hk : ¬ (nk < 1 ∨ 3 < nk)) :
    Calls Try.prog 76 #[ptr C, av nk na no nn] w (DoesPost w C (stepM m (nk, na, no, nn))) := by
  obtain ⟨A, n, c, B, k, d, hc, hm⟩ := h.box
  obtain ⟨ws, ls, f⟩ := m
  dsimp only at hc hm hg
  obtain ⟨⟨⟨ws2, ls2, f2⟩, ⟨gx, gy⟩⟩, hst⟩ : ∃ r, r = stepM (ws, ls, f) (nk, na, no, nn) := ⟨_, rfl⟩
  have HAC := hid (show accF (ws, ls, f) (nk, na, no, nn) = (0, ((ws2, ls2, f2), (gx, gy))) by rw [accF, if_neg (not_not_intro hg), if_neg hk, ← hst])
  rw [← hst]
  have HC := hid hc; have HM := hid hm; have HB := hid (Below.refl w.heap.size w)
  clear h hc hm hg hk hst
  have bx := below_box w (.cells (acs nk na no nn) 116)
  replace HC := hid (HC.out.step bx); replace HM := hid (HM.out.step bx); replace HB := hid (below_then HB.out bx)
  clear bx
  have PA := hid (Blk.new w 116 (acs nk na no nn))
  go_enter Try.func76, Try.ntmps76
  obtain ⟨y00, y01, y02, y03, yf0⟩ := HC.out.cells4
  obtain ⟨y10, y11, y12, y13, yf1⟩ := PA.out.cells4
  go_upto_region 1 with fail
  clear y00 y01 y02 y03 yf0 y10 y11 y12 y13 yf1
  have hz1 := hid (show (w.alloc (.cells (acs nk na no nn) 116)).heap.size = w.heap.size + 1 by simp)
  generalize w.alloc (.cells (acs nk na no nn) 116) = W1 at *
  have HBQ := hid (Below.refl W1.heap.size W1)
  go_cut [5, 6, 7] (fun s5 s6 s7 wx => ∃ g5 g6 A2 n2 c2 B2 k2 d2, s5 = ptr g5 ∧ s6 = ptr g6 ∧ s7 = .int .i64 0 ∧ DoesMid W1 wx g5 g6 A2 n2 c2 B2 k2 d2 (ws2, ls2, f2) gx gy)
  case first =>
    have bx := (Below.refl W1.heap.size W1).drew
    replace HBQ := hid (below_then HBQ.out bx)
    clear bx
    have hszd := hid (show W1.drew.heap.size = W1.heap.size from rfl)
    refine wp_region_noPanic ?_
    refine wp_region_held_drew (S := (fun W' : World => W'.cell? ⟨C, 0, none⟩ = some (.slice A n c) ∧ W'.cell? ⟨C, 1, none⟩ = some (.slice B k d) ∧ W'.cell? ⟨C, 2, none⟩ = some (.bool f) ∧ W'.cell? ⟨C, 3, none⟩ = some (.bool l) ∧ W'.cell? ⟨w.heap.size, 0, none⟩ = some (.int .i64 nk) ∧ W'.cell? ⟨w.heap.size, 1, none⟩ = some (.int .i64 na) ∧ W'.cell? ⟨w.heap.size, 2, none⟩ = some (.int .u64 no) ∧ W'.cell? ⟨w.heap.size, 3, none⟩ = some (.int .u64 nn))) (by kernel_rfl) ⟨(HC.out.step HBQ.out).cells4.1, (HC.out.step HBQ.out).cells4.2.1, (HC.out.step HBQ.out).cells4.2.2.1, (HC.out.step HBQ.out).cells4.2.2.2.1, (PA.out.step HBQ.out).cells4.1, (PA.out.step HBQ.out).cells4.2.1, (PA.out.step HBQ.out).cells4.2.2.1, (PA.out.step HBQ.out).cells4.2.2.2.1⟩ (fun hS => ?_)
    generalize W1.drew = Wd at *
    refine wpAnyH_take (i := 0) (v := ?_) (by simp only [List.getElem?_toArray, List.getElem?_cons_succ, List.getElem?_cons_zero]; rfl) (by kernel_rfl) (by kernel_rfl) (by kernel_rfl) (fun _ _ _ h => h) (Or.inl ⟨by rfl, ?_⟩) hS ?_
    rotate_left
    · intro w' hSw; (try dsimp only at hSw); go_split_ands; go_simp; (try with_reducible rfl)
    (try simp only [Act.put, List.setIfInBounds_toArray, List.set_cons_zero, List.set_cons_succ])
    refine wpAnyH_take (i := 1) (v := ?_) (by simp only [List.getElem?_toArray, List.getElem?_cons_succ, List.getElem?_cons_zero]; rfl) (by kernel_rfl) (by kernel_rfl) (by kernel_rfl) (fun _ _ _ h => h) (Or.inl ⟨by rfl, ?_⟩) hS ?_
    rotate_left
    · intro w' hSw; (try dsimp only at hSw); go_split_ands; go_simp; (try with_reducible rfl)
    (try simp only [Act.put, List.setIfInBounds_toArray, List.set_cons_zero, List.set_cons_succ])
    refine wpAnyH_take (i := 2) (v := ?_) (by simp only [List.getElem?_toArray, List.getElem?_cons_succ, List.getElem?_cons_zero]; rfl) (by kernel_rfl) (by kernel_rfl) (by kernel_rfl) (fun _ _ _ h => h) (Or.inl ⟨by rfl, ?_⟩) hS ?_
    rotate_left
    · intro w' hSw; (try dsimp only at hSw); go_split_ands; go_simp; (try with_reducible rfl)
    (try simp only [Act.put, List.setIfInBounds_toArray, List.set_cons_zero, List.set_cons_succ])
    refine wpAnyH_take (i := 3) (v := ?_) (by simp only [List.getElem?_toArray, List.getElem?_cons_succ, List.getElem?_cons_zero]; rfl) (by kernel_rfl) (by kernel_rfl) (by kernel_rfl) (fun _ _ _ h => h) (Or.inl ⟨by rfl, ?_⟩) hS ?_
    rotate_left
    · intro w' hSw; (try dsimp only at hSw); go_split_ands; go_simp; (try with_reducible rfl)
    (try simp only [Act.put, List.setIfInBounds_toArray, List.set_cons_zero, List.set_cons_succ])
    refine wpAnyH_take (i := 4) (v := ?_) (by simp only [List.getElem?_toArray, List.getElem?_cons_succ, List.getElem?_cons_zero]; rfl) (by kernel_rfl) (by kernel_rfl) (by kernel_rfl) (fun _ _ _ h => h) (Or.inl ⟨by rfl, ?_⟩) hS ?_
    rotate_left
    · intro w' hSw; (try dsimp only at hSw); go_split_ands; go_simp; (try with_reducible rfl)
    (try simp only [Act.put, List.setIfInBounds_toArray, List.set_cons_zero, List.set_cons_succ])
    refine wpAnyH_ready (rs := [5, 10, 11]) (by kernel_rfl) (by simp) ?_
    refine AllReadyH.cons (by simp only [List.getElem?_toArray, List.getElem?_cons_succ, List.getElem?_cons_zero]; rfl) (fun K hK => ?_) ?_
    · skip
      go_simp
      refine (mstep_any A n c B k d f nk na no nn ws ls _ (HM.out.step HBQ.out).mem).mono ?_
      rintro e w6 ⟨A2, n2, c2, B2, k2, d2, rfl, ho, hb⟩
      have hsz0 := hid (show Wd.heap.size ≤ w6.heap.size from hb.size)
      replace HBQ := hid (below_then HBQ.out hb)
      clear hb
      rw [HAC.out] at ho ⊢
      dsimp only at ho ⊢
      have HM2 := hid (ho.mono (show W1.heap.size ≤ _ by have := hszd.out; omega))
      clear ho
      go_wp2_with fail
      refine hK.out _ _ ⟨(HC.out.step HBQ.out).cells4.1, (HC.out.step HBQ.out).cells4.2.1, (HC.out.step HBQ.out).cells4.2.2.1, (HC.out.step HBQ.out).cells4.2.2.2.1, (PA.out.step HBQ.out).cells4.1, (PA.out.step HBQ.out).cells4.2.1, (PA.out.step HBQ.out).cells4.2.2.1, (PA.out.step HBQ.out).cells4.2.2.2.1⟩ (fun hS' => ?_)
      clear hK K hS
      have hS := hS'
      clear hS'
      (try simp only [Act.put, List.setIfInBounds_toArray, List.set_cons_zero, List.set_cons_succ])
      refine wpAnyH_take (i := 6) (v := ?_) (by simp only [List.getElem?_toArray, List.getElem?_cons_succ, List.getElem?_cons_zero]; rfl) (by kernel_rfl) (by kernel_rfl) (by kernel_rfl) (fun _ _ _ h => h) (Or.inl ⟨by rfl, ?_⟩) hS ?_
      rotate_left
      · intro w' hSw; (try dsimp only at hSw); go_split_ands; go_simp; (try with_reducible rfl)
      (try simp only [Act.put, List.setIfInBounds_toArray, List.set_cons_zero, List.set_cons_succ])
      refine wpAnyH_take (i := 7) (v := ?_) (by simp only [List.getElem?_toArray, List.getElem?_cons_succ, List.getElem?_cons_zero]; rfl) (by kernel_rfl) (by kernel_rfl) (by kernel_rfl) (fun _ _ _ h => h) (Or.inl ⟨by rfl, ?_⟩) hS ?_
      rotate_left
      · intro w' hSw; (try dsimp only at hSw); go_split_ands; go_simp; (try with_reducible rfl)
      (try simp only [Act.put, List.setIfInBounds_toArray, List.set_cons_zero, List.set_cons_succ])
      refine wpAnyH_take (i := 8) (v := ?_) (by simp only [List.getElem?_toArray, List.getElem?_cons_succ, List.getElem?_cons_zero]; rfl) (by kernel_rfl) (by kernel_rfl) (by kernel_rfl) (fun _ _ _ h => h) (Or.inl ⟨by rfl, ?_⟩) hS ?_
      rotate_left
      · intro w' hSw; (try dsimp only at hSw); go_split_ands; go_simp; (try with_reducible rfl)
      (try simp only [Act.put, List.setIfInBounds_toArray, List.set_cons_zero, List.set_cons_succ])
      refine wpAnyH_take (i := 9) (v := ?_) (by simp only [List.getElem?_toArray, List.getElem?_cons_succ, List.getElem?_cons_zero]; rfl) (by kernel_rfl) (by kernel_rfl) (by kernel_rfl) (fun _ _ _ h => h) (Or.inl ⟨by rfl, ?_⟩) hS ?_
      rotate_left
      · intro w' hSw; (try dsimp only at hSw); go_split_ands; go_simp; (try with_reducible rfl)
      (try simp only [Act.put, List.setIfInBounds_toArray, List.set_cons_zero, List.set_cons_succ])
      refine wpAnyH_ready (rs := [10, 11]) (by kernel_rfl) (by simp) ?_
      refine AllReadyH.cons (by simp only [List.getElem?_toArray, List.getElem?_cons_succ, List.getElem?_cons_zero]; rfl) (fun K hK => ?_) ?_
      · skip
        go_simp
        refine named_alloc ?_
        intro Wa10 hbk hb hsz
        have hsz1 := hid hsz
        replace HM2 := hid (HM2.out.step hb); replace HBQ := hid (below_then HBQ.out hb)
        have P5 := hid hbk
        clear hb hbk hsz
        refine hK.out _ _ ⟨(HC.out.step HBQ.out).cells4.1, (HC.out.step HBQ.out).cells4.2.1, (HC.out.step HBQ.out).cells4.2.2.1, (HC.out.step HBQ.out).cells4.2.2.2.1, (PA.out.step HBQ.out).cells4.1, (PA.out.step HBQ.out).cells4.2.1, (PA.out.step HBQ.out).cells4.2.2.1, (PA.out.step HBQ.out).cells4.2.2.2.1⟩ (fun hS' => ?_)
        clear hK K hS
        have hS := hS'
        clear hS'
        (try simp only [Act.put, List.setIfInBounds_toArray, List.set_cons_zero, List.set_cons_succ])
        refine wpAnyH_ready (rs := [11]) (by kernel_rfl) (by simp) ?_
        refine AllReadyH.cons (by simp only [List.getElem?_toArray, List.getElem?_cons_succ, List.getElem?_cons_zero]; rfl) (fun K hK => ?_) ?_
        · skip
          go_simp
          refine named_alloc ?_
          intro Wa11 hbk hb hsz
          have hsz2 := hid hsz
          replace HM2 := hid (HM2.out.step hb); replace P5 := hid (P5.out.step hb); replace HBQ := hid (below_then HBQ.out hb)
          have P6 := hid hbk
          clear hb hbk hsz
          refine hK.out _ _ ⟨(HC.out.step HBQ.out).cells4.1, (HC.out.step HBQ.out).cells4.2.1, (HC.out.step HBQ.out).cells4.2.2.1, (HC.out.step HBQ.out).cells4.2.2.2.1, (PA.out.step HBQ.out).cells4.1, (PA.out.step HBQ.out).cells4.2.1, (PA.out.step HBQ.out).cells4.2.2.1, (PA.out.step HBQ.out).cells4.2.2.2.1⟩ (fun hS' => ?_)
          clear hK K hS
          have hS := hS'
          clear hS'
          (try simp only [Act.put, List.setIfInBounds_toArray, List.set_cons_zero, List.set_cons_succ])
          refine wpAnyH_ready (rs := [12]) (by kernel_rfl) (by simp) ?_
          refine AllReadyH.cons (by simp only [List.getElem?_toArray, List.getElem?_cons_succ, List.getElem?_cons_zero]; rfl) (fun K hK => ?_) ?_
          · skip
            obtain ⟨y00, y01, y02, yf0⟩ := P5.out.cells3
            go_simp
            clear y00 y01 y02 yf0
            refine named_store3 P5.out ?_
            intro Ws12 hbk hgr hsz
            have hsz3 := hid hsz
            clear hsz
            replace P6 := hid (P6.out.grown hgr (fun e => P5.out.ne P6.out (by decide) (by simpa using e.symm)))
            replace HM2 := hid (mown_kept HM2.out P5.out tm1 tm2 hgr)
            replace HBQ := hid (HBQ.out.grown hgr HBQ.out.size (fun r e => by cases e; have := hszd.out; have := hsz0.out; have := hsz1.out; have := hsz2.out; have := hsz3.out; omega))
            replace P5 := hid hbk
            clear hbk hgr
            refine hK.out _ _ ⟨(HC.out.step HBQ.out).cells4.1, (HC.out.step HBQ.out).cells4.2.1, (HC.out.step HBQ.out).cells4.2.2.1, (HC.out.step HBQ.out).cells4.2.2.2.1, (PA.out.step HBQ.out).cells4.1, (PA.out.step HBQ.out).cells4.2.1, (PA.out.step HBQ.out).cells4.2.2.1, (PA.out.step HBQ.out).cells4.2.2.2.1⟩ (fun hS' => ?_)
            clear hK K hS
            have hS := hS'
            clear hS'
            (try simp only [Act.put, List.setIfInBounds_toArray, List.set_cons_zero, List.set_cons_succ])
            refine wpAnyH_ready (rs := [13]) (by kernel_rfl) (by simp) ?_
            refine AllReadyH.cons (by simp only [List.getElem?_toArray, List.getElem?_cons_succ, List.getElem?_cons_zero]; rfl) (fun K hK => ?_) ?_
            · skip
              obtain ⟨y00, y01, yf0⟩ := P6.out.cells2
              go_simp
              clear y00 y01 yf0
              refine named_store2 P6.out ?_
              intro Ws13 hbk hgr hsz
              have hsz4 := hid hsz
              clear hsz
              replace P5 := hid (P5.out.grown hgr (fun e => P6.out.ne P5.out (by decide) (by simpa using e.symm)))
              replace HM2 := hid (mown_kept HM2.out P6.out tg1 tg2 hgr)
              replace HBQ := hid (HBQ.out.grown hgr HBQ.out.size (fun r e => by cases e; have := hszd.out; have := hsz0.out; have := hsz1.out; have := hsz2.out; have := hsz3.out; have := hsz4.out; omega))
              replace P6 := hid hbk
              clear hbk hgr
              refine hK.out _ _ ⟨(HC.out.step HBQ.out).cells4.1, (HC.out.step HBQ.out).cells4.2.1, (HC.out.step HBQ.out).cells4.2.2.1, (HC.out.step HBQ.out).cells4.2.2.2.1, (PA.out.step HBQ.out).cells4.1, (PA.out.step HBQ.out).cells4.2.1, (PA.out.step HBQ.out).cells4.2.2.1, (PA.out.step HBQ.out).cells4.2.2.2.1⟩ (fun hS' => ?_)
              clear hK K hS
              have hS := hS'
              clear hS'
              (try simp only [Act.put, List.setIfInBounds_toArray, List.set_cons_zero, List.set_cons_succ])
              refine wpAnyH_take (i := 14) (v := ?_) (by simp only [List.getElem?_toArray, List.getElem?_cons_succ, List.getElem?_cons_zero]; rfl) (by kernel_rfl) (by kernel_rfl) (by kernel_rfl) (fun _ _ _ h => h) (Or.inl ⟨by rfl, ?_⟩) hS ?_
              rotate_left
              · intro w' hSw; (try dsimp only at hSw); go_split_ands; go_simp; (try with_reducible rfl)
              (try simp only [Act.put, List.setIfInBounds_toArray, List.set_cons_zero, List.set_cons_succ])
              refine wpAnyH_done (by kernel_rfl) ?_ _
              refine NoPanic.normal ?_
              clear hS
              go_wp2_with fail
              go_meet
              exact ⟨_, _, _, _, _, _, _, _, rfl, rfl, rfl, P5.out, P6.out, HM2.out, HBQ.out⟩
            exact AllReadyH.nil
          exact AllReadyH.nil
        exact AllReadyH.nil
      refine AllReadyH.cons (by simp only [List.getElem?_toArray, List.getElem?_cons_succ, List.getElem?_cons_zero]; rfl) (fun K hK => ?_) ?_
      · skip
        go_simp
        refine named_alloc ?_
        intro Wa11 hbk hb hsz
        have hsz1 := hid hsz
        replace HM2 := hid (HM2.out.step hb); replace HBQ := hid (below_then HBQ.out hb)
        have P6 := hid hbk
        clear hb hbk hsz
        refine hK.out _ _ ⟨(HC.out.step HBQ.out).cells4.1, (HC.out.step HBQ.out).cells4.2.1, (HC.out.step HBQ.out).cells4.2.2.1, (HC.out.step HBQ.out).cells4.2.2.2.1, (PA.out.step HBQ.out).cells4.1, (PA.out.step HBQ.out).cells4.2.1, (PA.out.step HBQ.out).cells4.2.2.1, (PA.out.step HBQ.out).cells4.2.2.2.1⟩ (fun hS' => ?_)
        clear hK K hS
        have hS := hS'
        clear hS'
        (try simp only [Act.put, List.setIfInBounds_toArray, List.set_cons_zero, List.set_cons_succ])
        refine wpAnyH_ready (rs := [10]) (by kernel_rfl) (by simp) ?_
        refine AllReadyH.cons (by simp only [List.getElem?_toArray, List.getElem?_cons_succ, List.getElem?_cons_zero]; rfl) (fun K hK => ?_) ?_
        · skip
          go_simp
          refine named_alloc ?_
          intro Wa10 hbk hb hsz
          have hsz2 := hid hsz
          replace HM2 := hid (HM2.out.step hb); replace P6 := hid (P6.out.step hb); replace HBQ := hid (below_then HBQ.out hb)
          have P5 := hid hbk
          clear hb hbk hsz
          refine hK.out _ _ ⟨(HC.out.step HBQ.out).cells4.1, (HC.out.step HBQ.out).cells4.2.1, (HC.out.step HBQ.out).cells4.2.2.1, (HC.out.step HBQ.out).cells4.2.2.2.1, (PA.out.step HBQ.out).cells4.1, (PA.out.step HBQ.out).cells4.2.1, (PA.out.step HBQ.out).cells4.2.2.1, (PA.out.step HBQ.out).cells4.2.2.2.1⟩ (fun hS' => ?_)
          clear hK K hS
          have hS := hS'
          clear hS'
          (try simp only [Act.put, List.setIfInBounds_toArray, List.set_cons_zero, List.set_cons_succ])
          refine wpAnyH_ready (rs := [12]) (by kernel_rfl) (by simp) ?_
          refine AllReadyH.cons (by simp only [List.getElem?_toArray, List.getElem?_cons_succ, List.getElem?_cons_zero]; rfl) (fun K hK => ?_) ?_
          · skip
            obtain ⟨y00, y01, y02, yf0⟩ := P5.out.cells3
            go_simp
            clear y00 y01 y02 yf0
            refine named_store3 P5.out ?_
            intro Ws12 hbk hgr hsz
            have hsz3 := hid hsz
            clear hsz
            replace P6 := hid (P6.out.grown hgr (fun e => P5.out.ne P6.out (by decide) (by simpa using e.symm)))
            replace HM2 := hid (mown_kept HM2.out P5.out tm1 tm2 hgr)
            replace HBQ := hid (HBQ.out.grown hgr HBQ.out.size (fun r e => by cases e; have := hszd.out; have := hsz0.out; have := hsz1.out; have := hsz2.out; have := hsz3.out; omega))
            replace P5 := hid hbk
            clear hbk hgr
            refine hK.out _ _ ⟨(HC.out.step HBQ.out).cells4.1, (HC.out.step HBQ.out).cells4.2.1, (HC.out.step HBQ.out).cells4.2.2.1, (HC.out.step HBQ.out).cells4.2.2.2.1, (PA.out.step HBQ.out).cells4.1, (PA.out.step HBQ.out).cells4.2.1, (PA.out.step HBQ.out).cells4.2.2.1, (PA.out.step HBQ.out).cells4.2.2.2.1⟩ (fun hS' => ?_)
            clear hK K hS
            have hS := hS'
            clear hS'
            (try simp only [Act.put, List.setIfInBounds_toArray, List.set_cons_zero, List.set_cons_succ])
            refine wpAnyH_ready (rs := [13]) (by kernel_rfl) (by simp) ?_
            refine AllReadyH.cons (by simp only [List.getElem?_toArray, List.getElem?_cons_succ, List.getElem?_cons_zero]; rfl) (fun K hK => ?_) ?_
            · skip
              obtain ⟨y00, y01, yf0⟩ := P6.out.cells2
              go_simp
              clear y00 y01 yf0
              refine named_store2 P6.out ?_
              intro Ws13 hbk hgr hsz
              have hsz4 := hid hsz
              clear hsz
              replace P5 := hid (P5.out.grown hgr (fun e => P6.out.ne P5.out (by decide) (by simpa using e.symm)))
              replace HM2 := hid (mown_kept HM2.out P6.out tg1 tg2 hgr)
              replace HBQ := hid (HBQ.out.grown hgr HBQ.out.size (fun r e => by cases e; have := hszd.out; have := hsz0.out; have := hsz1.out; have := hsz2.out; have := hsz3.out; have := hsz4.out; omega))
              replace P6 := hid hbk
              clear hbk hgr
              refine hK.out _ _ ⟨(HC.out.step HBQ.out).cells4.1, (HC.out.step HBQ.out).cells4.2.1, (HC.out.step HBQ.out).cells4.2.2.1, (HC.out.step HBQ.out).cells4.2.2.2.1, (PA.out.step HBQ.out).cells4.1, (PA.out.step HBQ.out).cells4.2.1, (PA.out.step HBQ.out).cells4.2.2.1, (PA.out.step HBQ.out).cells4.2.2.2.1⟩ (fun hS' => ?_)
              clear hK K hS
              have hS := hS'
              clear hS'
              (try simp only [Act.put, List.setIfInBounds_toArray, List.set_cons_zero, List.set_cons_succ])
              refine wpAnyH_take (i := 14) (v := ?_) (by simp only [List.getElem?_toArray, List.getElem?_cons_succ, List.getElem?_cons_zero]; rfl) (by kernel_rfl) (by kernel_rfl) (by kernel_rfl) (fun _ _ _ h => h) (Or.inl ⟨by rfl, ?_⟩) hS ?_
              rotate_left
              · intro w' hSw; (try dsimp only at hSw); go_split_ands; go_simp; (try with_reducible rfl)
              (try simp only [Act.put, List.setIfInBounds_toArray, List.set_cons_zero, List.set_cons_succ])
              refine wpAnyH_done (by kernel_rfl) ?_ _
              refine NoPanic.normal ?_
              clear hS
              go_wp2_with fail
              go_meet
              exact ⟨_, _, _, _, _, _, _, _, rfl, rfl, rfl, P5.out, P6.out, HM2.out, HBQ.out⟩
            exact AllReadyH.nil
          exact AllReadyH.nil
        exact AllReadyH.nil
      exact AllReadyH.nil
    refine AllReadyH.cons (by simp only [List.getElem?_toArray, List.getElem?_cons_succ, List.getElem?_cons_zero]; rfl) (fun K hK => ?_) ?_
    · skip
      go_simp
      refine named_alloc ?_
      intro Wa10 hbk hb hsz
      have hsz0 := hid hsz
      replace HBQ := hid (below_then HBQ.out hb)
      have P5 := hid hbk
      clear hb hbk hsz
      refine hK.out _ _ ⟨(HC.out.step HBQ.out).cells4.1, (HC.out.step HBQ.out).cells4.2.1, (HC.out.step HBQ.out).cells4.2.2.1, (HC.out.step HBQ.out).cells4.2.2.2.1, (PA.out.step HBQ.out).cells4.1, (PA.out.step HBQ.out).cells4.2.1, (PA.out.step HBQ.out).cells4.2.2.1, (PA.out.step HBQ.out).cells4.2.2.2.1⟩ (fun hS' => ?_)
      clear hK K hS
      have hS := hS'
      clear hS'
      (try simp only [Act.put, List.setIfInBounds_toArray, List.set_cons_zero, List.set_cons_succ])
      refine wpAnyH_ready (rs := [5, 11]) (by kernel_rfl) (by simp) ?_
      refine AllReadyH.cons (by simp only [List.getElem?_toArray, List.getElem?_cons_succ, List.getElem?_cons_zero]; rfl) (fun K hK => ?_) ?_
      · skip
        go_simp
        refine (mstep_any A n c B k d f nk na no nn ws ls _ (HM.out.step HBQ.out).mem).mono ?_
        rintro e w6 ⟨A2, n2, c2, B2, k2, d2, rfl, ho, hb⟩
        have hsz1 := hid (show Wa10.heap.size ≤ w6.heap.size from hb.size)
        replace P5 := hid (P5.out.step hb); replace HBQ := hid (below_then HBQ.out hb)
        clear hb
        rw [HAC.out] at ho ⊢
        dsimp only at ho ⊢
        have HM2 := hid (ho.mono (show W1.heap.size ≤ _ by have := hszd.out; have := hsz0.out; omega))
        clear ho
        go_wp2_with fail
        refine hK.out _ _ ⟨(HC.out.step HBQ.out).cells4.1, (HC.out.step HBQ.out).cells4.2.1, (HC.out.step HBQ.out).cells4.2.2.1, (HC.out.step HBQ.out).cells4.2.2.2.1, (PA.out.step HBQ.out).cells4.1, (PA.out.step HBQ.out).cells4.2.1, (PA.out.step HBQ.out).cells4.2.2.1, (PA.out.step HBQ.out).cells4.2.2.2.1⟩ (fun hS' => ?_)
        clear hK K hS
        have hS := hS'
        clear hS'
        (try simp only [Act.put, List.setIfInBounds_toArray, List.set_cons_zero, List.set_cons_succ])
        refine wpAnyH_take (i := 6) (v := ?_) (by simp only [List.getElem?_toArray, List.getElem?_cons_succ, List.getElem?_cons_zero]; rfl) (by kernel_rfl) (by kernel_rfl) (by kernel_rfl) (fun _ _ _ h => h) (Or.inl ⟨by rfl, ?_⟩) hS ?_
        rotate_left
        · intro w' hSw; (try dsimp only at hSw); go_split_ands; go_simp; (try with_reducible rfl)
        (try simp only [Act.put, List.setIfInBounds_toArray, List.set_cons_zero, List.set_cons_succ])
        refine wpAnyH_take (i := 7) (v := ?_) (by simp only [List.getElem?_toArray, List.getElem?_cons_succ, List.getElem?_cons_zero]; rfl) (by kernel_rfl) (by kernel_rfl) (by kernel_rfl) (fun _ _ _ h => h) (Or.inl ⟨by rfl, ?_⟩) hS ?_
        rotate_left
        · intro w' hSw; (try dsimp only at hSw); go_split_ands; go_simp; (try with_reducible rfl)
        (try simp only [Act.put, List.setIfInBounds_toArray, List.set_cons_zero, List.set_cons_succ])
        refine wpAnyH_take (i := 8) (v := ?_) (by simp only [List.getElem?_toArray, List.getElem?_cons_succ, List.getElem?_cons_zero]; rfl) (by kernel_rfl) (by kernel_rfl) (by kernel_rfl) (fun _ _ _ h => h) (Or.inl ⟨by rfl, ?_⟩) hS ?_
        rotate_left
        · intro w' hSw; (try dsimp only at hSw); go_split_ands; go_simp; (try with_reducible rfl)
        (try simp only [Act.put, List.setIfInBounds_toArray, List.set_cons_zero, List.set_cons_succ])
        refine wpAnyH_take (i := 9) (v := ?_) (by simp only [List.getElem?_toArray, List.getElem?_cons_succ, List.getElem?_cons_zero]; rfl) (by kernel_rfl) (by kernel_rfl) (by kernel_rfl) (fun _ _ _ h => h) (Or.inl ⟨by rfl, ?_⟩) hS ?_
        rotate_left
        · intro w' hSw; (try dsimp only at hSw); go_split_ands; go_simp; (try with_reducible rfl)
        (try simp only [Act.put, List.setIfInBounds_toArray, List.set_cons_zero, List.set_cons_succ])
        refine wpAnyH_ready (rs := [11]) (by kernel_rfl) (by simp) ?_
        refine AllReadyH.cons (by simp only [List.getElem?_toArray, List.getElem?_cons_succ, List.getElem?_cons_zero]; rfl) (fun K hK => ?_) ?_
        · skip
          go_simp
          refine named_alloc ?_
          intro Wa11 hbk hb hsz
          have hsz2 := hid hsz
          replace P5 := hid (P5.out.step hb); replace HM2 := hid (HM2.out.step hb); replace HBQ := hid (below_then HBQ.out hb)
          have P6 := hid hbk
          clear hb hbk hsz
          refine hK.out _ _ ⟨(HC.out.step HBQ.out).cells4.1, (HC.out.step HBQ.out).cells4.2.1, (HC.out.step HBQ.out).cells4.2.2.1, (HC.out.step HBQ.out).cells4.2.2.2.1, (PA.out.step HBQ.out).cells4.1, (PA.out.step HBQ.out).cells4.2.1, (PA.out.step HBQ.out).cells4.2.2.1, (PA.out.step HBQ.out).cells4.2.2.2.1⟩ (fun hS' => ?_)
          clear hK K hS
          have hS := hS'
          clear hS'
          (try simp only [Act.put, List.setIfInBounds_toArray, List.set_cons_zero, List.set_cons_succ])
          refine wpAnyH_ready (rs := [12]) (by kernel_rfl) (by simp) ?_
          refine AllReadyH.cons (by simp only [List.getElem?_toArray, List.getElem?_cons_succ, List.getElem?_cons_zero]; rfl) (fun K hK => ?_) ?_
          · skip
            obtain ⟨y00, y01, y02, yf0⟩ := P5.out.cells3
            go_simp
            clear y00 y01 y02 yf0
            refine named_store3 P5.out ?_
            intro Ws12 hbk hgr hsz
            have hsz3 := hid hsz
            clear hsz
            replace P6 := hid (P6.out.grown hgr (fun e => P5.out.ne P6.out (by decide) (by simpa using e.symm)))
            replace HM2 := hid (mown_kept HM2.out P5.out tm1 tm2 hgr)
            replace HBQ := hid (HBQ.out.grown hgr HBQ.out.size (fun r e => by cases e; have := hszd.out; have := hsz0.out; have := hsz1.out; have := hsz2.out; have := hsz3.out; omega))
            replace P5 := hid hbk
            clear hbk hgr
            refine hK.out _ _ ⟨(HC.out.step HBQ.out).cells4.1, (HC.out.step HBQ.out).cells4.2.1, (HC.out.step HBQ.out).cells4.2.2.1, (HC.out.step HBQ.out).cells4.2.2.2.1, (PA.out.step HBQ.out).cells4.1, (PA.out.step HBQ.out).cells4.2.1, (PA.out.step HBQ.out).cells4.2.2.1, (PA.out.step HBQ.out).cells4.2.2.2.1⟩ (fun hS' => ?_)
            clear hK K hS
            have hS := hS'
            clear hS'
            (try simp only [Act.put, List.setIfInBounds_toArray, List.set_cons_zero, List.set_cons_succ])
            refine wpAnyH_ready (rs := [13]) (by kernel_rfl) (by simp) ?_
            refine AllReadyH.cons (by simp only [List.getElem?_toArray, List.getElem?_cons_succ, List.getElem?_cons_zero]; rfl) (fun K hK => ?_) ?_
            · skip
              obtain ⟨y00, y01, yf0⟩ := P6.out.cells2
              go_simp
              clear y00 y01 yf0
              refine named_store2 P6.out ?_
              intro Ws13 hbk hgr hsz
              have hsz4 := hid hsz
              clear hsz
              replace P5 := hid (P5.out.grown hgr (fun e => P6.out.ne P5.out (by decide) (by simpa using e.symm)))
              replace HM2 := hid (mown_kept HM2.out P6.out tg1 tg2 hgr)
              replace HBQ := hid (HBQ.out.grown hgr HBQ.out.size (fun r e => by cases e; have := hszd.out; have := hsz0.out; have := hsz1.out; have := hsz2.out; have := hsz3.out; have := hsz4.out; omega))
              replace P6 := hid hbk
              clear hbk hgr
              refine hK.out _ _ ⟨(HC.out.step HBQ.out).cells4.1, (HC.out.step HBQ.out).cells4.2.1, (HC.out.step HBQ.out).cells4.2.2.1, (HC.out.step HBQ.out).cells4.2.2.2.1, (PA.out.step HBQ.out).cells4.1, (PA.out.step HBQ.out).cells4.2.1, (PA.out.step HBQ.out).cells4.2.2.1, (PA.out.step HBQ.out).cells4.2.2.2.1⟩ (fun hS' => ?_)
              clear hK K hS
              have hS := hS'
              clear hS'
              (try simp only [Act.put, List.setIfInBounds_toArray, List.set_cons_zero, List.set_cons_succ])
              refine wpAnyH_take (i := 14) (v := ?_) (by simp only [List.getElem?_toArray, List.getElem?_cons_succ, List.getElem?_cons_zero]; rfl) (by kernel_rfl) (by kernel_rfl) (by kernel_rfl) (fun _ _ _ h => h) (Or.inl ⟨by rfl, ?_⟩) hS ?_
              rotate_left
              · intro w' hSw; (try dsimp only at hSw); go_split_ands; go_simp; (try with_reducible rfl)
              (try simp only [Act.put, List.setIfInBounds_toArray, List.set_cons_zero, List.set_cons_succ])
              refine wpAnyH_done (by kernel_rfl) ?_ _
              refine NoPanic.normal ?_
              clear hS
              go_wp2_with fail
              go_meet
              exact ⟨_, _, _, _, _, _, _, _, rfl, rfl, rfl, P5.out, P6.out, HM2.out, HBQ.out⟩
            exact AllReadyH.nil
          exact AllReadyH.nil
        exact AllReadyH.nil
      refine AllReadyH.cons (by simp only [List.getElem?_toArray, List.getElem?_cons_succ, List.getElem?_cons_zero]; rfl) (fun K hK => ?_) ?_
      · skip
        go_simp
        refine named_alloc ?_
        intro Wa11 hbk hb hsz
        have hsz1 := hid hsz
        replace P5 := hid (P5.out.step hb); replace HBQ := hid (below_then HBQ.out hb)
        have P6 := hid hbk
        clear hb hbk hsz
        refine hK.out _ _ ⟨(HC.out.step HBQ.out).cells4.1, (HC.out.step HBQ.out).cells4.2.1, (HC.out.step HBQ.out).cells4.2.2.1, (HC.out.step HBQ.out).cells4.2.2.2.1, (PA.out.step HBQ.out).cells4.1, (PA.out.step HBQ.out).cells4.2.1, (PA.out.step HBQ.out).cells4.2.2.1, (PA.out.step HBQ.out).cells4.2.2.2.1⟩ (fun hS' => ?_)
        clear hK K hS
        have hS := hS'
        clear hS'
        (try simp only [Act.put, List.setIfInBounds_toArray, List.set_cons_zero, List.set_cons_succ])
        refine wpAnyH_ready (rs := [5]) (by kernel_rfl) (by simp) ?_
        refine AllReadyH.cons (by simp only [List.getElem?_toArray, List.getElem?_cons_succ, List.getElem?_cons_zero]; rfl) (fun K hK => ?_) ?_
        · skip
          go_simp
          refine (mstep_any A n c B k d f nk na no nn ws ls _ (HM.out.step HBQ.out).mem).mono ?_
          rintro e w6 ⟨A2, n2, c2, B2, k2, d2, rfl, ho, hb⟩
          have hsz2 := hid (show Wa11.heap.size ≤ w6.heap.size from hb.size)
          replace P5 := hid (P5.out.step hb); replace P6 := hid (P6.out.step hb); replace HBQ := hid (below_then HBQ.out hb)
          clear hb
          rw [HAC.out] at ho ⊢
          dsimp only at ho ⊢
          have HM2 := hid (ho.mono (show W1.heap.size ≤ _ by have := hszd.out; have := hsz0.out; have := hsz1.out; omega))
          clear ho
          go_wp2_with fail
          refine hK.out _ _ ⟨(HC.out.step HBQ.out).cells4.1, (HC.out.step HBQ.out).cells4.2.1, (HC.out.step HBQ.out).cells4.2.2.1, (HC.out.step HBQ.out).cells4.2.2.2.1, (PA.out.step HBQ.out).cells4.1, (PA.out.step HBQ.out).cells4.2.1, (PA.out.step HBQ.out).cells4.2.2.1, (PA.out.step HBQ.out).cells4.2.2.2.1⟩ (fun hS' => ?_)
          clear hK K hS
          have hS := hS'
          clear hS'
          (try simp only [Act.put, List.setIfInBounds_toArray, List.set_cons_zero, List.set_cons_succ])
          refine wpAnyH_take (i := 6) (v := ?_) (by simp only [List.getElem?_toArray, List.getElem?_cons_succ, List.getElem?_cons_zero]; rfl) (by kernel_rfl) (by kernel_rfl) (by kernel_rfl) (fun _ _ _ h => h) (Or.inl ⟨by rfl, ?_⟩) hS ?_
          rotate_left
          · intro w' hSw; (try dsimp only at hSw); go_split_ands; go_simp; (try with_reducible rfl)
          (try simp only [Act.put, List.setIfInBounds_toArray, List.set_cons_zero, List.set_cons_succ])
          refine wpAnyH_take (i := 7) (v := ?_) (by simp only [List.getElem?_toArray, List.getElem?_cons_succ, List.getElem?_cons_zero]; rfl) (by kernel_rfl) (by kernel_rfl) (by kernel_rfl) (fun _ _ _ h => h) (Or.inl ⟨by rfl, ?_⟩) hS ?_
          rotate_left
          · intro w' hSw; (try dsimp only at hSw); go_split_ands; go_simp; (try with_reducible rfl)
          (try simp only [Act.put, List.setIfInBounds_toArray, List.set_cons_zero, List.set_cons_succ])
          refine wpAnyH_take (i := 8) (v := ?_) (by simp only [List.getElem?_toArray, List.getElem?_cons_succ, List.getElem?_cons_zero]; rfl) (by kernel_rfl) (by kernel_rfl) (by kernel_rfl) (fun _ _ _ h => h) (Or.inl ⟨by rfl, ?_⟩) hS ?_
          rotate_left
          · intro w' hSw; (try dsimp only at hSw); go_split_ands; go_simp; (try with_reducible rfl)
          (try simp only [Act.put, List.setIfInBounds_toArray, List.set_cons_zero, List.set_cons_succ])
          refine wpAnyH_take (i := 9) (v := ?_) (by simp only [List.getElem?_toArray, List.getElem?_cons_succ, List.getElem?_cons_zero]; rfl) (by kernel_rfl) (by kernel_rfl) (by kernel_rfl) (fun _ _ _ h => h) (Or.inl ⟨by rfl, ?_⟩) hS ?_
          rotate_left
          · intro w' hSw; (try dsimp only at hSw); go_split_ands; go_simp; (try with_reducible rfl)
          (try simp only [Act.put, List.setIfInBounds_toArray, List.set_cons_zero, List.set_cons_succ])
          refine wpAnyH_ready (rs := [12]) (by kernel_rfl) (by simp) ?_
          refine AllReadyH.cons (by simp only [List.getElem?_toArray, List.getElem?_cons_succ, List.getElem?_cons_zero]; rfl) (fun K hK => ?_) ?_
          · skip
            obtain ⟨y00, y01, y02, yf0⟩ := P5.out.cells3
            go_simp
            clear y00 y01 y02 yf0
            refine named_store3 P5.out ?_
            intro Ws12 hbk hgr hsz
            have hsz3 := hid hsz
            clear hsz
            replace P6 := hid (P6.out.grown hgr (fun e => P5.out.ne P6.out (by decide) (by simpa using e.symm)))
            replace HM2 := hid (mown_kept HM2.out P5.out tm1 tm2 hgr)
            replace HBQ := hid (HBQ.out.grown hgr HBQ.out.size (fun r e => by cases e; have := hszd.out; have := hsz0.out; have := hsz1.out; have := hsz2.out; have := hsz3.out; omega))
            replace P5 := hid hbk
            clear hbk hgr
            refine hK.out _ _ ⟨(HC.out.step HBQ.out).cells4.1, (HC.out.step HBQ.out).cells4.2.1, (HC.out.step HBQ.out).cells4.2.2.1, (HC.out.step HBQ.out).cells4.2.2.2.1, (PA.out.step HBQ.out).cells4.1, (PA.out.step HBQ.out).cells4.2.1, (PA.out.step HBQ.out).cells4.2.2.1, (PA.out.step HBQ.out).cells4.2.2.2.1⟩ (fun hS' => ?_)
            clear hK K hS
            have hS := hS'
            clear hS'
            (try simp only [Act.put, List.setIfInBounds_toArray, List.set_cons_zero, List.set_cons_succ])
            refine wpAnyH_ready (rs := [13]) (by kernel_rfl) (by simp) ?_
            refine AllReadyH.cons (by simp only [List.getElem?_toArray, List.getElem?_cons_succ, List.getElem?_cons_zero]; rfl) (fun K hK => ?_) ?_
            · skip
              obtain ⟨y00, y01, yf0⟩ := P6.out.cells2
              go_simp
              clear y00 y01 yf0
              refine named_store2 P6.out ?_
              intro Ws13 hbk hgr hsz
              have hsz4 := hid hsz
              clear hsz
              replace P5 := hid (P5.out.grown hgr (fun e => P6.out.ne P5.out (by decide) (by simpa using e.symm)))
              replace HM2 := hid (mown_kept HM2.out P6.out tg1 tg2 hgr)
              replace HBQ := hid (HBQ.out.grown hgr HBQ.out.size (fun r e => by cases e; have := hszd.out; have := hsz0.out; have := hsz1.out; have := hsz2.out; have := hsz3.out; have := hsz4.out; omega))
              replace P6 := hid hbk
              clear hbk hgr
              refine hK.out _ _ ⟨(HC.out.step HBQ.out).cells4.1, (HC.out.step HBQ.out).cells4.2.1, (HC.out.step HBQ.out).cells4.2.2.1, (HC.out.step HBQ.out).cells4.2.2.2.1, (PA.out.step HBQ.out).cells4.1, (PA.out.step HBQ.out).cells4.2.1, (PA.out.step HBQ.out).cells4.2.2.1, (PA.out.step HBQ.out).cells4.2.2.2.1⟩ (fun hS' => ?_)
              clear hK K hS
              have hS := hS'
              clear hS'
              (try simp only [Act.put, List.setIfInBounds_toArray, List.set_cons_zero, List.set_cons_succ])
              refine wpAnyH_take (i := 14) (v := ?_) (by simp only [List.getElem?_toArray, List.getElem?_cons_succ, List.getElem?_cons_zero]; rfl) (by kernel_rfl) (by kernel_rfl) (by kernel_rfl) (fun _ _ _ h => h) (Or.inl ⟨by rfl, ?_⟩) hS ?_
              rotate_left
              · intro w' hSw; (try dsimp only at hSw); go_split_ands; go_simp; (try with_reducible rfl)
              (try simp only [Act.put, List.setIfInBounds_toArray, List.set_cons_zero, List.set_cons_succ])
              refine wpAnyH_done (by kernel_rfl) ?_ _
              refine NoPanic.normal ?_
              clear hS
              go_wp2_with fail
              go_meet
              exact ⟨_, _, _, _, _, _, _, _, rfl, rfl, rfl, P5.out, P6.out, HM2.out, HBQ.out⟩
            exact AllReadyH.nil
          exact AllReadyH.nil
        exact AllReadyH.nil
      exact AllReadyH.nil
    refine AllReadyH.cons (by simp only [List.getElem?_toArray, List.getElem?_cons_succ, List.getElem?_cons_zero]; rfl) (fun K hK => ?_) ?_
    · skip
      go_simp
      refine named_alloc ?_
      intro Wa11 hbk hb hsz
      have hsz0 := hid hsz
      replace HBQ := hid (below_then HBQ.out hb)
      have P6 := hid hbk
      clear hb hbk hsz
      refine hK.out _ _ ⟨(HC.out.step HBQ.out).cells4.1, (HC.out.step HBQ.out).cells4.2.1, (HC.out.step HBQ.out).cells4.2.2.1, (HC.out.step HBQ.out).cells4.2.2.2.1, (PA.out.step HBQ.out).cells4.1, (PA.out.step HBQ.out).cells4.2.1, (PA.out.step HBQ.out).cells4.2.2.1, (PA.out.step HBQ.out).cells4.2.2.2.1⟩ (fun hS' => ?_)
      clear hK K hS
      have hS := hS'
      clear hS'
      (try simp only [Act.put, List.setIfInBounds_toArray, List.set_cons_zero, List.set_cons_succ])
      refine wpAnyH_ready (rs := [5, 10]) (by kernel_rfl) (by simp) ?_
      refine AllReadyH.cons (by simp only [List.getElem?_toArray, List.getElem?_cons_succ, List.getElem?_cons_zero]; rfl) (fun K hK => ?_) ?_
      · skip
        go_simp
        refine (mstep_any A n c B k d f nk na no nn ws ls _ (HM.out.step HBQ.out).mem).mono ?_
        rintro e w6 ⟨A2, n2, c2, B2, k2, d2, rfl, ho, hb⟩
        have hsz1 := hid (show Wa11.heap.size ≤ w6.heap.size from hb.size)
        replace P6 := hid (P6.out.step hb); replace HBQ := hid (below_then HBQ.out hb)
        clear hb
        rw [HAC.out] at ho ⊢
        dsimp only at ho ⊢
        have HM2 := hid (ho.mono (show W1.heap.size ≤ _ by have := hszd.out; have := hsz0.out; omega))
        clear ho
        go_wp2_with fail
        refine hK.out _ _ ⟨(HC.out.step HBQ.out).cells4.1, (HC.out.step HBQ.out).cells4.2.1, (HC.out.step HBQ.out).cells4.2.2.1, (HC.out.step HBQ.out).cells4.2.2.2.1, (PA.out.step HBQ.out).cells4.1, (PA.out.step HBQ.out).cells4.2.1, (PA.out.step HBQ.out).cells4.2.2.1, (PA.out.step HBQ.out).cells4.2.2.2.1⟩ (fun hS' => ?_)
        clear hK K hS
        have hS := hS'
        clear hS'
        (try simp only [Act.put, List.setIfInBounds_toArray, List.set_cons_zero, List.set_cons_succ])
        refine wpAnyH_take (i := 6) (v := ?_) (by simp only [List.getElem?_toArray, List.getElem?_cons_succ, List.getElem?_cons_zero]; rfl) (by kernel_rfl) (by kernel_rfl) (by kernel_rfl) (fun _ _ _ h => h) (Or.inl ⟨by rfl, ?_⟩) hS ?_
        rotate_left
        · intro w' hSw; (try dsimp only at hSw); go_split_ands; go_simp; (try with_reducible rfl)
        (try simp only [Act.put, List.setIfInBounds_toArray, List.set_cons_zero, List.set_cons_succ])
        refine wpAnyH_take (i := 7) (v := ?_) (by simp only [List.getElem?_toArray, List.getElem?_cons_succ, List.getElem?_cons_zero]; rfl) (by kernel_rfl) (by kernel_rfl) (by kernel_rfl) (fun _ _ _ h => h) (Or.inl ⟨by rfl, ?_⟩) hS ?_
        rotate_left
        · intro w' hSw; (try dsimp only at hSw); go_split_ands; go_simp; (try with_reducible rfl)
        (try simp only [Act.put, List.setIfInBounds_toArray, List.set_cons_zero, List.set_cons_succ])
        refine wpAnyH_take (i := 8) (v := ?_) (by simp only [List.getElem?_toArray, List.getElem?_cons_succ, List.getElem?_cons_zero]; rfl) (by kernel_rfl) (by kernel_rfl) (by kernel_rfl) (fun _ _ _ h => h) (Or.inl ⟨by rfl, ?_⟩) hS ?_
        rotate_left
        · intro w' hSw; (try dsimp only at hSw); go_split_ands; go_simp; (try with_reducible rfl)
        (try simp only [Act.put, List.setIfInBounds_toArray, List.set_cons_zero, List.set_cons_succ])
        refine wpAnyH_take (i := 9) (v := ?_) (by simp only [List.getElem?_toArray, List.getElem?_cons_succ, List.getElem?_cons_zero]; rfl) (by kernel_rfl) (by kernel_rfl) (by kernel_rfl) (fun _ _ _ h => h) (Or.inl ⟨by rfl, ?_⟩) hS ?_
        rotate_left
        · intro w' hSw; (try dsimp only at hSw); go_split_ands; go_simp; (try with_reducible rfl)
        (try simp only [Act.put, List.setIfInBounds_toArray, List.set_cons_zero, List.set_cons_succ])
        refine wpAnyH_ready (rs := [10]) (by kernel_rfl) (by simp) ?_
        refine AllReadyH.cons (by simp only [List.getElem?_toArray, List.getElem?_cons_succ, List.getElem?_cons_zero]; rfl) (fun K hK => ?_) ?_
        · skip
          go_simp
          refine named_alloc ?_
          intro Wa10 hbk hb hsz
          have hsz2 := hid hsz
          replace P6 := hid (P6.out.step hb); replace HM2 := hid (HM2.out.step hb); replace HBQ := hid (below_then HBQ.out hb)
          have P5 := hid hbk
          clear hb hbk hsz
          refine hK.out _ _ ⟨(HC.out.step HBQ.out).cells4.1, (HC.out.step HBQ.out).cells4.2.1, (HC.out.step HBQ.out).cells4.2.2.1, (HC.out.step HBQ.out).cells4.2.2.2.1, (PA.out.step HBQ.out).cells4.1, (PA.out.step HBQ.out).cells4.2.1, (PA.out.step HBQ.out).cells4.2.2.1, (PA.out.step HBQ.out).cells4.2.2.2.1⟩ (fun hS' => ?_)
          clear hK K hS
          have hS := hS'
          clear hS'
          (try simp only [Act.put, List.setIfInBounds_toArray, List.set_cons_zero, List.set_cons_succ])
          refine wpAnyH_ready (rs := [12]) (by kernel_rfl) (by simp) ?_
          refine AllReadyH.cons (by simp only [List.getElem?_toArray, List.getElem?_cons_succ, List.getElem?_cons_zero]; rfl) (fun K hK => ?_) ?_
          · skip
            obtain ⟨y00, y01, y02, yf0⟩ := P5.out.cells3
            go_simp
            clear y00 y01 y02 yf0
            refine named_store3 P5.out ?_
            intro Ws12 hbk hgr hsz
            have hsz3 := hid hsz
            clear hsz
            replace P6 := hid (P6.out.grown hgr (fun e => P5.out.ne P6.out (by decide) (by simpa using e.symm)))
            replace HM2 := hid (mown_kept HM2.out P5.out tm1 tm2 hgr)
            replace HBQ := hid (HBQ.out.grown hgr HBQ.out.size (fun r e => by cases e; have := hszd.out; have := hsz0.out; have := hsz1.out; have := hsz2.out; have := hsz3.out; omega))
            replace P5 := hid hbk
            clear hbk hgr
            refine hK.out _ _ ⟨(HC.out.step HBQ.out).cells4.1, (HC.out.step HBQ.out).cells4.2.1, (HC.out.step HBQ.out).cells4.2.2.1, (HC.out.step HBQ.out).cells4.2.2.2.1, (PA.out.step HBQ.out).cells4.1, (PA.out.step HBQ.out).cells4.2.1, (PA.out.step HBQ.out).cells4.2.2.1, (PA.out.step HBQ.out).cells4.2.2.2.1⟩ (fun hS' => ?_)
            clear hK K hS
            have hS := hS'
            clear hS'
            (try simp only [Act.put, List.setIfInBounds_toArray, List.set_cons_zero, List.set_cons_succ])
            refine wpAnyH_ready (rs := [13]) (by kernel_rfl) (by simp) ?_
            refine AllReadyH.cons (by simp only [List.getElem?_toArray, List.getElem?_cons_succ, List.getElem?_cons_zero]; rfl) (fun K hK => ?_) ?_
            · skip
              obtain ⟨y00, y01, yf0⟩ := P6.out.cells2
              go_simp
              clear y00 y01 yf0
              refine named_store2 P6.out ?_
              intro Ws13 hbk hgr hsz
              have hsz4 := hid hsz
              clear hsz
              replace P5 := hid (P5.out.grown hgr (fun e => P6.out.ne P5.out (by decide) (by simpa using e.symm)))
              replace HM2 := hid (mown_kept HM2.out P6.out tg1 tg2 hgr)
              replace HBQ := hid (HBQ.out.grown hgr HBQ.out.size (fun r e => by cases e; have := hszd.out; have := hsz0.out; have := hsz1.out; have := hsz2.out; have := hsz3.out; have := hsz4.out; omega))
              replace P6 := hid hbk
              clear hbk hgr
              refine hK.out _ _ ⟨(HC.out.step HBQ.out).cells4.1, (HC.out.step HBQ.out).cells4.2.1, (HC.out.step HBQ.out).cells4.2.2.1, (HC.out.step HBQ.out).cells4.2.2.2.1, (PA.out.step HBQ.out).cells4.1, (PA.out.step HBQ.out).cells4.2.1, (PA.out.step HBQ.out).cells4.2.2.1, (PA.out.step HBQ.out).cells4.2.2.2.1⟩ (fun hS' => ?_)
              clear hK K hS
              have hS := hS'
              clear hS'
              (try simp only [Act.put, List.setIfInBounds_toArray, List.set_cons_zero, List.set_cons_succ])
              refine wpAnyH_take (i := 14) (v := ?_) (by simp only [List.getElem?_toArray, List.getElem?_cons_succ, List.getElem?_cons_zero]; rfl) (by kernel_rfl) (by kernel_rfl) (by kernel_rfl) (fun _ _ _ h => h) (Or.inl ⟨by rfl, ?_⟩) hS ?_
              rotate_left
              · intro w' hSw; (try dsimp only at hSw); go_split_ands; go_simp; (try with_reducible rfl)
              (try simp only [Act.put, List.setIfInBounds_toArray, List.set_cons_zero, List.set_cons_succ])
              refine wpAnyH_done (by kernel_rfl) ?_ _
              refine NoPanic.normal ?_
              clear hS
              go_wp2_with fail
              go_meet
              exact ⟨_, _, _, _, _, _, _, _, rfl, rfl, rfl, P5.out, P6.out, HM2.out, HBQ.out⟩
            exact AllReadyH.nil
          exact AllReadyH.nil
        exact AllReadyH.nil
      refine AllReadyH.cons (by simp only [List.getElem?_toArray, List.getElem?_cons_succ, List.getElem?_cons_zero]; rfl) (fun K hK => ?_) ?_
      · skip
        go_simp
        refine named_alloc ?_
        intro Wa10 hbk hb hsz
        have hsz1 := hid hsz
        replace P6 := hid (P6.out.step hb); replace HBQ := hid (below_then HBQ.out hb)
        have P5 := hid hbk
        clear hb hbk hsz
        refine hK.out _ _ ⟨(HC.out.step HBQ.out).cells4.1, (HC.out.step HBQ.out).cells4.2.1, (HC.out.step HBQ.out).cells4.2.2.1, (HC.out.step HBQ.out).cells4.2.2.2.1, (PA.out.step HBQ.out).cells4.1, (PA.out.step HBQ.out).cells4.2.1, (PA.out.step HBQ.out).cells4.2.2.1, (PA.out.step HBQ.out).cells4.2.2.2.1⟩ (fun hS' => ?_)
        clear hK K hS
        have hS := hS'
        clear hS'
        (try simp only [Act.put, List.setIfInBounds_toArray, List.set_cons_zero, List.set_cons_succ])
        refine wpAnyH_ready (rs := [5]) (by kernel_rfl) (by simp) ?_
        refine AllReadyH.cons (by simp only [List.getElem?_toArray, List.getElem?_cons_succ, List.getElem?_cons_zero]; rfl) (fun K hK => ?_) ?_
        · skip
          go_simp
          refine (mstep_any A n c B k d f nk na no nn ws ls _ (HM.out.step HBQ.out).mem).mono ?_
          rintro e w6 ⟨A2, n2, c2, B2, k2, d2, rfl, ho, hb⟩
          have hsz2 := hid (show Wa10.heap.size ≤ w6.heap.size from hb.size)
          replace P6 := hid (P6.out.step hb); replace P5 := hid (P5.out.step hb); replace HBQ := hid (below_then HBQ.out hb)
          clear hb
          rw [HAC.out] at ho ⊢
          dsimp only at ho ⊢
          have HM2 := hid (ho.mono (show W1.heap.size ≤ _ by have := hszd.out; have := hsz0.out; have := hsz1.out; omega))
          clear ho
          go_wp2_with fail
          refine hK.out _ _ ⟨(HC.out.step HBQ.out).cells4.1, (HC.out.step HBQ.out).cells4.2.1, (HC.out.step HBQ.out).cells4.2.2.1, (HC.out.step HBQ.out).cells4.2.2.2.1, (PA.out.step HBQ.out).cells4.1, (PA.out.step HBQ.out).cells4.2.1, (PA.out.step HBQ.out).cells4.2.2.1, (PA.out.step HBQ.out).cells4.2.2.2.1⟩ (fun hS' => ?_)
          clear hK K hS
          have hS := hS'
          clear hS'
          (try simp only [Act.put, List.setIfInBounds_toArray, List.set_cons_zero, List.set_cons_succ])
          refine wpAnyH_take (i := 6) (v := ?_) (by simp only [List.getElem?_toArray, List.getElem?_cons_succ, List.getElem?_cons_zero]; rfl) (by kernel_rfl) (by kernel_rfl) (by kernel_rfl) (fun _ _ _ h => h) (Or.inl ⟨by rfl, ?_⟩) hS ?_
          rotate_left
          · intro w' hSw; (try dsimp only at hSw); go_split_ands; go_simp; (try with_reducible rfl)
          (try simp only [Act.put, List.setIfInBounds_toArray, List.set_cons_zero, List.set_cons_succ])
          refine wpAnyH_take (i := 7) (v := ?_) (by simp only [List.getElem?_toArray, List.getElem?_cons_succ, List.getElem?_cons_zero]; rfl) (by kernel_rfl) (by kernel_rfl) (by kernel_rfl) (fun _ _ _ h => h) (Or.inl ⟨by rfl, ?_⟩) hS ?_
          rotate_left
          · intro w' hSw; (try dsimp only at hSw); go_split_ands; go_simp; (try with_reducible rfl)
          (try simp only [Act.put, List.setIfInBounds_toArray, List.set_cons_zero, List.set_cons_succ])
          refine wpAnyH_take (i := 8) (v := ?_) (by simp only [List.getElem?_toArray, List.getElem?_cons_succ, List.getElem?_cons_zero]; rfl) (by kernel_rfl) (by kernel_rfl) (by kernel_rfl) (fun _ _ _ h => h) (Or.inl ⟨by rfl, ?_⟩) hS ?_
          rotate_left
          · intro w' hSw; (try dsimp only at hSw); go_split_ands; go_simp; (try with_reducible rfl)
          (try simp only [Act.put, List.setIfInBounds_toArray, List.set_cons_zero, List.set_cons_succ])
          refine wpAnyH_take (i := 9) (v := ?_) (by simp only [List.getElem?_toArray, List.getElem?_cons_succ, List.getElem?_cons_zero]; rfl) (by kernel_rfl) (by kernel_rfl) (by kernel_rfl) (fun _ _ _ h => h) (Or.inl ⟨by rfl, ?_⟩) hS ?_
          rotate_left
          · intro w' hSw; (try dsimp only at hSw); go_split_ands; go_simp; (try with_reducible rfl)
          (try simp only [Act.put, List.setIfInBounds_toArray, List.set_cons_zero, List.set_cons_succ])
          refine wpAnyH_ready (rs := [12]) (by kernel_rfl) (by simp) ?_
          refine AllReadyH.cons (by simp only [List.getElem?_toArray, List.getElem?_cons_succ, List.getElem?_cons_zero]; rfl) (fun K hK => ?_) ?_
          · skip
            obtain ⟨y00, y01, y02, yf0⟩ := P5.out.cells3
            go_simp
            clear y00 y01 y02 yf0
            refine named_store3 P5.out ?_
            intro Ws12 hbk hgr hsz
            have hsz3 := hid hsz
            clear hsz
            replace P6 := hid (P6.out.grown hgr (fun e => P5.out.ne P6.out (by decide) (by simpa using e.symm)))
            replace HM2 := hid (mown_kept HM2.out P5.out tm1 tm2 hgr)
            replace HBQ := hid (HBQ.out.grown hgr HBQ.out.size (fun r e => by cases e; have := hszd.out; have := hsz0.out; have := hsz1.out; have := hsz2.out; have := hsz3.out; omega))
            replace P5 := hid hbk
            clear hbk hgr
            refine hK.out _ _ ⟨(HC.out.step HBQ.out).cells4.1, (HC.out.step HBQ.out).cells4.2.1, (HC.out.step HBQ.out).cells4.2.2.1, (HC.out.step HBQ.out).cells4.2.2.2.1, (PA.out.step HBQ.out).cells4.1, (PA.out.step HBQ.out).cells4.2.1, (PA.out.step HBQ.out).cells4.2.2.1, (PA.out.step HBQ.out).cells4.2.2.2.1⟩ (fun hS' => ?_)
            clear hK K hS
            have hS := hS'
            clear hS'
            (try simp only [Act.put, List.setIfInBounds_toArray, List.set_cons_zero, List.set_cons_succ])
            refine wpAnyH_ready (rs := [13]) (by kernel_rfl) (by simp) ?_
            refine AllReadyH.cons (by simp only [List.getElem?_toArray, List.getElem?_cons_succ, List.getElem?_cons_zero]; rfl) (fun K hK => ?_) ?_
            · skip
              obtain ⟨y00, y01, yf0⟩ := P6.out.cells2
              go_simp
              clear y00 y01 yf0
              refine named_store2 P6.out ?_
              intro Ws13 hbk hgr hsz
              have hsz4 := hid hsz
              clear hsz
              replace P5 := hid (P5.out.grown hgr (fun e => P6.out.ne P5.out (by decide) (by simpa using e.symm)))
              replace HM2 := hid (mown_kept HM2.out P6.out tg1 tg2 hgr)
              replace HBQ := hid (HBQ.out.grown hgr HBQ.out.size (fun r e => by cases e; have := hszd.out; have := hsz0.out; have := hsz1.out; have := hsz2.out; have := hsz3.out; have := hsz4.out; omega))
              replace P6 := hid hbk
              clear hbk hgr
              refine hK.out _ _ ⟨(HC.out.step HBQ.out).cells4.1, (HC.out.step HBQ.out).cells4.2.1, (HC.out.step HBQ.out).cells4.2.2.1, (HC.out.step HBQ.out).cells4.2.2.2.1, (PA.out.step HBQ.out).cells4.1, (PA.out.step HBQ.out).cells4.2.1, (PA.out.step HBQ.out).cells4.2.2.1, (PA.out.step HBQ.out).cells4.2.2.2.1⟩ (fun hS' => ?_)
              clear hK K hS
              have hS := hS'
              clear hS'
              (try simp only [Act.put, List.setIfInBounds_toArray, List.set_cons_zero, List.set_cons_succ])
              refine wpAnyH_take (i := 14) (v := ?_) (by simp only [List.getElem?_toArray, List.getElem?_cons_succ, List.getElem?_cons_zero]; rfl) (by kernel_rfl) (by kernel_rfl) (by kernel_rfl) (fun _ _ _ h => h) (Or.inl ⟨by rfl, ?_⟩) hS ?_
              rotate_left
              · intro w' hSw; (try dsimp only at hSw); go_split_ands; go_simp; (try with_reducible rfl)
              (try simp only [Act.put, List.setIfInBounds_toArray, List.set_cons_zero, List.set_cons_succ])
              refine wpAnyH_done (by kernel_rfl) ?_ _
              refine NoPanic.normal ?_
              clear hS
              go_wp2_with fail
              go_meet
              exact ⟨_, _, _, _, _, _, _, _, rfl, rfl, rfl, P5.out, P6.out, HM2.out, HBQ.out⟩
            exact AllReadyH.nil
          exact AllReadyH.nil
        exact AllReadyH.nil
      exact AllReadyH.nil
    exact AllReadyH.nil
  case rest =>
    obtain ⟨g5, g6, A2, n2, c2, B2, k2, d2, rfl, rfl, rfl, hmid⟩ := hcut
    rename World => W6
    have hb := hmid.be
    replace HC := hid (HC.out.step hb); replace HB := hid (below_then HB.out hb)
    have P5 := hid hmid.b5; have P6 := hid hmid.b6; have HM2 := hid (hmid.own.mono (show w.heap.size ≤ W1.heap.size by have := hz1.out; omega))
    clear hb hmid HM PA HBQ
    obtain ⟨y00, y01, y02, yf0⟩ := P5.out.cells3
    obtain ⟨y10, y11, yf1⟩ := P6.out.cells2
    obtain ⟨y20, y21, y22, y23, yf2⟩ := HC.out.cells4
    go_upto_region 2 with fail
    clear y00 y01 y02 yf0 y10 y11 yf1 y20 y21 y22 y23 yf2
    have bx := (Below.refl W6.heap.size W6).drew
    replace HC := hid (HC.out.step bx); replace P5 := hid (P5.out.step bx); replace P6 := hid (P6.out.step bx); replace HM2 := hid (HM2.out.step bx); replace HB := hid (below_then HB.out bx)
    clear bx
    have hszd := hid (show W6.drew.heap.size = W6.heap.size from rfl)
    refine wp_region_noPanic ?_
    refine wp_region_held_drew (S := (fun W' : World => W'.cell? ⟨g5, 0, none⟩ = some (.slice A2 n2 c2) ∧ W'.cell? ⟨g5, 1, none⟩ = some (.slice B2 k2 d2) ∧ W'.cell? ⟨g5, 2, none⟩ = some (.bool f2) ∧ W'.cell? ⟨g6, 0, none⟩ = some (.int .u64 gx) ∧ W'.cell? ⟨g6, 1, none⟩ = some (.bool gy))) (by kernel_rfl) ⟨P5.out.cells3.1, P5.out.cells3.2.1, P5.out.cells3.2.2.1, P6.out.cells2.1, P6.out.cells2.2.1⟩ (fun hS => ?_)
    generalize W6.drew = Wd at *
    refine wpAnyH_take (i := 0) (v := ?_) (by simp only [List.getElem?_toArray, List.getElem?_cons_succ, List.getElem?_cons_zero]; rfl) (by kernel_rfl) (by kernel_rfl) (by kernel_rfl) (fun _ _ _ h => h) (Or.inl ⟨by rfl, ?_⟩) hS ?_
    rotate_left
    · intro w' hSw; (try dsimp only at hSw); go_split_ands; go_simp; (try with_reducible rfl)
    (try simp only [Act.put, List.setIfInBounds_toArray, List.set_cons_zero, List.set_cons_succ])
    refine wpAnyH_take (i := 1) (v := ?_) (by simp only [List.getElem?_toArray, List.getElem?_cons_succ, List.getElem?_cons_zero]; rfl) (by kernel_rfl) (by kernel_rfl) (by kernel_rfl) (fun _ _ _ h => h) (Or.inl ⟨by rfl, ?_⟩) hS ?_
    rotate_left
    · intro w' hSw; (try dsimp only at hSw); go_split_ands; go_simp; (try with_reducible rfl)
    (try simp only [Act.put, List.setIfInBounds_toArray, List.set_cons_zero, List.set_cons_succ])
    refine wpAnyH_take (i := 2) (v := ?_) (by simp only [List.getElem?_toArray, List.getElem?_cons_succ, List.getElem?_cons_zero]; rfl) (by kernel_rfl) (by kernel_rfl) (by kernel_rfl) (fun _ _ _ h => h) (Or.inl ⟨by rfl, ?_⟩) hS ?_
    rotate_left
    · intro w' hSw; (try dsimp only at hSw); go_split_ands; go_simp; (try with_reducible rfl)
    (try simp only [Act.put, List.setIfInBounds_toArray, List.set_cons_zero, List.set_cons_succ])
    refine wpAnyH_take (i := 3) (v := ?_) (by simp only [List.getElem?_toArray, List.getElem?_cons_succ, List.getElem?_cons_zero]; rfl) (by kernel_rfl) (by kernel_rfl) (by kernel_rfl) (fun _ _ _ h => h) (Or.inl ⟨by rfl, ?_⟩) hS ?_
    rotate_left
    · intro w' hSw; (try dsimp only at hSw); go_split_ands; go_simp; (try with_reducible rfl)
    (try simp only [Act.put, List.setIfInBounds_toArray, List.set_cons_zero, List.set_cons_succ])
    refine wpAnyH_take (i := 4) (v := ?_) (by simp only [List.getElem?_toArray, List.getElem?_cons_succ, List.getElem?_cons_zero]; rfl) (by kernel_rfl) (by kernel_rfl) (by kernel_rfl) (fun _ _ _ h => h) (Or.inl ⟨by rfl, ?_⟩) hS ?_
    rotate_left
    · intro w' hSw; (try dsimp only at hSw); go_split_ands; go_simp; (try with_reducible rfl)
    (try simp only [Act.put, List.setIfInBounds_toArray, List.set_cons_zero, List.set_cons_succ])
    refine wpAnyH_take (i := 5) (v := ?_) (by simp only [List.getElem?_toArray, List.getElem?_cons_succ, List.getElem?_cons_zero]; rfl) (by kernel_rfl) (by kernel_rfl) (by kernel_rfl) (fun _ _ _ h => h) (Or.inl ⟨by rfl, ?_⟩) hS ?_
    rotate_left
    · intro w' hSw; (try dsimp only at hSw); go_split_ands; go_simp; (try with_reducible rfl)
    (try simp only [Act.put, List.setIfInBounds_toArray, List.set_cons_zero, List.set_cons_succ])
    refine wpAnyH_take (i := 6) (v := ?_) (by simp only [List.getElem?_toArray, List.getElem?_cons_succ, List.getElem?_cons_zero]; rfl) (by kernel_rfl) (by kernel_rfl) (by kernel_rfl) (fun _ _ _ h => h) (Or.inl ⟨by rfl, ?_⟩) hS ?_
    rotate_left
    · intro w' hSw; (try dsimp only at hSw); go_split_ands; go_simp; (try with_reducible rfl)
    (try simp only [Act.put, List.setIfInBounds_toArray, List.set_cons_zero, List.set_cons_succ])
    refine wpAnyH_take (i := 7) (v := ?_) (by simp only [List.getElem?_toArray, List.getElem?_cons_succ, List.getElem?_cons_zero]; rfl) (by kernel_rfl) (by kernel_rfl) (by kernel_rfl) (fun _ _ _ h => h) (Or.inl ⟨by rfl, ?_⟩) hS ?_
    rotate_left
    · intro w' hSw; (try dsimp only at hSw); go_split_ands; go_simp; (try with_reducible rfl)
    (try simp only [Act.put, List.setIfInBounds_toArray, List.set_cons_zero, List.set_cons_succ])
    refine wpAnyH_ready (rs := [8]) (by kernel_rfl) (by simp) ?_
    refine AllReadyH.cons (by simp only [List.getElem?_toArray, List.getElem?_cons_succ, List.getElem?_cons_zero]; rfl) (fun K hK => ?_) ?_
    · skip
      obtain ⟨y00, y01, y02, y03, yf0⟩ := HC.out.cells4
      go_simp
      clear y00 y01 y02 y03 yf0
      refine named_store_3_4_0 HC.out ?_
      intro Wc8 hbk hgr hsz
      have hsz8 := hid hsz
      replace P5 := hid (P5.out.grown hgr (fun e => HC.out.ne P5.out (by decide) (by simpa using e.symm)))
      replace P6 := hid (P6.out.grown hgr (fun e => HC.out.ne P6.out (by decide) (by simpa using e.symm)))
      replace HM2 := hid (mown_kept HM2.out HC.out tc1 tc2 hgr)
      have HGB := hid (below_grown HB.out hgr)
      replace HC := hid hbk
      clear hbk hgr hsz HB
      refine hK.out _ _ ⟨P5.out.cells3.1, P5.out.cells3.2.1, P5.out.cells3.2.2.1, P6.out.cells2.1, P6.out.cells2.2.1⟩ (fun hS' => ?_)
      clear hK K hS
      have hS := hS'
      clear hS'
      (try simp only [Act.put, List.setIfInBounds_toArray, List.set_cons_zero, List.set_cons_succ])
      refine wpAnyH_take (i := 9) (v := ?_) (by simp only [List.getElem?_toArray, List.getElem?_cons_succ, List.getElem?_cons_zero]; rfl) (by kernel_rfl) (by kernel_rfl) (by kernel_rfl) (fun _ _ _ h => h) (Or.inl ⟨by rfl, ?_⟩) hS ?_
      rotate_left
      · intro w' hSw; (try dsimp only at hSw); go_split_ands; go_simp; (try with_reducible rfl)
      (try simp only [Act.put, List.setIfInBounds_toArray, List.set_cons_zero, List.set_cons_succ])
      refine wpAnyH_take (i := 10) (v := ?_) (by simp only [List.getElem?_toArray, List.getElem?_cons_succ, List.getElem?_cons_zero]; rfl) (by kernel_rfl) (by kernel_rfl) (by kernel_rfl) (fun _ _ _ h => h) (Or.inl ⟨by rfl, ?_⟩) hS ?_
      rotate_left
      · intro w' hSw; (try dsimp only at hSw); go_split_ands; go_simp; (try with_reducible rfl)
      (try simp only [Act.put, List.setIfInBounds_toArray, List.set_cons_zero, List.set_cons_succ])
      refine wpAnyH_ready (rs := [11]) (by kernel_rfl) (by simp) ?_
      refine AllReadyH.cons (by simp only [List.getElem?_toArray, List.getElem?_cons_succ, List.getElem?_cons_zero]; rfl) (fun K hK => ?_) ?_
      · skip
        obtain ⟨y00, y01, y02, y03, yf0⟩ := HC.out.cells4
        go_simp
        clear y00 y01 y02 y03 yf0
        refine named_cell HC.out 3 (.bool (!gy)) rfl ?_
        intro Wc11 hbk hgr hsz
        have hsz11 := hid hsz
        replace P5 := hid (P5.out.grown hgr (fun e => HC.out.ne P5.out (by decide) (by simpa using e.symm)))
        replace P6 := hid (P6.out.grown hgr (fun e => HC.out.ne P6.out (by decide) (by simpa using e.symm)))
        replace HM2 := hid (mown_kept HM2.out HC.out tc1 tc2 hgr)
        replace HGB := hid (grown_trans HGB.out hgr)
        replace HC := hid hbk
        clear hbk hgr hsz
        refine hK.out _ _ ⟨P5.out.cells3.1, P5.out.cells3.2.1, P5.out.cells3.2.2.1, P6.out.cells2.1, P6.out.cells2.2.1⟩ (fun hS' => ?_)
        clear hK K hS
        have hS := hS'
        clear hS'
        (try simp only [Act.put, List.setIfInBounds_toArray, List.set_cons_zero, List.set_cons_succ])
        refine wpAnyH_done (by kernel_rfl) ?_ _
        refine NoPanic.normal ?_
        clear hS
        obtain ⟨y00, y01, yf0⟩ := P6.out.cells2
        go_wp2
        go_ret
        exact ⟨rfl, ⟨_, _, _, _, _, _, HC.out, HM2.out⟩, HGB.out⟩
      exact AllReadyH.nil
    exact AllReadyH.nil
end Go.Proofs.Ytnkaajkdjbdpaaa
