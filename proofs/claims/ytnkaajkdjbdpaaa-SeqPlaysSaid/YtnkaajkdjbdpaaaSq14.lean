/- package seq: Play. No condition but sizes. -/
import Derived.Test.YtnkaajkdjbdpaaaSq13
import Derived.Test.YtnkaajkdjbdpaaaSqP
import Derived.Test.YtnkaajkdjbdpaaaKitA
namespace Go.Proofs.Ytnkaajkdjbdpaaa
open Go.RowKit
def AllWr (l : List Swr) : Prop := ∀ s ∈ l, WrOkS s
instance {l : List Swr} : Decidable (AllWr l) := by unfold AllWr; infer_instance
def sqplayC (m : MSt) (r : Srd) (l : List Swr) (ps : List Bool) : Int × MSt × Srd :=
  if ¬ MGood m.1 m.2.1 then (120, ([], [], false), zRd) else if ¬ RdOkS r ∨ ¬ AllWr l then (160, ([], [], false), zRd) else (0, (sqplay (m, r, l) ps).1, (sqplay (m, r, l) ps).2.1)
def SPPost (w : World) (r : Int × MSt × Srd) (e : Ending) (w' : World) : Prop :=
  ∃ A n c B k d V vn vc, e = .returned (.tuple #[mv A n c B k d r.2.1.2.2, rdV r.2.2 V vn vc, .int .i64 r.1]) ∧ Mown w' w.heap.size A n c B k d r.2.1.1 r.2.1.2.1 ∧ Ow u64v w' w.heap.size 27 V vn vc r.2.2.vs ∧ Below w.heap.size w w'
theorem fstIx_neg (p : WrE → Bool) : ∀ l : List WrE, fstIx p l < 0 ↔ ∀ x ∈ l, p x = false
  | [] => by simp [fstIx]
  | x :: l => by
    have ih := fstIx_neg p l
    unfold fstIx
    by_cases h : p x = true
    · rw [if_pos h]
      refine ⟨fun h => absurd h (by decide), fun hh => ?_⟩
      rw [hh x (by simp)] at h; cases h
    · have h' : p x = false := by simpa using h
      rw [if_neg h]
      split
      · rename_i hn
        refine ⟨fun _ y hy => ?_, fun _ => by decide⟩
        rcases List.mem_cons.1 hy with rfl | hy
        · exact h'
        · exact ih.1 hn y hy
      · rename_i hn
        refine ⟨fun hh => by omega, fun hh => absurd (ih.2 fun y hy => hh y (List.mem_cons_of_mem _ hy)) hn⟩
theorem fstIx_goes : ∀ l : List WrE, fstIx goesW l = firstGo (l.map Prod.fst)
  | [] => rfl
  | x :: l => by
    have ih := fstIx_goes l
    unfold fstIx
    rw [List.map_cons]
    unfold firstGo
    rw [ih]
    by_cases h : x.1.ph < 4
    · rw [if_pos h, if_pos (show goesW x = true from decide_eq_true h)]
    · rw [if_neg h, if_neg (show ¬ goesW x = true by rw [show goesW x = false from decide_eq_false h]; decide)]
theorem VRow.len {W : World} {B : Nat} {V : Option Addr} {n : Nat} {vs : List Int} (h : VRow W B V n vs) : vs.length = n := by
  rcases h with h | ⟨lo, c, h⟩
  · exact h.len
  · exact h.len
theorem allwr_iff {W : World} {B : Nat} {es : List WrE} (h : VRows W B es) : AllWr (es.map Prod.fst) ↔ fstIx badW es < 0 := by
  rw [fstIx_neg]
  constructor
  · intro ha x hx
    have := ha x.1 (List.mem_map.2 ⟨x, hx, rfl⟩)
    unfold WrOkS at this
    rw [(h x hx).1.len] at this
    exact decide_eq_false (not_not_intro this)
  · intro hb s hs
    obtain ⟨x, hx, rfl⟩ := List.mem_map.1 hs
    have := of_decide_eq_false (hb x hx)
    unfold WrOkS
    rw [(h x hx).1.len]
    exact Decidable.of_not_not this
theorem take_succB {v : List Bool} {k : Nat} (h : k < v.length) : v.take (k + 1) = v.take k ++ [v[k]?.getD false] := by
  rw [List.take_succ_eq_append_getElem h, List.getElem?_eq_getElem h]; rfl
theorem setmap (es : List WrE) (i : Nat) (x : WrE) : (es.set i x).map Prod.fst = (es.map Prod.fst).set i x.1 := List.map_set
/-- what the rounds keep; j: picks made -/
structure SPI (w : World) (m0 : MSt) (r0 : Srd) (l0 : List Swr) (ps : List Bool) (j : Nat) (L : Option Addr) (nl cl : Nat) (W : World) : Prop where
  out : ∃ A n c B k d m V vn vc r es, Blk W w.heap.size 44 (mcs A n c B k d m.2.2) ∧ Mown W w.heap.size A n c B k d m.1 m.2.1 ∧ Blk W (w.heap.size + 1) 29 (rdc r.a r.f r.m r.ph r.bg V vn vc r.tr) ∧ Ow u64v W w.heap.size 27 V vn vc r.vs ∧ vn ≤ 100000 ∧
    Om 6 encW W w.heap.size 34 L nl cl es ∧ VRows W w.heap.size es ∧ (m, r, es.map Prod.fst) = sqplay (m0, r0, l0) (ps.take j)
  qm : Blk W (w.heap.size + 2) 44 (mcs none 0 0 none 0 0 false)
  qs : Blk W (w.heap.size + 3) 29 (rdc 0 0 0 0 0 none 0 0 0)
  be : Below w.heap.size w W
  ok : SqAll (m0, r0, l0)
set_option maxRecDepth 1000000 in
def SPJ (w : World) (A : Option Addr) (n c : Nat) (B : Option Addr) (k d : Nat) (m : MSt) (r : Srd) (V : Option Addr) (vn vc : Nat) (L : Option Addr) (nl cl : Nat) (l : List Swr) (Q : Option Addr) (nq cq : Nat) (ps : List Bool) (a : Act) (W : World) : Prop :=
  ∃ (L5 : Option Addr) (cl5 j : Nat) (u15 u16 u17 u18 u19 u20 u21 u22 u23 u24 u25 u26 u27 u28 u29 u30 u31 u32 u33 u34 u35 u36 u37 u38 u39 u40 u41 u42 u43 u44 u45 u46 u47 u48 u49 u50 u51 u52 u53 u54 u55 u56 u57 u58 u59 u60 u61 u62 u63 u64 u65 u66 u67 u68 u69 u70 u71 u72 u73 u74 u75 u76 u77 : Value), a = { tmps := #[mv A n c B k d m.2.2, rdV r V vn vc, .slice L nl cl, .slice Q nq cq, ptr w.heap.size, ptr (w.heap.size + 1), undef, undef, ptr (w.heap.size + 1 + 1), ptr (w.heap.size + 1 + 1 + 1), .int .i64 0, .func (.func 42) #[] #[], .slice L5 nl cl5, .func (.func 47) #[] #[], .int .i64 j, u15, u16, u17, u18, u19, u20, u21, u22, u23, u24, u25, u26, u27, u28, u29, u30, u31, u32, u33, u34, u35, u36, u37, u38, u39, u40, u41, u42, u43, u44, u45, u46, u47, u48, u49, u50, u51, u52, u53, u54, u55, u56, u57, u58, u59, u60, u61, u62, u63, u64, u65, u66, u67, u68, u69, u70, u71, u72, u73, u74, u75, u76, u77], defers := [] } ∧ j ≤ nq ∧ SPI w m r l ps j L5 nl cl5 W
theorem WrOkS.len {s : Swr} (h : WrOkS s) : s.vs.length ≤ 100000 := by
  obtain ⟨h1, ⟨_, _, _, _, h2, _⟩, _⟩ := h
  omega
theorem row6 {W : World} {lo g n c k : Nat} {es : List WrE} {s : Swr} {V : Option Addr} {vn vc : Nat} (h : Om 6 encW W lo 34 (some ⟨g, 0, none⟩) n c es) (hk : k < n) (hx : (s, V, vn, vc) = es[k]?.getD zWe) :
    W.cell? ⟨g, k * 6, none⟩ = some (.int .i64 s.a) ∧ W.cell? ⟨g, k * 6 + 1, none⟩ = some (.int .i64 s.f) ∧ W.cell? ⟨g, k * 6 + 2, none⟩ = some (.slice V vn vc) ∧ W.cell? ⟨g, k * 6 + 3, none⟩ = some (.int .i64 s.ph) ∧ W.cell? ⟨g, k * 6 + 4, none⟩ = some (.int .u64 s.bg) ∧ W.cell? ⟨g, k * 6 + 5, none⟩ = some (.int .i64 s.wr) ∧ ∀ i, W.frozen? ⟨g, i, none⟩ = false := by
  obtain ⟨g', e, _, _, hc, hf⟩ := h.at_ zWe hk
  obtain rfl : g = g' := by simpa using e
  rw [← hx] at hc
  exact ⟨hc 0 (by omega), hc 1 (by omega), hc 2 (by omega), hc 3 (by omega), hc 4 (by omega), hc 5 (by omega), hf⟩
theorem RdOkS.len {r : Srd} (h : RdOkS r) : r.vs.length ≤ 16 := by
  obtain ⟨h1, ⟨_, _, _, _, h2, _⟩, _, _, _, h3⟩ := h
  omega
set_option maxRecDepth 100000 in
set_option maxHeartbeats 8000000 in
theorem seqplay_any (A : Option Addr) (n c : Nat) (B : Option Addr) (k d : Nat) (m : MSt) (r : Srd) (V : Option Addr) (vn vc : Nat) (L : Option Addr) (nl cl : Nat) (es : List WrE) (Q : Option Addr) (nq cq : Nat) (ps : List Bool) (w : World) (h : Mem w A n c B k d m.1 m.2.1) (hv : Sl u64v 0 w 0 w.heap.size V vn r.vs) (hvn : vn ≤ 100000)
    (hl : Sm 6 encW zWe w 0 w.heap.size L nl es) (hvs : VRows w w.heap.size es) (hnl : nl ≤ 1000) (hq : Sl blv false w 0 w.heap.size Q nq ps) (hnq : nq ≤ 100000) :
    Calls Try.prog 24 #[mv A n c B k d m.2.2, rdV r V vn vc, .slice L nl cl, .slice Q nq cq] w (SPPost w (sqplayC m r (es.map Prod.fst) ps)) := by
  have HM := hid h; have HV := hid hv; have HL := hid hl; have HQ := hid hq; have HB := hid (Below.refl w.heap.size w); have HVS := hid hvs
  obtain ⟨l, hlm⟩ : ∃ l, l = es.map Prod.fst := ⟨_, rfl⟩
  rw [← hlm]
  have HLM := hid hlm; have hnle := hid hl.len; have hnqe := hid hq.len
  have HE := hid (show sqplayC m r l ps = if ¬ MGood m.1 m.2.1 then (120, ([], [], false), zRd) else if ¬ RdOkS r ∨ ¬ AllWr l then (160, ([], [], false), zRd) else (0, (sqplay (m, r, l) ps).1, (sqplay (m, r, l) ps).2.1) from rfl)
  have HC := hid (show mcheckC m.1 m.2.1 = if MGood m.1 m.2.1 then 0 else 120 from rfl)
  have HOS := hid (show RdOkS r ↔ RdOk r.a r.f r.m r.ph r.bg vn r.tr from by unfold RdOkS; rw [hv.len])
  have HAW := hid (allwr_iff hvs)
  clear h hv hl hq hlm
  have XV := HV; have XQ := HQ
  clear HV HQ
  have bx := below_box w (.cells (mcs A n c B k d m.2.2) 44)
  replace HM := hid (HM.out.step bx); replace HL := hid (HL.out.step bx); replace HB := hid (below_then HB.out bx)
  clear bx
  have PM := hid (Blk.new w 44 (mcs A n c B k d m.2.2))
  have bx := below_box (w.alloc (.cells (mcs A n c B k d m.2.2) 44)) (.cells (rdc r.a r.f r.m r.ph r.bg V vn vc r.tr) 29)
  replace HM := hid (HM.out.step bx); replace HL := hid (HL.out.step bx); replace PM := hid (PM.out.step bx); replace HB := hid (below_then HB.out bx)
  clear bx
  have PS := hid (Blk.new2 w 29 (rdc r.a r.f r.m r.ph r.bg V vn vc r.tr) (.cells (mcs A n c B k d m.2.2) 44))
  have bx := below_box ((w.alloc (.cells (mcs A n c B k d m.2.2) 44)).alloc (.cells (rdc r.a r.f r.m r.ph r.bg V vn vc r.tr) 29)) (.cells (mcs none 0 0 none 0 0 false) 44)
  replace HM := hid (HM.out.step bx); replace HL := hid (HL.out.step bx); replace PM := hid (PM.out.step bx); replace PS := hid (PS.out.step bx); replace HB := hid (below_then HB.out bx)
  clear bx
  have QM := hid (Blk.new3 w 44 (mcs none 0 0 none 0 0 false) (.cells (mcs A n c B k d m.2.2) 44) (.cells (rdc r.a r.f r.m r.ph r.bg V vn vc r.tr) 29))
  have bx := below_box (((w.alloc (.cells (mcs A n c B k d m.2.2) 44)).alloc (.cells (rdc r.a r.f r.m r.ph r.bg V vn vc r.tr) 29)).alloc (.cells (mcs none 0 0 none 0 0 false) 44)) (.cells (rdc 0 0 0 0 0 none 0 0 0) 29)
  replace HM := hid (HM.out.step bx); replace HL := hid (HL.out.step bx); replace PM := hid (PM.out.step bx); replace PS := hid (PS.out.step bx); replace QM := hid (QM.out.step bx); replace HB := hid (below_then HB.out bx)
  clear bx
  have QS := hid (Blk.new4 w 29 (rdc 0 0 0 0 0 none 0 0 0) (.cells (mcs A n c B k d m.2.2) 44) (.cells (rdc r.a r.f r.m r.ph r.bg V vn vc r.tr) 29) (.cells (mcs none 0 0 none 0 0 false) 44))
  have eg1 := enters_of Try.func42 (by kernel_rfl) rfl; have eg2 := enters_of Try.func47 (by kernel_rfl) rfl
  go_enter Try.func24, Try.ntmps24
  go_wp2_with fail
  have hz0 := hid (show ((((w.alloc (.cells (mcs A n c B k d m.2.2) 44)).alloc (.cells (rdc r.a r.f r.m r.ph r.bg V vn vc r.tr) 29)).alloc (.cells (mcs none 0 0 none 0 0 false) 44)).alloc (.cells (rdc 0 0 0 0 0 none 0 0 0) 29)).heap.size = w.heap.size + 4 by simp)
  generalize (((w.alloc (.cells (mcs A n c B k d m.2.2) 44)).alloc (.cells (rdc r.a r.f r.m r.ph r.bg V vn vc r.tr) 29)).alloc (.cells (mcs none 0 0 none 0 0 false) 44)).alloc (.cells (rdc 0 0 0 0 0 none 0 0 0) 29) = W0 at *
  refine wp_scope_label 0 (SPJ w A n c B k d m r V vn vc L nl cl l Q nq cq ps) (fun a _ => nq - (intOf (a.tmps.getD 14 undef)).toNat) rfl (fun hlabel => ?_) ?_
  · skip
    obtain ⟨y00, y01, y02, yf0⟩ := PM.out.cells3
    go_wp2_with fail
    clear y00 y01 y02 yf0
    refine (mcheck_any A n c B k d m.2.2 m.1 m.2.1 _ HM.out).mono ?_
    rintro e w1 ⟨rfl, hb⟩
    replace HM := hid (HM.out.step hb); replace HL := hid (HL.out.step hb); replace PM := hid (PM.out.step hb); replace PS := hid (PS.out.step hb); replace QM := hid (QM.out.step hb); replace QS := hid (QS.out.step hb); replace HB := hid (below_then HB.out hb)
    clear hb
    by_cases hg : MGood m.1 m.2.1
    rotate_left
    · rw [HC.out, if_neg hg]
      obtain ⟨y00, y01, y02, yf0⟩ := QM.out.cells3
      obtain ⟨y10, y11, y12, y13, y14, y15, y16, yf1⟩ := QS.out.cells7
      go_wp2
      have X0 := (((QM.out.setCell 0 (.slice none 0 0)).setCell 1 (.slice none 0 0)).setCell 2 (.bool false)); have X1 := (((QS.out.far (p := ⟨w.heap.size + 2, 0, none⟩) (by simp) (.slice none 0 0)).far (p := ⟨w.heap.size + 2, 1, none⟩) (by simp) (.slice none 0 0)).far (p := ⟨w.heap.size + 2, 2, none⟩) (by simp) (.bool false)); have X2 := (((HB.out.setCell (p := ⟨w.heap.size + 2, 0, none⟩) (by simp) (.slice none 0 0)).setCell (p := ⟨w.heap.size + 2, 1, none⟩) (by simp) (.slice none 0 0)).setCell (p := ⟨w.heap.size + 2, 2, none⟩) (by simp) (.bool false))
      obtain ⟨v0, v1, v2, vf⟩ := (((((((X0.far (p := ⟨w.heap.size + 3, 0, none⟩) (by simp) (.int .i64 0)).far (p := ⟨w.heap.size + 3, 1, none⟩) (by simp) (.int .i64 0)).far (p := ⟨w.heap.size + 3, 2, none⟩) (by simp) (.int .i64 0)).far (p := ⟨w.heap.size + 3, 3, none⟩) (by simp) (.int .i64 0)).far (p := ⟨w.heap.size + 3, 4, none⟩) (by simp) (.int .u64 0)).far (p := ⟨w.heap.size + 3, 5, none⟩) (by simp) (.slice none 0 0)).far (p := ⟨w.heap.size + 3, 6, none⟩) (by simp) (.int .i64 0)).cells3
      obtain ⟨q0, q1, q2, q3, q4, q5, q6, qf⟩ := (((((((X1.setCell 0 (.int .i64 0)).setCell 1 (.int .i64 0)).setCell 2 (.int .i64 0)).setCell 3 (.int .i64 0)).setCell 4 (.int .u64 0)).setCell 5 (.slice none 0 0)).setCell 6 (.int .i64 0)).cells7
      refine bodyPost_ret (v := .tuple #[mv none 0 0 none 0 0 false, .agg #[.int .i64 0, .int .i64 0, .int .i64 0, .int .i64 0, .int .u64 0, .slice none 0 0, .int .i64 0], .int .i64 120]) (by simp [results, Try.results24, go_sem, v0, v1, v2, q0, q1, q2, q3, q4, q5, q6]) rfl ?_
      rw [HE.out, if_pos hg]
      exact ⟨none, 0, 0, none, 0, 0, none, 0, 0, rfl, Mown.none _ _, Ow.nil _ _ _, (((((((X2.setCell (p := ⟨w.heap.size + 3, 0, none⟩) (by simp) (.int .i64 0)).setCell (p := ⟨w.heap.size + 3, 1, none⟩) (by simp) (.int .i64 0)).setCell (p := ⟨w.heap.size + 3, 2, none⟩) (by simp) (.int .i64 0)).setCell (p := ⟨w.heap.size + 3, 3, none⟩) (by simp) (.int .i64 0)).setCell (p := ⟨w.heap.size + 3, 4, none⟩) (by simp) (.int .u64 0)).setCell (p := ⟨w.heap.size + 3, 5, none⟩) (by simp) (.slice none 0 0)).setCell (p := ⟨w.heap.size + 3, 6, none⟩) (by simp) (.int .i64 0))⟩
    rw [HC.out, if_pos hg]
    have HG := hid hg
    clear hg HC
    obtain ⟨y00, y01, y02, y03, y04, y05, y06, yf0⟩ := PS.out.cells7
    go_wp2_with fail
    clear y00 y01 y02 y03 y04 y05 y06 yf0
    refine (scheckread_any r.a r.f r.m r.ph r.bg V vn vc r.tr _ hvn).mono ?_
    rintro e w2 ⟨rfl, hb⟩
    replace HM := hid (HM.out.step hb); replace HL := hid (HL.out.step hb); replace PM := hid (PM.out.step hb); replace PS := hid (PS.out.step hb); replace QM := hid (QM.out.step hb); replace QS := hid (QS.out.step hb); replace HB := hid (below_then HB.out hb)
    clear hb
    by_cases hs : RdOkS r
    rotate_left
    · rw [decide_eq_false (fun h => hs (HOS.out.2 h))]
      dsimp only [Bool.false_eq_true, if_false]
      obtain ⟨y00, y01, y02, yf0⟩ := QM.out.cells3
      obtain ⟨y10, y11, y12, y13, y14, y15, y16, yf1⟩ := QS.out.cells7
      go_wp2
      have X0 := (((QM.out.setCell 0 (.slice none 0 0)).setCell 1 (.slice none 0 0)).setCell 2 (.bool false)); have X1 := (((QS.out.far (p := ⟨w.heap.size + 2, 0, none⟩) (by simp) (.slice none 0 0)).far (p := ⟨w.heap.size + 2, 1, none⟩) (by simp) (.slice none 0 0)).far (p := ⟨w.heap.size + 2, 2, none⟩) (by simp) (.bool false)); have X2 := (((HB.out.setCell (p := ⟨w.heap.size + 2, 0, none⟩) (by simp) (.slice none 0 0)).setCell (p := ⟨w.heap.size + 2, 1, none⟩) (by simp) (.slice none 0 0)).setCell (p := ⟨w.heap.size + 2, 2, none⟩) (by simp) (.bool false))
      obtain ⟨v0, v1, v2, vf⟩ := (((((((X0.far (p := ⟨w.heap.size + 3, 0, none⟩) (by simp) (.int .i64 0)).far (p := ⟨w.heap.size + 3, 1, none⟩) (by simp) (.int .i64 0)).far (p := ⟨w.heap.size + 3, 2, none⟩) (by simp) (.int .i64 0)).far (p := ⟨w.heap.size + 3, 3, none⟩) (by simp) (.int .i64 0)).far (p := ⟨w.heap.size + 3, 4, none⟩) (by simp) (.int .u64 0)).far (p := ⟨w.heap.size + 3, 5, none⟩) (by simp) (.slice none 0 0)).far (p := ⟨w.heap.size + 3, 6, none⟩) (by simp) (.int .i64 0)).cells3
      obtain ⟨q0, q1, q2, q3, q4, q5, q6, qf⟩ := (((((((X1.setCell 0 (.int .i64 0)).setCell 1 (.int .i64 0)).setCell 2 (.int .i64 0)).setCell 3 (.int .i64 0)).setCell 4 (.int .u64 0)).setCell 5 (.slice none 0 0)).setCell 6 (.int .i64 0)).cells7
      refine bodyPost_ret (v := .tuple #[mv none 0 0 none 0 0 false, .agg #[.int .i64 0, .int .i64 0, .int .i64 0, .int .i64 0, .int .u64 0, .slice none 0 0, .int .i64 0], .int .i64 160]) (by simp [results, Try.results24, go_sem, v0, v1, v2, q0, q1, q2, q3, q4, q5, q6]) rfl ?_
      rw [HE.out, if_neg (not_not_intro HG.out), if_pos (.inl hs)]
      exact ⟨none, 0, 0, none, 0, 0, none, 0, 0, rfl, Mown.none _ _, Ow.nil _ _ _, (((((((X2.setCell (p := ⟨w.heap.size + 3, 0, none⟩) (by simp) (.int .i64 0)).setCell (p := ⟨w.heap.size + 3, 1, none⟩) (by simp) (.int .i64 0)).setCell (p := ⟨w.heap.size + 3, 2, none⟩) (by simp) (.int .i64 0)).setCell (p := ⟨w.heap.size + 3, 3, none⟩) (by simp) (.int .i64 0)).setCell (p := ⟨w.heap.size + 3, 4, none⟩) (by simp) (.int .u64 0)).setCell (p := ⟨w.heap.size + 3, 5, none⟩) (by simp) (.slice none 0 0)).setCell (p := ⟨w.heap.size + 3, 6, none⟩) (by simp) (.int .i64 0))⟩
    rw [decide_eq_true (HOS.out.1 hs)]
    dsimp only [if_true]
    have HS := hid hs
    clear hs HOS
    go_wp2_with fail
    have HVS2 := hid (HVS.out.step (Nat.le_refl _) (HB.out.mono (Nat.le_refl _)))
    refine (anybad_any L nl cl 0 w.heap.size es _ HL.out HVS2.out HB.out.size (by omega)).mono ?_
    rintro e w3 ⟨rfl, hb⟩
    replace HM := hid (HM.out.step hb); replace HL := hid (HL.out.step hb); replace PM := hid (PM.out.step hb); replace PS := hid (PS.out.step hb); replace QM := hid (QM.out.step hb); replace QS := hid (QS.out.step hb); replace HB := hid (below_then HB.out hb)
    clear hb HVS2
    by_cases ha : AllWr l
    rotate_left
    · rw [decide_eq_true (show 0 ≤ fstIx badW es from Int.not_lt.1 (fun h => ha (by rw [HLM.out]; exact HAW.out.2 h)))]
      obtain ⟨y00, y01, y02, yf0⟩ := QM.out.cells3
      obtain ⟨y10, y11, y12, y13, y14, y15, y16, yf1⟩ := QS.out.cells7
      go_wp2
      have X0 := (((QM.out.setCell 0 (.slice none 0 0)).setCell 1 (.slice none 0 0)).setCell 2 (.bool false)); have X1 := (((QS.out.far (p := ⟨w.heap.size + 2, 0, none⟩) (by simp) (.slice none 0 0)).far (p := ⟨w.heap.size + 2, 1, none⟩) (by simp) (.slice none 0 0)).far (p := ⟨w.heap.size + 2, 2, none⟩) (by simp) (.bool false)); have X2 := (((HB.out.setCell (p := ⟨w.heap.size + 2, 0, none⟩) (by simp) (.slice none 0 0)).setCell (p := ⟨w.heap.size + 2, 1, none⟩) (by simp) (.slice none 0 0)).setCell (p := ⟨w.heap.size + 2, 2, none⟩) (by simp) (.bool false))
      obtain ⟨v0, v1, v2, vf⟩ := (((((((X0.far (p := ⟨w.heap.size + 3, 0, none⟩) (by simp) (.int .i64 0)).far (p := ⟨w.heap.size + 3, 1, none⟩) (by simp) (.int .i64 0)).far (p := ⟨w.heap.size + 3, 2, none⟩) (by simp) (.int .i64 0)).far (p := ⟨w.heap.size + 3, 3, none⟩) (by simp) (.int .i64 0)).far (p := ⟨w.heap.size + 3, 4, none⟩) (by simp) (.int .u64 0)).far (p := ⟨w.heap.size + 3, 5, none⟩) (by simp) (.slice none 0 0)).far (p := ⟨w.heap.size + 3, 6, none⟩) (by simp) (.int .i64 0)).cells3
      obtain ⟨q0, q1, q2, q3, q4, q5, q6, qf⟩ := (((((((X1.setCell 0 (.int .i64 0)).setCell 1 (.int .i64 0)).setCell 2 (.int .i64 0)).setCell 3 (.int .i64 0)).setCell 4 (.int .u64 0)).setCell 5 (.slice none 0 0)).setCell 6 (.int .i64 0)).cells7
      refine bodyPost_ret (v := .tuple #[mv none 0 0 none 0 0 false, .agg #[.int .i64 0, .int .i64 0, .int .i64 0, .int .i64 0, .int .u64 0, .slice none 0 0, .int .i64 0], .int .i64 160]) (by simp [results, Try.results24, go_sem, v0, v1, v2, q0, q1, q2, q3, q4, q5, q6]) rfl ?_
      rw [HE.out, if_neg (not_not_intro HG.out), if_pos (.inr ha)]
      exact ⟨none, 0, 0, none, 0, 0, none, 0, 0, rfl, Mown.none _ _, Ow.nil _ _ _, (((((((X2.setCell (p := ⟨w.heap.size + 3, 0, none⟩) (by simp) (.int .i64 0)).setCell (p := ⟨w.heap.size + 3, 1, none⟩) (by simp) (.int .i64 0)).setCell (p := ⟨w.heap.size + 3, 2, none⟩) (by simp) (.int .i64 0)).setCell (p := ⟨w.heap.size + 3, 3, none⟩) (by simp) (.int .i64 0)).setCell (p := ⟨w.heap.size + 3, 4, none⟩) (by simp) (.int .u64 0)).setCell (p := ⟨w.heap.size + 3, 5, none⟩) (by simp) (.slice none 0 0)).setCell (p := ⟨w.heap.size + 3, 6, none⟩) (by simp) (.int .i64 0))⟩
    rw [decide_eq_false (show ¬ 0 ≤ fstIx badW es from fun h => by have := HAW.out.1 (by rw [← HLM.out]; exact ha); omega)]
    have HA := hid ha
    clear ha HAW
    have HE2 := hid (show sqplayC m r l ps = (0, (sqplay (m, r, l) ps).1, (sqplay (m, r, l) ps).2.1) by rw [HE.out, if_neg (not_not_intro HG.out), if_neg (fun h => h.elim (fun h => h HS.out) (fun h => h HA.out))])
    clear HE
    obtain ⟨y00, y01, y02, yf0⟩ := PM.out.cells3
    go_wp2_with fail
    clear y00 y01 y02 yf0
    refine (ownmem_any A n c B k d m.2.2 m.1 m.2.1 _ HM.out).mono ?_
    rintro e w4 ⟨A4, n4, c4, B4, k4, d4, rfl, om, hb⟩
    have hs3 := hid hb.size; have hs3' := hid HB.out.size
    replace HM := hid (HM.out.step hb); replace HL := hid (HL.out.step hb); replace PM := hid (PM.out.step hb); replace PS := hid (PS.out.step hb); replace QM := hid (QM.out.step hb); replace QS := hid (QS.out.step hb); replace HB := hid (below_then HB.out hb)
    have OM := hid (om.mono (show w.heap.size ≤ _ from hs3'.out))
    clear om hb HM
    go_wp2_with fail
    refine (clone_wr L nl cl 0 es _ HL.out (by omega)).mono ?_
    rintro e w5 ⟨L5, cl5, rfl, ol, hb⟩
    replace HL := hid (HL.out.step hb); replace PM := hid (PM.out.step hb); replace PS := hid (PS.out.step hb); replace QM := hid (QM.out.step hb); replace QS := hid (QS.out.step hb); replace OM := hid (OM.out.step hb); replace HB := hid (below_then HB.out hb)
    have hs5 := hid hb.size
    have OL := hid ol
    clear ol hb HL
    obtain ⟨y00, y01, y02, yf0⟩ := PM.out.cells3
    go_upto_region 7 with fail
    clear y00 y01 y02 yf0
    have PM0 := PM
    have hbk0 : Blk (w5.setCell ⟨w.heap.size, 0, none⟩ (.slice A4 n4 c4)) (w.heap.size) 44 #[.slice A4 n4 c4, .slice B k d, .bool m.2.2] := PM.out.setCell 0 (.slice A4 n4 c4)
    have hbk1 : Blk ((w5.setCell ⟨w.heap.size, 0, none⟩ (.slice A4 n4 c4)).setCell ⟨w.heap.size, 1, none⟩ (.slice B4 k4 d4)) (w.heap.size) 44 #[.slice A4 n4 c4, .slice B4 k4 d4, .bool m.2.2] := hbk0.setCell 1 (.slice B4 k4 d4)
    have hbk2 : Blk (((w5.setCell ⟨w.heap.size, 0, none⟩ (.slice A4 n4 c4)).setCell ⟨w.heap.size, 1, none⟩ (.slice B4 k4 d4)).setCell ⟨w.heap.size, 2, none⟩ (.bool m.2.2)) (w.heap.size) 44 #[.slice A4 n4 c4, .slice B4 k4 d4, .bool m.2.2] := hbk1.setCell 2 (.bool m.2.2)
    have hgr : w5.grownBy (((w5.setCell ⟨w.heap.size, 0, none⟩ (.slice A4 n4 c4)).setCell ⟨w.heap.size, 1, none⟩ (.slice B4 k4 d4)).setCell ⟨w.heap.size, 2, none⟩ (.bool m.2.2)) (some (w.heap.size)) := (grown_set (grown_set (grown_set (World.grownBy.refl w5 (some (w.heap.size))) 0 (.slice A4 n4 c4)) 1 (.slice B4 k4 d4)) 2 (.bool m.2.2))
    replace PM := hid hbk2
    clear hbk0 hbk1 hbk2
    generalize ((w5.setCell ⟨w.heap.size, 0, none⟩ (.slice A4 n4 c4)).setCell ⟨w.heap.size, 1, none⟩ (.slice B4 k4 d4)).setCell ⟨w.heap.size, 2, none⟩ (.bool m.2.2) = W6 at *
    have HVS5 := hid (HVS.out.step (Nat.le_refl _) HB.out)
    have hbw := hid (show w.heap.size < w5.heap.size from PM0.out.lt)
    replace OM := hid (mown_kept OM.out PM0.out tm1 tm2 hgr)
    replace PS := hid (PS.out.grown hgr (by simp <;> omega))
    replace QM := hid (QM.out.grown hgr (by simp <;> omega))
    replace QS := hid (QS.out.grown hgr (by simp <;> omega))
    replace OL := hid (OL.out.keptG hgr (fun v hv e => OL.out.ne_blk PM0.out (by decide) v hv (by simpa using e)))
    replace HVS5 := hid (HVS5.out.kept PM0.out tm1 (by omega) hgr)
    replace HB := hid (HB.out.grown hgr HB.out.size (fun r e => by cases e; omega))
    have hs6 := hid hgr.size
    clear hgr PM0
    obtain ⟨y00, y01, y02, y03, y04, y05, y06, yf0⟩ := PS.out.cells7
    go_wp2_with fail
    clear y00 y01 y02 y03 y04 y05 y06 yf0
    refine (clone_u64 V vn vc 0 r.vs _ ((XV.out.below HB.out (Nat.le_refl _)).mono (Nat.le_refl _) HB.out.size) (by omega)).mono ?_
    rintro e w7 ⟨V7, c7, rfl, ov, hb⟩
    replace OM := hid (OM.out.step hb); replace PM := hid (PM.out.step hb); replace PS := hid (PS.out.step hb); replace QM := hid (QM.out.step hb); replace QS := hid (QS.out.step hb); replace OL := hid (OL.out.step hb); replace HB := hid (below_then HB.out hb)
    have OV := hid ov
    have HVS7 := hid (HVS5.out.step (by have := hbw.out; have := hs6.out; omega) hb)
    have hs67 := hid hb.size
    clear ov hb HVS5
    obtain ⟨y00, y01, y02, y03, y04, y05, y06, yf0⟩ := PS.out.cells7
    go_upto_region 8 with fail
    clear y00 y01 y02 y03 y04 y05 y06 yf0
    have PS0 := PS
    have hbk0 : Blk (w7.setCell ⟨w.heap.size + 1, 5, none⟩ (.slice V7 vn c7)) (w.heap.size + 1) 29 #[.int .i64 r.a, .int .i64 r.f, .int .i64 r.m, .int .i64 r.ph, .int .u64 r.bg, .slice V7 vn c7, .int .i64 r.tr] := PS.out.setCell 5 (.slice V7 vn c7)
    have hgr : w7.grownBy (w7.setCell ⟨w.heap.size + 1, 5, none⟩ (.slice V7 vn c7)) (some (w.heap.size + 1)) := (grown_set (World.grownBy.refl w7 (some (w.heap.size + 1))) 5 (.slice V7 vn c7))
    replace PS := hid hbk0
    clear hbk0
    generalize w7.setCell ⟨w.heap.size + 1, 5, none⟩ (.slice V7 vn c7) = W8 at *
    replace OM := hid (mown_kept OM.out PS0.out ts1 ts2 hgr)
    replace OV := hid (OV.out.keptG hgr (fun v hv e => OV.out.ne_blk PS0.out ts1 v hv (by simpa using e)))
    replace PM := hid (PM.out.grown hgr (by simp <;> omega))
    replace QM := hid (QM.out.grown hgr (by simp <;> omega))
    replace QS := hid (QS.out.grown hgr (by simp <;> omega))
    replace OL := hid (OL.out.keptG hgr (fun v hv e => OL.out.ne_blk PS0.out (by decide) v hv (by simpa using e)))
    replace HVS7 := hid (HVS7.out.kept PS0.out ts1 (by omega) hgr)
    replace HB := hid (HB.out.grown hgr HB.out.size (fun r e => by cases e; omega))
    clear hgr PS0
    go_wp2_with fail
    rename Act → World → Prop => K9
    rename ∀ (a : Act) (w : World), Code.wp Try.prog _ _ a w → K9 a w => hK9
    refine wp_label (hK9 _ _ (hlabel.out _ _ ?_))
    have HSP := hid (show SPI w m r l ps 0 L5 nl cl5 W8 from ⟨⟨A4, n4, c4, B4, k4, d4, m, V7, vn, c7, r, es, PM.out, OM.out, PS.out, OV.out.mono (by have := hs6.out; have := hbw.out; omega), hvn, OL.out.mono (by have := hs3'.out; have := hs3.out; omega), HVS7.out, by rw [← HLM.out]; rfl⟩, QM.out, QS.out, HB.out, ⟨HG.out, HS.out, HA.out⟩⟩)
    exact ⟨L5, cl5, 0, _, _, _, _, _, _, _, _, _, _, _, _, _, _, _, _, _, _, _, _, _, _, _, _, _, _, _, _, _, _, _, _, _, _, _, _, _, _, _, _, _, _, _, _, _, _, _, _, _, _, _, _, _, _, _, _, _, _, _, _, _, _, _, rfl, Nat.zero_le _, HSP.out⟩
  · rintro a W9 hJ
    clear HM PM PS QM QS HB HL hz0 HC HOS HAW HVS XV
    obtain ⟨L5, cl5, j, hJ⟩ := hJ
    obtain ⟨u15, hJ⟩ := hJ
    obtain ⟨u16, hJ⟩ := hJ
    obtain ⟨u17, hJ⟩ := hJ
    obtain ⟨u18, hJ⟩ := hJ
    obtain ⟨u19, hJ⟩ := hJ
    obtain ⟨u20, hJ⟩ := hJ
    obtain ⟨u21, hJ⟩ := hJ
    obtain ⟨u22, hJ⟩ := hJ
    obtain ⟨u23, hJ⟩ := hJ
    obtain ⟨u24, hJ⟩ := hJ
    obtain ⟨u25, hJ⟩ := hJ
    obtain ⟨u26, hJ⟩ := hJ
    obtain ⟨u27, hJ⟩ := hJ
    obtain ⟨u28, hJ⟩ := hJ
    obtain ⟨u29, hJ⟩ := hJ
    obtain ⟨u30, hJ⟩ := hJ
    obtain ⟨u31, hJ⟩ := hJ
    obtain ⟨u32, hJ⟩ := hJ
    obtain ⟨u33, hJ⟩ := hJ
    obtain ⟨u34, hJ⟩ := hJ
    obtain ⟨u35, hJ⟩ := hJ
    obtain ⟨u36, hJ⟩ := hJ
    obtain ⟨u37, hJ⟩ := hJ
    obtain ⟨u38, hJ⟩ := hJ
    obtain ⟨u39, hJ⟩ := hJ
    obtain ⟨u40, hJ⟩ := hJ
    obtain ⟨u41, hJ⟩ := hJ
    obtain ⟨u42, hJ⟩ := hJ
    obtain ⟨u43, hJ⟩ := hJ
    obtain ⟨u44, hJ⟩ := hJ
    obtain ⟨u45, hJ⟩ := hJ
    obtain ⟨u46, hJ⟩ := hJ
    obtain ⟨u47, hJ⟩ := hJ
    obtain ⟨u48, hJ⟩ := hJ
    obtain ⟨u49, hJ⟩ := hJ
    obtain ⟨u50, hJ⟩ := hJ
    obtain ⟨u51, hJ⟩ := hJ
    obtain ⟨u52, hJ⟩ := hJ
    obtain ⟨u53, hJ⟩ := hJ
    obtain ⟨u54, hJ⟩ := hJ
    obtain ⟨u55, hJ⟩ := hJ
    obtain ⟨u56, hJ⟩ := hJ
    obtain ⟨u57, hJ⟩ := hJ
    obtain ⟨u58, hJ⟩ := hJ
    obtain ⟨u59, hJ⟩ := hJ
    obtain ⟨u60, hJ⟩ := hJ
    obtain ⟨u61, hJ⟩ := hJ
    obtain ⟨u62, hJ⟩ := hJ
    obtain ⟨u63, hJ⟩ := hJ
    obtain ⟨u64, hJ⟩ := hJ
    obtain ⟨u65, hJ⟩ := hJ
    obtain ⟨u66, hJ⟩ := hJ
    obtain ⟨u67, hJ⟩ := hJ
    obtain ⟨u68, hJ⟩ := hJ
    obtain ⟨u69, hJ⟩ := hJ
    obtain ⟨u70, hJ⟩ := hJ
    obtain ⟨u71, hJ⟩ := hJ
    obtain ⟨u72, hJ⟩ := hJ
    obtain ⟨u73, hJ⟩ := hJ
    obtain ⟨u74, hJ⟩ := hJ
    obtain ⟨u75, hJ⟩ := hJ
    obtain ⟨u76, hJ⟩ := hJ
    obtain ⟨u77, hJ⟩ := hJ
    obtain ⟨rfl, hj, hI⟩ := hJ
    have HI := hid hI
    clear hI
    obtain ⟨⟨A2, n2, c2, B2, k2, d2, m2, V2, vn2, vc2, r2, es2, h1, h2, h3, h4, hvn2, h5, h6, h7⟩, h8, h9, h10, h11⟩ := HI.out
    have PM := hid h1; have OM := hid h2; have PS := hid h3; have OV := hid h4; have OL := hid h5; have HVS := hid h6; have HSQ := hid h7; have QM := hid h8; have QS := hid h9; have HB := hid h10; have HOKS := hid h11
    clear h1 h2 h3 h4 h5 h6 h7 h8 h9 h10 h11 HI
    have HAL := hid (show SqAll (m2, r2, es2.map Prod.fst) from by rw [HSQ.out]; exact sqplay_ok _ HOKS.out)
    by_cases hjn : j < nq
    · skip
      obtain ⟨p, hp⟩ : ∃ p, p = ps[j]?.getD false := ⟨_, rfl⟩
      obtain ⟨b, off, rfl, _, hbh, hc⟩ := XQ.out.row (by omega)
      have f0 := (HB.out.cell (p := ⟨b, off + j, none⟩) hbh).trans (hc j hjn)
      rw [← hp] at f0
      have HP := hid hp
      have HTS := hid (show sqplay (m, r, l) (ps.take (j + 1)) = sqstep (m2, r2, es2.map Prod.fst) p by rw [take_succB (by rw [hnqe.out]; exact hjn), sqplay_snoc, ← HSQ.out, hp])
      have hji : (j : Int) < (nq : Int) := by omega
      have hw1 : IntKind.i64.wrap ((j : Int) + 1) = (j : Int) + 1 := by rw [IntKind.wrap_i64]; omega
      have HF0 := hid f0; have hbh' := hid hbh
      clear hp hc hbh f0
      go_wp2_with fail
      have hlen2 := hid OL.out.len; have hsB := hid HB.out.size
      refine (ixgoes_any L5 nl cl5 0 w.heap.size es2 W9 (OL.out.sm.mono (Nat.zero_le _) (Nat.le_refl _)) HVS.out HB.out.size (by omega)).mono ?_
      rw [fstIx_goes]
      rintro e W10 ⟨rfl, hb⟩
      replace PM := hid (PM.out.step hb); replace OM := hid (OM.out.step hb); replace PS := hid (PS.out.step hb); replace OV := hid (OV.out.step hb); replace OL := hid (OL.out.step hb); replace QM := hid (QM.out.step hb); replace QS := hid (QS.out.step hb); replace HB := hid (below_then HB.out hb)
      have HVS2 := hid (HVS.out.step hsB.out hb)
      replace HF0 := hid ((hb.cell (p := ⟨b, off + j, none⟩) (Nat.lt_of_lt_of_le hbh'.out hsB.out)).trans HF0.out)
      clear hb HVS
      obtain ⟨gi, hgi⟩ : ∃ gi, gi = firstGo (es2.map Prod.fst) := ⟨_, rfl⟩
      rw [← hgi]
      have HGI := hid hgi
      clear hgi
      have f0 := HF0.out
      rcases p with _ | _
      · skip
        by_cases hg0 : 0 ≤ gi
        rotate_left
        · have d0 : decide (0 ≤ gi) = false := decide_eq_false hg0
          have HN := hid hg0
          clear hg0
          go_wp2
          go_step3
          have HSP := hid (show SPI w m r l ps (j + 1) L5 nl cl5 W10 from ⟨⟨A2, n2, c2, B2, k2, d2, m2, V2, vn2, vc2, r2, es2, PM.out, OM.out, PS.out, OV.out, hvn2, OL.out, HVS2.out, by rw [HTS.out]; unfold sqstep; rw [if_neg (by decide), if_neg (by rw [← HGI.out]; have := HN.out; omega)]⟩, QM.out, QS.out, HB.out, HOKS.out⟩)
          rw [show (j : Int) + 1 = ((j + 1 : Nat) : Int) from rfl]
          refine ⟨rfl, ⟨L5, cl5, j + 1, _, _, _, _, _, _, _, _, _, _, _, _, _, _, _, _, _, _, _, _, _, _, _, _, _, _, _, _, _, _, _, _, _, _, _, _, _, _, _, _, _, _, _, _, _, _, _, _, _, _, _, _, _, _, _, _, _, _, _, _, _, _, _, rfl, by omega, HSP.out⟩, ?_⟩
          simp [intOf]; omega
        obtain ⟨gn, rfl⟩ := Int.eq_ofNat_of_zero_le hg0
        have d0 : decide (0 ≤ (gn : Int)) = true := decide_eq_true hg0
        have hgl := hid (show gn < es2.length by have h := firstGo_lt (es2.map Prod.fst) (by rw [← HGI.out]; exact hg0); rw [← HGI.out, List.length_map] at h; omega)
        have hgn : gn < nl := by rw [← hlen2.out]; exact hgl.out
        have hgni : (gn : Int) < (nl : Int) := by omega
        obtain ⟨⟨s3, V3, vn3, vc3⟩, hx⟩ : ∃ x, x = es2[gn]?.getD zWe := ⟨_, rfl⟩
        have hvj := HVS2.out.at_ (k := gn) hgl.out
        rw [← hx] at hvj
        have HX := hid hx
        obtain ⟨gl, rfl, hgl1, hgl2, hc, hfz⟩ := OL.out.at_ zWe hgn
        have HVJ := hid hvj.1
        have hvn3 := hvj.2
        have HSX := hid (show (es2.map Prod.fst)[gn]?.getD zWr = s3 by rw [List.getElem?_map]; rw [List.getElem?_eq_getElem hgl.out] at hx ⊢; exact congrArg Prod.fst hx.symm)
        have HW3 := hid (show WrOk s3.a s3.f vn3 s3.ph s3.bg s3.wr by
          have h1 := HAL.out.2.2 s3 (by rw [← HSX.out]; rw [List.getElem?_eq_getElem (by rw [List.length_map]; exact hgl.out)]; exact List.getElem_mem _)
          unfold WrOkS at h1
          rwa [hvj.1.len] at h1)
        have HGM := hid (show MGood m2.1 m2.2.1 from HAL.out.1)
        obtain ⟨⟨m4, s4⟩, hr4⟩ : ∃ x, x = swriteF m2 s3 := ⟨_, rfl⟩
        have HR4 := hid hr4
        have hglw := hid (show gl ≠ w.heap.size ∧ gl ≠ w.heap.size + 1 from ⟨OL.out.ne_blk PM.out (by decide) _ rfl, OL.out.ne_blk PS.out (by decide) _ rfl⟩)
        clear hx hvj hc hfz hg0 hr4
        have hcell := fun W (h : Om 6 encW W w.heap.size 34 (some ⟨gl, 0, none⟩) nl cl5 es2) => row6 h hgn HX.out
        have HCELL := hid hcell
        clear hcell
        go_upto_region 15 with fail
        clear f0
        have HVJ2 := HVJ; have HVS3 := HVS2; have H10 := hid (Below.refl W10.heap.size W10)
        have hsB10 := hid HB.out.size
        have bx := (Below.refl W10.heap.size W10).drew
        replace PM := hid (PM.out.step bx); replace OM := hid (OM.out.step bx); replace PS := hid (PS.out.step bx); replace OV := hid (OV.out.step bx); replace OL := hid (OL.out.step bx); replace QM := hid (QM.out.step bx); replace QS := hid (QS.out.step bx); replace HB := hid (below_then HB.out bx); replace H10 := hid (below_then H10.out bx)
        clear bx
        have hszd := hid (show W10.drew.heap.size = W10.heap.size from rfl)
        refine wp_region_noPanic ?_
        refine wp_region_held_drew (S := (fun W' : World => True)) (by kernel_rfl) trivial (fun hS => ?_)
        generalize W10.drew = Wd at *
        refine wpAnyH_take (i := 0) (v := ?_) (by simp only [List.getElem?_toArray, List.getElem?_cons_succ, List.getElem?_cons_zero]; rfl) (by kernel_rfl) (by kernel_rfl) (by kernel_rfl) (fun _ _ _ h => h) (Or.inl ⟨by rfl, ?_⟩) hS ?_
        rotate_left
        · intro w' hSw; (try dsimp only at hSw); go_split_ands; go_simp; (try with_reducible rfl)
        (try simp only [Act.put, List.setIfInBounds_toArray, List.set_cons_zero, List.set_cons_succ])
        refine wpAnyH_take (i := 1) (v := ?_) (by simp only [List.getElem?_toArray, List.getElem?_cons_succ, List.getElem?_cons_zero]; rfl) (by kernel_rfl) (by kernel_rfl) (by kernel_rfl) (fun _ _ _ h => h) (Or.inl ⟨by rfl, ?_⟩) hS ?_
        rotate_left
        · intro w' hSw; (try dsimp only at hSw); go_split_ands; go_simp; (try with_reducible rfl)
        (try simp only [Act.put, List.setIfInBounds_toArray, List.set_cons_zero, List.set_cons_succ])
        refine wpAnyH_take (i := 3) (v := ?_) (by simp only [List.getElem?_toArray, List.getElem?_cons_succ, List.getElem?_cons_zero]; rfl) (by kernel_rfl) (by kernel_rfl) (by kernel_rfl) (fun _ _ _ h => h) (Or.inl ⟨by rfl, ?_⟩) hS ?_
        rotate_left
        · intro w' hSw; (try dsimp only at hSw); go_split_ands; go_simp; (try with_reducible rfl)
        (try simp only [Act.put, List.setIfInBounds_toArray, List.set_cons_zero, List.set_cons_succ])
        refine wpAnyH_take (i := 4) (v := ?_) (by simp only [List.getElem?_toArray, List.getElem?_cons_succ, List.getElem?_cons_zero]; rfl) (by kernel_rfl) (by kernel_rfl) (by kernel_rfl) (fun _ _ _ h => h) (Or.inl ⟨by rfl, ?_⟩) hS ?_
        rotate_left
        · intro w' hSw; (try dsimp only at hSw); go_split_ands; go_simp; (try with_reducible rfl)
        (try simp only [Act.put, List.setIfInBounds_toArray, List.set_cons_zero, List.set_cons_succ])
        refine wpAnyH_take (i := 5) (v := ?_) (by simp only [List.getElem?_toArray, List.getElem?_cons_succ, List.getElem?_cons_zero]; rfl) (by kernel_rfl) (by kernel_rfl) (by kernel_rfl) (fun _ _ _ h => h) (Or.inl ⟨by rfl, ?_⟩) hS ?_
        rotate_left
        · intro w' hSw; (try dsimp only at hSw); go_split_ands; go_simp; (try with_reducible rfl)
        (try simp only [Act.put, List.setIfInBounds_toArray, List.set_cons_zero, List.set_cons_succ])
        refine wpAnyH_ready (rs := [2, 6]) (by kernel_rfl) (by simp) ?_
        refine AllReadyH.cons (by simp only [List.getElem?_toArray, List.getElem?_cons_succ, List.getElem?_cons_zero]; rfl) (fun K hK => ?_) ?_
        · skip
          obtain ⟨y00, y01, y02, yf0⟩ := PM.out.cells3
          go_simp
          clear y00 y01 y02 yf0
          have hS' : (fun W' : World => True) Wd := trivial
          refine hK.out _ _ hS' (fun _ => ?_)
          clear hK K hS
          have hS := hS'
          clear hS'
          (try simp only [Act.put, List.setIfInBounds_toArray, List.set_cons_zero, List.set_cons_succ])
          refine wpAnyH_ready (rs := [6]) (by kernel_rfl) (by simp) ?_
          refine AllReadyH.cons (by simp only [List.getElem?_toArray, List.getElem?_cons_succ, List.getElem?_cons_zero]; rfl) (fun K hK => ?_) ?_
          · skip
            obtain ⟨f0, f1, f2, f3, f4, f5, ff⟩ := row6 OL.out hgn HX.out
            go_simp
            clear f0 f1 f2 f3 f4 f5 ff
            have hS' : (fun W' : World => True) Wd := trivial
            refine hK.out _ _ hS' (fun _ => ?_)
            clear hK K hS
            have hS := hS'
            clear hS'
            (try simp only [Act.put, List.setIfInBounds_toArray, List.set_cons_zero, List.set_cons_succ])
            refine wpAnyH_ready (rs := [7]) (by kernel_rfl) (by simp) ?_
            refine AllReadyH.cons (by simp only [List.getElem?_toArray, List.getElem?_cons_succ, List.getElem?_cons_zero]; rfl) (fun K hK => ?_) ?_
            · skip
              go_simp
              refine (stepwrite_any A2 n2 c2 B2 k2 d2 m2 w.heap.size s3 V3 vn3 vc3 _ OM.out HB.out.size ((HVJ2.out.step hsB10.out H10.out).sl HB.out.size) HGM.out hvn3 HW3.out).mono ?_
              rintro e w11 ⟨A4, n4, c4, B4, k4, d4, V4, vn4, vc4, rfl, om4, ov4, hf4, hb⟩
              have hsz2 := hid (show Wd.heap.size ≤ w11.heap.size from hb.size)
              replace PM := hid (PM.out.step hb); replace OM := hid (OM.out.step hb); replace PS := hid (PS.out.step hb); replace OV := hid (OV.out.step hb); replace OL := hid (OL.out.step hb); replace QM := hid (QM.out.step hb); replace QS := hid (QS.out.step hb); replace HB := hid (below_then HB.out hb); replace H10 := hid (below_then H10.out hb)
              clear hb
              rw [← HR4.out] at om4 ov4 ⊢
              dsimp only at om4 ov4 ⊢
              have OM4 := hid om4; have OV4 := hid ov4
              have HL4 := hid (show s4.vs.length ≤ 100000 by have h := swriteF_ok (m := m2) (s := s3) (by have h1 := HW3.out; unfold WrOkS; rw [HVJ2.out.len]; exact h1); rw [← HR4.out] at h; exact h.len)
              have HVS4 := hid (HVS3.out.step hsB10.out H10.out)
              clear om4 ov4 hf4
              go_wp2_with fail
              have hS' : (fun W' : World => True) w11 := trivial
              refine hK.out _ _ hS' (fun _ => ?_)
              clear hK K hS
              have hS := hS'
              clear hS'
              (try simp only [Act.put, List.setIfInBounds_toArray, List.set_cons_zero, List.set_cons_succ])
              refine wpAnyH_take (i := 8) (v := ?_) (by simp only [List.getElem?_toArray, List.getElem?_cons_succ, List.getElem?_cons_zero]; rfl) (by kernel_rfl) (by kernel_rfl) (by kernel_rfl) (fun _ _ _ h => h) (Or.inl ⟨by rfl, ?_⟩) hS ?_
              rotate_left
              · intro w' hSw; (try dsimp only at hSw); go_split_ands; go_simp; (try with_reducible rfl)
              (try simp only [Act.put, List.setIfInBounds_toArray, List.set_cons_zero, List.set_cons_succ])
              refine wpAnyH_take (i := 9) (v := ?_) (by simp only [List.getElem?_toArray, List.getElem?_cons_succ, List.getElem?_cons_zero]; rfl) (by kernel_rfl) (by kernel_rfl) (by kernel_rfl) (fun _ _ _ h => h) (Or.inl ⟨by rfl, ?_⟩) hS ?_
              rotate_left
              · intro w' hSw; (try dsimp only at hSw); go_split_ands; go_simp; (try with_reducible rfl)
              (try simp only [Act.put, List.setIfInBounds_toArray, List.set_cons_zero, List.set_cons_succ])
              refine wpAnyH_take (i := 10) (v := ?_) (by simp only [List.getElem?_toArray, List.getElem?_cons_succ, List.getElem?_cons_zero]; rfl) (by kernel_rfl) (by kernel_rfl) (by kernel_rfl) (fun _ _ _ h => h) (Or.inl ⟨by rfl, ?_⟩) hS ?_
              rotate_left
              · intro w' hSw; (try dsimp only at hSw); go_split_ands; go_simp; (try with_reducible rfl)
              (try simp only [Act.put, List.setIfInBounds_toArray, List.set_cons_zero, List.set_cons_succ])
              refine wpAnyH_ready (rs := [11]) (by kernel_rfl) (by simp) ?_
              refine AllReadyH.cons (by simp only [List.getElem?_toArray, List.getElem?_cons_succ, List.getElem?_cons_zero]; rfl) (fun K hK => ?_) ?_
              · skip
                obtain ⟨y00, y01, y02, yf0⟩ := PM.out.cells3
                go_simp
                clear y00 y01 y02 yf0
                refine named_store3 PM.out ?_
                intro Wc11 hbk hgr hsz
                have hsz11 := hid hsz
                replace OM4 := hid (mown_kept OM4.out PM.out tm1 tm2 hgr)
                replace OV := hid (OV.out.keptG hgr (fun v hv e => OV.out.ne_blk PM.out tm1 v hv (by simpa using e)))
                replace OV4 := hid (OV4.out.keptG hgr (fun v hv e => OV4.out.ne_blk PM.out tm1 v hv (by simpa using e)))
                replace OL := hid (OL.out.keptG hgr (fun v hv e => OL.out.ne_blk PM.out (by decide) v hv (by simpa using e)))
                replace HVS4 := hid (HVS4.out.kept PM.out tm1 (Nat.le_refl _) hgr)
                replace PS := hid (PS.out.grown hgr (by simp <;> omega))
                replace QM := hid (QM.out.grown hgr (by simp <;> omega))
                replace QS := hid (QS.out.grown hgr (by simp <;> omega))
                replace HB := hid (HB.out.grown hgr HB.out.size (fun r e => by cases e; omega))
                replace PM := hid hbk
                clear hbk hgr hsz
                have hS' : (fun W' : World => True) Wc11 := trivial
                refine hK.out _ _ hS' (fun _ => ?_)
                clear hK K hS
                have hS := hS'
                clear hS'
                (try simp only [Act.put, List.setIfInBounds_toArray, List.set_cons_zero, List.set_cons_succ])
                refine wpAnyH_take (i := 12) (v := ?_) (by simp only [List.getElem?_toArray, List.getElem?_cons_succ, List.getElem?_cons_zero]; rfl) (by kernel_rfl) (by kernel_rfl) (by kernel_rfl) (fun _ _ _ h => h) (Or.inl ⟨by rfl, ?_⟩) hS ?_
                rotate_left
                · intro w' hSw; (try dsimp only at hSw); go_split_ands; go_simp; (try with_reducible rfl)
                (try simp only [Act.put, List.setIfInBounds_toArray, List.set_cons_zero, List.set_cons_succ])
                refine wpAnyH_ready (rs := [13]) (by kernel_rfl) (by simp) ?_
                refine AllReadyH.cons (by simp only [List.getElem?_toArray, List.getElem?_cons_succ, List.getElem?_cons_zero]; rfl) (fun K hK => ?_) ?_
                · skip
                  obtain ⟨f0, f1, f2, f3, f4, f5, ff⟩ := row6 OL.out hgn HX.out
                  go_simp
                  clear f0 f1 f2 f3 f4 f5 ff
                  refine named_row6 (enc := encW) OL.out gn (s4, V4, vn4, vc4) hgn ?_
                  intro Wc13 hbk hgr hsz
                  have hszr := hid hsz
                  have hcs := (OL.out.blk _ rfl).2.choose_spec
                  replace PM := hid (PM.out.grown hgr (fun e => hglw.out.1 (by simpa using e.symm)))
                  replace PS := hid (PS.out.grown hgr (fun e => hglw.out.2 (by simpa using e.symm)))
                  replace QM := hid (QM.out.grown hgr (fun e => OL.out.ne_blk QM.out (by decide) _ rfl (by simpa using e.symm)))
                  replace QS := hid (QS.out.grown hgr (fun e => OL.out.ne_blk QS.out (by decide) _ rfl (by simpa using e.symm)))
                  replace OM4 := hid (mown_kept OM4.out hcs tq1 tq2 hgr)
                  replace OV := hid (OV.out.keptG hgr (fun v hv e => OV.out.ne_blk hcs tq1 v hv (by simpa using e)))
                  replace OV4 := hid (OV4.out.keptG hgr (fun v hv e => OV4.out.ne_blk hcs tq1 v hv (by simpa using e)))
                  replace HVS4 := hid ((HVS4.out.kept hcs tq1 hgl1 hgr).set gn (x := (s4, V4, vn4, vc4)) ⟨.inr ⟨_, _, OV4.out⟩, by rw [← OV4.out.len]; exact HL4.out⟩)
                  replace HB := hid (HB.out.grown hgr HB.out.size (fun r e => by cases e; exact hgl1))
                  replace OL := hid hbk
                  clear hbk hgr hsz hcs
                  have hS' : (fun W' : World => True) Wc13 := trivial
                  refine hK.out _ _ hS' (fun _ => ?_)
                  clear hK K hS
                  have hS := hS'
                  clear hS'
                  (try simp only [Act.put, List.setIfInBounds_toArray, List.set_cons_zero, List.set_cons_succ])
                  refine wpAnyH_done (by kernel_rfl) ?_ _
                  refine NoPanic.normal ?_
                  clear hS
                  go_wp2
                  go_step3
                  have HSP := hid (show SPI w m r l ps (j + 1) (some ⟨gl, 0, none⟩) nl cl5 Wc13 from ⟨⟨A4, n4, c4, B4, k4, d4, m4, V2, vn2, vc2, r2, _, PM.out, OM4.out, PS.out, OV.out, hvn2, OL.out, HVS4.out, by rw [HTS.out]; unfold sqstep; dsimp only; rw [if_neg (by decide), ← HGI.out, if_pos (by omega), Int.toNat_natCast, HSX.out, ← HR4.out, setmap]⟩, QM.out, QS.out, HB.out, HOKS.out⟩)
                  rw [show (j : Int) + 1 = ((j + 1 : Nat) : Int) from rfl]
                  refine ⟨rfl, ⟨(some ⟨gl, 0, none⟩), cl5, j + 1, _, _, _, _, _, _, _, _, _, _, _, _, _, _, _, _, _, _, _, _, _, _, _, _, _, _, _, _, _, _, _, _, _, _, _, _, _, _, _, _, _, _, _, _, _, _, _, _, _, _, _, _, _, _, _, _, _, _, _, _, _, _, _, rfl, by omega, HSP.out⟩, ?_⟩
                  simp [intOf]; omega
                exact AllReadyH.nil
              exact AllReadyH.nil
            exact AllReadyH.nil
          exact AllReadyH.nil
        refine AllReadyH.cons (by simp only [List.getElem?_toArray, List.getElem?_cons_succ, List.getElem?_cons_zero]; rfl) (fun K hK => ?_) ?_
        · skip
          obtain ⟨f0, f1, f2, f3, f4, f5, ff⟩ := row6 OL.out hgn HX.out
          go_simp
          clear f0 f1 f2 f3 f4 f5 ff
          have hS' : (fun W' : World => True) Wd := trivial
          refine hK.out _ _ hS' (fun _ => ?_)
          clear hK K hS
          have hS := hS'
          clear hS'
          (try simp only [Act.put, List.setIfInBounds_toArray, List.set_cons_zero, List.set_cons_succ])
          refine wpAnyH_ready (rs := [2]) (by kernel_rfl) (by simp) ?_
          refine AllReadyH.cons (by simp only [List.getElem?_toArray, List.getElem?_cons_succ, List.getElem?_cons_zero]; rfl) (fun K hK => ?_) ?_
          · skip
            obtain ⟨y00, y01, y02, yf0⟩ := PM.out.cells3
            go_simp
            clear y00 y01 y02 yf0
            have hS' : (fun W' : World => True) Wd := trivial
            refine hK.out _ _ hS' (fun _ => ?_)
            clear hK K hS
            have hS := hS'
            clear hS'
            (try simp only [Act.put, List.setIfInBounds_toArray, List.set_cons_zero, List.set_cons_succ])
            refine wpAnyH_ready (rs := [7]) (by kernel_rfl) (by simp) ?_
            refine AllReadyH.cons (by simp only [List.getElem?_toArray, List.getElem?_cons_succ, List.getElem?_cons_zero]; rfl) (fun K hK => ?_) ?_
            · skip
              go_simp
              refine (stepwrite_any A2 n2 c2 B2 k2 d2 m2 w.heap.size s3 V3 vn3 vc3 _ OM.out HB.out.size ((HVJ2.out.step hsB10.out H10.out).sl HB.out.size) HGM.out hvn3 HW3.out).mono ?_
              rintro e w11 ⟨A4, n4, c4, B4, k4, d4, V4, vn4, vc4, rfl, om4, ov4, hf4, hb⟩
              have hsz2 := hid (show Wd.heap.size ≤ w11.heap.size from hb.size)
              replace PM := hid (PM.out.step hb); replace OM := hid (OM.out.step hb); replace PS := hid (PS.out.step hb); replace OV := hid (OV.out.step hb); replace OL := hid (OL.out.step hb); replace QM := hid (QM.out.step hb); replace QS := hid (QS.out.step hb); replace HB := hid (below_then HB.out hb); replace H10 := hid (below_then H10.out hb)
              clear hb
              rw [← HR4.out] at om4 ov4 ⊢
              dsimp only at om4 ov4 ⊢
              have OM4 := hid om4; have OV4 := hid ov4
              have HL4 := hid (show s4.vs.length ≤ 100000 by have h := swriteF_ok (m := m2) (s := s3) (by have h1 := HW3.out; unfold WrOkS; rw [HVJ2.out.len]; exact h1); rw [← HR4.out] at h; exact h.len)
              have HVS4 := hid (HVS3.out.step hsB10.out H10.out)
              clear om4 ov4 hf4
              go_wp2_with fail
              have hS' : (fun W' : World => True) w11 := trivial
              refine hK.out _ _ hS' (fun _ => ?_)
              clear hK K hS
              have hS := hS'
              clear hS'
              (try simp only [Act.put, List.setIfInBounds_toArray, List.set_cons_zero, List.set_cons_succ])
              refine wpAnyH_take (i := 8) (v := ?_) (by simp only [List.getElem?_toArray, List.getElem?_cons_succ, List.getElem?_cons_zero]; rfl) (by kernel_rfl) (by kernel_rfl) (by kernel_rfl) (fun _ _ _ h => h) (Or.inl ⟨by rfl, ?_⟩) hS ?_
              rotate_left
              · intro w' hSw; (try dsimp only at hSw); go_split_ands; go_simp; (try with_reducible rfl)
              (try simp only [Act.put, List.setIfInBounds_toArray, List.set_cons_zero, List.set_cons_succ])
              refine wpAnyH_take (i := 9) (v := ?_) (by simp only [List.getElem?_toArray, List.getElem?_cons_succ, List.getElem?_cons_zero]; rfl) (by kernel_rfl) (by kernel_rfl) (by kernel_rfl) (fun _ _ _ h => h) (Or.inl ⟨by rfl, ?_⟩) hS ?_
              rotate_left
              · intro w' hSw; (try dsimp only at hSw); go_split_ands; go_simp; (try with_reducible rfl)
              (try simp only [Act.put, List.setIfInBounds_toArray, List.set_cons_zero, List.set_cons_succ])
              refine wpAnyH_take (i := 10) (v := ?_) (by simp only [List.getElem?_toArray, List.getElem?_cons_succ, List.getElem?_cons_zero]; rfl) (by kernel_rfl) (by kernel_rfl) (by kernel_rfl) (fun _ _ _ h => h) (Or.inl ⟨by rfl, ?_⟩) hS ?_
              rotate_left
              · intro w' hSw; (try dsimp only at hSw); go_split_ands; go_simp; (try with_reducible rfl)
              (try simp only [Act.put, List.setIfInBounds_toArray, List.set_cons_zero, List.set_cons_succ])
              refine wpAnyH_ready (rs := [11]) (by kernel_rfl) (by simp) ?_
              refine AllReadyH.cons (by simp only [List.getElem?_toArray, List.getElem?_cons_succ, List.getElem?_cons_zero]; rfl) (fun K hK => ?_) ?_
              · skip
                obtain ⟨y00, y01, y02, yf0⟩ := PM.out.cells3
                go_simp
                clear y00 y01 y02 yf0
                refine named_store3 PM.out ?_
                intro Wc11 hbk hgr hsz
                have hsz11 := hid hsz
                replace OM4 := hid (mown_kept OM4.out PM.out tm1 tm2 hgr)
                replace OV := hid (OV.out.keptG hgr (fun v hv e => OV.out.ne_blk PM.out tm1 v hv (by simpa using e)))
                replace OV4 := hid (OV4.out.keptG hgr (fun v hv e => OV4.out.ne_blk PM.out tm1 v hv (by simpa using e)))
                replace OL := hid (OL.out.keptG hgr (fun v hv e => OL.out.ne_blk PM.out (by decide) v hv (by simpa using e)))
                replace HVS4 := hid (HVS4.out.kept PM.out tm1 (Nat.le_refl _) hgr)
                replace PS := hid (PS.out.grown hgr (by simp <;> omega))
                replace QM := hid (QM.out.grown hgr (by simp <;> omega))
                replace QS := hid (QS.out.grown hgr (by simp <;> omega))
                replace HB := hid (HB.out.grown hgr HB.out.size (fun r e => by cases e; omega))
                replace PM := hid hbk
                clear hbk hgr hsz
                have hS' : (fun W' : World => True) Wc11 := trivial
                refine hK.out _ _ hS' (fun _ => ?_)
                clear hK K hS
                have hS := hS'
                clear hS'
                (try simp only [Act.put, List.setIfInBounds_toArray, List.set_cons_zero, List.set_cons_succ])
                refine wpAnyH_take (i := 12) (v := ?_) (by simp only [List.getElem?_toArray, List.getElem?_cons_succ, List.getElem?_cons_zero]; rfl) (by kernel_rfl) (by kernel_rfl) (by kernel_rfl) (fun _ _ _ h => h) (Or.inl ⟨by rfl, ?_⟩) hS ?_
                rotate_left
                · intro w' hSw; (try dsimp only at hSw); go_split_ands; go_simp; (try with_reducible rfl)
                (try simp only [Act.put, List.setIfInBounds_toArray, List.set_cons_zero, List.set_cons_succ])
                refine wpAnyH_ready (rs := [13]) (by kernel_rfl) (by simp) ?_
                refine AllReadyH.cons (by simp only [List.getElem?_toArray, List.getElem?_cons_succ, List.getElem?_cons_zero]; rfl) (fun K hK => ?_) ?_
                · skip
                  obtain ⟨f0, f1, f2, f3, f4, f5, ff⟩ := row6 OL.out hgn HX.out
                  go_simp
                  clear f0 f1 f2 f3 f4 f5 ff
                  refine named_row6 (enc := encW) OL.out gn (s4, V4, vn4, vc4) hgn ?_
                  intro Wc13 hbk hgr hsz
                  have hszr := hid hsz
                  have hcs := (OL.out.blk _ rfl).2.choose_spec
                  replace PM := hid (PM.out.grown hgr (fun e => hglw.out.1 (by simpa using e.symm)))
                  replace PS := hid (PS.out.grown hgr (fun e => hglw.out.2 (by simpa using e.symm)))
                  replace QM := hid (QM.out.grown hgr (fun e => OL.out.ne_blk QM.out (by decide) _ rfl (by simpa using e.symm)))
                  replace QS := hid (QS.out.grown hgr (fun e => OL.out.ne_blk QS.out (by decide) _ rfl (by simpa using e.symm)))
                  replace OM4 := hid (mown_kept OM4.out hcs tq1 tq2 hgr)
                  replace OV := hid (OV.out.keptG hgr (fun v hv e => OV.out.ne_blk hcs tq1 v hv (by simpa using e)))
                  replace OV4 := hid (OV4.out.keptG hgr (fun v hv e => OV4.out.ne_blk hcs tq1 v hv (by simpa using e)))
                  replace HVS4 := hid ((HVS4.out.kept hcs tq1 hgl1 hgr).set gn (x := (s4, V4, vn4, vc4)) ⟨.inr ⟨_, _, OV4.out⟩, by rw [← OV4.out.len]; exact HL4.out⟩)
                  replace HB := hid (HB.out.grown hgr HB.out.size (fun r e => by cases e; exact hgl1))
                  replace OL := hid hbk
                  clear hbk hgr hsz hcs
                  have hS' : (fun W' : World => True) Wc13 := trivial
                  refine hK.out _ _ hS' (fun _ => ?_)
                  clear hK K hS
                  have hS := hS'
                  clear hS'
                  (try simp only [Act.put, List.setIfInBounds_toArray, List.set_cons_zero, List.set_cons_succ])
                  refine wpAnyH_done (by kernel_rfl) ?_ _
                  refine NoPanic.normal ?_
                  clear hS
                  go_wp2
                  go_step3
                  have HSP := hid (show SPI w m r l ps (j + 1) (some ⟨gl, 0, none⟩) nl cl5 Wc13 from ⟨⟨A4, n4, c4, B4, k4, d4, m4, V2, vn2, vc2, r2, _, PM.out, OM4.out, PS.out, OV.out, hvn2, OL.out, HVS4.out, by rw [HTS.out]; unfold sqstep; dsimp only; rw [if_neg (by decide), ← HGI.out, if_pos (by omega), Int.toNat_natCast, HSX.out, ← HR4.out, setmap]⟩, QM.out, QS.out, HB.out, HOKS.out⟩)
                  rw [show (j : Int) + 1 = ((j + 1 : Nat) : Int) from rfl]
                  refine ⟨rfl, ⟨(some ⟨gl, 0, none⟩), cl5, j + 1, _, _, _, _, _, _, _, _, _, _, _, _, _, _, _, _, _, _, _, _, _, _, _, _, _, _, _, _, _, _, _, _, _, _, _, _, _, _, _, _, _, _, _, _, _, _, _, _, _, _, _, _, _, _, _, _, _, _, _, _, _, _, _, rfl, by omega, HSP.out⟩, ?_⟩
                  simp [intOf]; omega
                exact AllReadyH.nil
              exact AllReadyH.nil
            exact AllReadyH.nil
          exact AllReadyH.nil
        exact AllReadyH.nil
      obtain ⟨y00, y01, y02, yf0⟩ := PM.out.cells3
      obtain ⟨y10, y11, y12, y13, y14, y15, y16, yf1⟩ := PS.out.cells7
      go_wp2_with fail
      clear f0 y00 y01 y02 yf0 y10 y11 y12 y13 y14 y15 y16 yf1
      obtain ⟨⟨m5, r5⟩, hr5⟩ : ∃ x, x = sreadF m2 r2 := ⟨_, rfl⟩
      have HR5 := hid hr5
      have HW5 := hid (show RdOk r2.a r2.f r2.m r2.ph r2.bg vn2 r2.tr by have h := HAL.out.2.1; unfold RdOkS at h; rwa [OV.out.len] at h)
      have HL5 := hid (show r5.vs.length ≤ 100000 by have h := sreadF_ok (m := m2) HAL.out.2.1; rw [← hr5] at h; exact Nat.le_trans h.len (by decide))
      clear hr5
      refine (stepread_any A2 n2 c2 B2 k2 d2 m2 w.heap.size r2 V2 vn2 vc2 _ OM.out HB.out.size (OV.out.sl.mono (Nat.zero_le _) (Nat.le_refl _)) HAL.out.1 hvn2 HW5.out).mono ?_
      rw [← HR5.out]
      rintro e W11 ⟨A5, n5, c5, B5, k5, d5, V5, vn5, vc5, rfl, om5, ov5, hf5, hb⟩
      dsimp only at om5 ov5
      have HVS5 := hid (HVS2.out.step HB.out.size hb)
      replace PM := hid (PM.out.step hb); replace OM := hid (OM.out.step hb); replace PS := hid (PS.out.step hb); replace OV := hid (OV.out.step hb); replace OL := hid (OL.out.step hb); replace QM := hid (QM.out.step hb); replace QS := hid (QS.out.step hb); replace HB := hid (below_then HB.out hb)
      have OM5 := hid om5; have OV5 := hid ov5
      clear om5 ov5 hf5 hb OM OV HVS2
      have hgr : W11.grownBy (((W11.setCell ⟨w.heap.size, 0, none⟩ (.slice A5 n5 c5)).setCell ⟨w.heap.size, 1, none⟩ (.slice B5 k5 d5)).setCell ⟨w.heap.size, 2, none⟩ (.bool m5.2.2)) (some w.heap.size) := (grown_set (grown_set (grown_set (World.grownBy.refl W11 (some w.heap.size)) 0 (.slice A5 n5 c5)) 1 (.slice B5 k5 d5)) 2 (.bool m5.2.2))
      have hpm : Blk (((W11.setCell ⟨w.heap.size, 0, none⟩ (.slice A5 n5 c5)).setCell ⟨w.heap.size, 1, none⟩ (.slice B5 k5 d5)).setCell ⟨w.heap.size, 2, none⟩ (.bool m5.2.2)) w.heap.size 44 #[.slice A5 n5 c5, .slice B5 k5 d5, .bool m5.2.2] := ((PM.out.setCell 0 (.slice A5 n5 c5)).setCell 1 (.slice B5 k5 d5)).setCell 2 (.bool m5.2.2)
      have hOM5 := hid (mown_kept OM5.out PM.out tm1 tm2 hgr)
      have hOV5 := hid (OV5.out.keptG hgr (fun v hv e => OV5.out.ne_blk PM.out tm1 v hv (by simpa using e)))
      have hOL := hid (OL.out.keptG hgr (fun v hv e => OL.out.ne_blk PM.out (by decide) v hv (by simpa using e)))
      have hHVS5 := hid (HVS5.out.kept PM.out tm1 (Nat.le_refl _) hgr)
      have hPS := hid (PS.out.grown hgr (by simp <;> omega))
      have hQM := hid (QM.out.grown hgr (by simp <;> omega))
      have hQS := hid (QS.out.grown hgr (by simp <;> omega))
      have hHB := hid (HB.out.grown hgr HB.out.size (fun r e => by cases e; omega))
      obtain ⟨y0, y1, y2, yf⟩ := PM.out.cells3
      obtain ⟨z0, z1, z2, z3, z4, z5, z6, zf⟩ := hPS.out.cells7
      clear hgr OL PS QM QS HB
      have PMn := hid hpm
      clear hpm
      go_wp2
      clear y0 y1 y2 yf z0 z1 z2 z3 z4 z5 z6 zf PM OM5 OV5 HVS5
      generalize (((W11.setCell ⟨w.heap.size, 0, none⟩ (.slice A5 n5 c5)).setCell ⟨w.heap.size, 1, none⟩ (.slice B5 k5 d5)).setCell ⟨w.heap.size, 2, none⟩ (.bool m5.2.2)) = Wp at *
      have PS0 := hPS
      have hbk0 : Blk (Wp.setCell ⟨w.heap.size + 1, 0, none⟩ (.int .i64 r5.a)) (w.heap.size + 1) 29 #[.int .i64 r5.a, .int .i64 r2.f, .int .i64 r2.m, .int .i64 r2.ph, .int .u64 r2.bg, .slice V2 vn2 vc2, .int .i64 r2.tr] := hPS.out.setCell 0 (.int .i64 r5.a)
      have hbk1 : Blk ((Wp.setCell ⟨w.heap.size + 1, 0, none⟩ (.int .i64 r5.a)).setCell ⟨w.heap.size + 1, 1, none⟩ (.int .i64 r5.f)) (w.heap.size + 1) 29 #[.int .i64 r5.a, .int .i64 r5.f, .int .i64 r2.m, .int .i64 r2.ph, .int .u64 r2.bg, .slice V2 vn2 vc2, .int .i64 r2.tr] := hbk0.setCell 1 (.int .i64 r5.f)
      have hbk2 : Blk (((Wp.setCell ⟨w.heap.size + 1, 0, none⟩ (.int .i64 r5.a)).setCell ⟨w.heap.size + 1, 1, none⟩ (.int .i64 r5.f)).setCell ⟨w.heap.size + 1, 2, none⟩ (.int .i64 r5.m)) (w.heap.size + 1) 29 #[.int .i64 r5.a, .int .i64 r5.f, .int .i64 r5.m, .int .i64 r2.ph, .int .u64 r2.bg, .slice V2 vn2 vc2, .int .i64 r2.tr] := hbk1.setCell 2 (.int .i64 r5.m)
      have hbk3 : Blk ((((Wp.setCell ⟨w.heap.size + 1, 0, none⟩ (.int .i64 r5.a)).setCell ⟨w.heap.size + 1, 1, none⟩ (.int .i64 r5.f)).setCell ⟨w.heap.size + 1, 2, none⟩ (.int .i64 r5.m)).setCell ⟨w.heap.size + 1, 3, none⟩ (.int .i64 r5.ph)) (w.heap.size + 1) 29 #[.int .i64 r5.a, .int .i64 r5.f, .int .i64 r5.m, .int .i64 r5.ph, .int .u64 r2.bg, .slice V2 vn2 vc2, .int .i64 r2.tr] := hbk2.setCell 3 (.int .i64 r5.ph)
      have hbk4 : Blk (((((Wp.setCell ⟨w.heap.size + 1, 0, none⟩ (.int .i64 r5.a)).setCell ⟨w.heap.size + 1, 1, none⟩ (.int .i64 r5.f)).setCell ⟨w.heap.size + 1, 2, none⟩ (.int .i64 r5.m)).setCell ⟨w.heap.size + 1, 3, none⟩ (.int .i64 r5.ph)).setCell ⟨w.heap.size + 1, 4, none⟩ (.int .u64 r5.bg)) (w.heap.size + 1) 29 #[.int .i64 r5.a, .int .i64 r5.f, .int .i64 r5.m, .int .i64 r5.ph, .int .u64 r5.bg, .slice V2 vn2 vc2, .int .i64 r2.tr] := hbk3.setCell 4 (.int .u64 r5.bg)
      have hbk5 : Blk ((((((Wp.setCell ⟨w.heap.size + 1, 0, none⟩ (.int .i64 r5.a)).setCell ⟨w.heap.size + 1, 1, none⟩ (.int .i64 r5.f)).setCell ⟨w.heap.size + 1, 2, none⟩ (.int .i64 r5.m)).setCell ⟨w.heap.size + 1, 3, none⟩ (.int .i64 r5.ph)).setCell ⟨w.heap.size + 1, 4, none⟩ (.int .u64 r5.bg)).setCell ⟨w.heap.size + 1, 5, none⟩ (.slice V5 vn5 vc5)) (w.heap.size + 1) 29 #[.int .i64 r5.a, .int .i64 r5.f, .int .i64 r5.m, .int .i64 r5.ph, .int .u64 r5.bg, .slice V5 vn5 vc5, .int .i64 r2.tr] := hbk4.setCell 5 (.slice V5 vn5 vc5)
      have hbk6 : Blk (((((((Wp.setCell ⟨w.heap.size + 1, 0, none⟩ (.int .i64 r5.a)).setCell ⟨w.heap.size + 1, 1, none⟩ (.int .i64 r5.f)).setCell ⟨w.heap.size + 1, 2, none⟩ (.int .i64 r5.m)).setCell ⟨w.heap.size + 1, 3, none⟩ (.int .i64 r5.ph)).setCell ⟨w.heap.size + 1, 4, none⟩ (.int .u64 r5.bg)).setCell ⟨w.heap.size + 1, 5, none⟩ (.slice V5 vn5 vc5)).setCell ⟨w.heap.size + 1, 6, none⟩ (.int .i64 r5.tr)) (w.heap.size + 1) 29 #[.int .i64 r5.a, .int .i64 r5.f, .int .i64 r5.m, .int .i64 r5.ph, .int .u64 r5.bg, .slice V5 vn5 vc5, .int .i64 r5.tr] := hbk5.setCell 6 (.int .i64 r5.tr)
      have hgr : Wp.grownBy (((((((Wp.setCell ⟨w.heap.size + 1, 0, none⟩ (.int .i64 r5.a)).setCell ⟨w.heap.size + 1, 1, none⟩ (.int .i64 r5.f)).setCell ⟨w.heap.size + 1, 2, none⟩ (.int .i64 r5.m)).setCell ⟨w.heap.size + 1, 3, none⟩ (.int .i64 r5.ph)).setCell ⟨w.heap.size + 1, 4, none⟩ (.int .u64 r5.bg)).setCell ⟨w.heap.size + 1, 5, none⟩ (.slice V5 vn5 vc5)).setCell ⟨w.heap.size + 1, 6, none⟩ (.int .i64 r5.tr)) (some (w.heap.size + 1)) := (grown_set (grown_set (grown_set (grown_set (grown_set (grown_set (grown_set (World.grownBy.refl Wp (some (w.heap.size + 1))) 0 (.int .i64 r5.a)) 1 (.int .i64 r5.f)) 2 (.int .i64 r5.m)) 3 (.int .i64 r5.ph)) 4 (.int .u64 r5.bg)) 5 (.slice V5 vn5 vc5)) 6 (.int .i64 r5.tr))
      replace hPS := hid hbk6
      clear hbk0 hbk1 hbk2 hbk3 hbk4 hbk5 hbk6
      generalize ((((((Wp.setCell ⟨w.heap.size + 1, 0, none⟩ (.int .i64 r5.a)).setCell ⟨w.heap.size + 1, 1, none⟩ (.int .i64 r5.f)).setCell ⟨w.heap.size + 1, 2, none⟩ (.int .i64 r5.m)).setCell ⟨w.heap.size + 1, 3, none⟩ (.int .i64 r5.ph)).setCell ⟨w.heap.size + 1, 4, none⟩ (.int .u64 r5.bg)).setCell ⟨w.heap.size + 1, 5, none⟩ (.slice V5 vn5 vc5)).setCell ⟨w.heap.size + 1, 6, none⟩ (.int .i64 r5.tr) = Wf at *
      have PS := hPS
      have PM := hid (PMn.out.grown hgr (by simp <;> omega))
      have QM := hid (hQM.out.grown hgr (by simp <;> omega))
      have QS := hid (hQS.out.grown hgr (by simp <;> omega))
      have OM5 := hid (mown_kept hOM5.out PS0.out ts1 ts2 hgr)
      have OV5 := hid (hOV5.out.keptG hgr (fun v hv e => hOV5.out.ne_blk PS0.out ts1 v hv (by simpa using e)))
      have OL := hid (hOL.out.keptG hgr (fun v hv e => hOL.out.ne_blk PS0.out (by decide) v hv (by simpa using e)))
      have HVS5 := hid (hHVS5.out.kept PS0.out ts1 (by omega) hgr)
      have HB := hid (hHB.out.grown hgr hHB.out.size (fun r e => by cases e; omega))
      clear hgr PS0
      go_step3
      have HSP := hid (show SPI w m r l ps (j + 1) L5 nl cl5 Wf from ⟨⟨A5, n5, c5, B5, k5, d5, m5, V5, vn5, vc5, r5, es2, PM.out, OM5.out, PS.out, OV5.out, by rw [← OV5.out.len]; exact HL5.out, OL.out, HVS5.out, by rw [HTS.out]; unfold sqstep; dsimp only; rw [if_pos rfl, ← HR5.out]⟩, QM.out, QS.out, HB.out, HOKS.out⟩)
      rw [show (j : Int) + 1 = ((j + 1 : Nat) : Int) from rfl]
      refine ⟨rfl, ⟨L5, cl5, j + 1, _, _, _, _, _, _, _, _, _, _, _, _, _, _, _, _, _, _, _, _, _, _, _, _, _, _, _, _, _, _, _, _, _, _, _, _, _, _, _, _, _, _, _, _, _, _, _, _, _, _, _, _, _, _, _, _, _, _, _, _, _, _, _, rfl, by omega, HSP.out⟩, ?_⟩
      simp [intOf]; omega
    obtain rfl : nq = j := by omega
    have hjn' : ¬ ((nq : Int) < (nq : Int)) := by omega
    have HE := hid (show sqplayC m r l ps = (0, m2, r2) by
      have e := HSQ.out
      rw [List.take_of_length_le (by have := hnqe.out; omega)] at e
      rw [HE.out, if_neg (not_not_intro HOKS.out.1), if_neg (fun h => h.elim (fun h => h HOKS.out.2.1) (fun h => h HOKS.out.2.2)), ← e])
    clear hjn XQ
    go_upto_region 17 with fail
    have bx := (Below.refl W9.heap.size W9).drew
    replace PM := hid (PM.out.step bx); replace PS := hid (PS.out.step bx); replace OM := hid (OM.out.step bx); replace OV := hid (OV.out.step bx); replace QM := hid (QM.out.step bx); replace QS := hid (QS.out.step bx); replace HB := hid (below_then HB.out bx)
    clear bx
    have hszd := hid (show W9.drew.heap.size = W9.heap.size from rfl)
    refine wp_region_noPanic ?_
    refine wp_region_held_drew (S := (fun W' : World => W'.cell? ⟨w.heap.size, 0, none⟩ = some (.slice A2 n2 c2) ∧ W'.cell? ⟨w.heap.size, 1, none⟩ = some (.slice B2 k2 d2) ∧ W'.cell? ⟨w.heap.size, 2, none⟩ = some (.bool m2.2.2) ∧ W'.cell? ⟨w.heap.size + 1, 0, none⟩ = some (.int .i64 r2.a) ∧ W'.cell? ⟨w.heap.size + 1, 1, none⟩ = some (.int .i64 r2.f) ∧ W'.cell? ⟨w.heap.size + 1, 2, none⟩ = some (.int .i64 r2.m) ∧ W'.cell? ⟨w.heap.size + 1, 3, none⟩ = some (.int .i64 r2.ph) ∧ W'.cell? ⟨w.heap.size + 1, 4, none⟩ = some (.int .u64 r2.bg) ∧ W'.cell? ⟨w.heap.size + 1, 5, none⟩ = some (.slice V2 vn2 vc2) ∧ W'.cell? ⟨w.heap.size + 1, 6, none⟩ = some (.int .i64 r2.tr))) (by kernel_rfl) ⟨PM.out.cells3.1, PM.out.cells3.2.1, PM.out.cells3.2.2.1, PS.out.cells7.1, PS.out.cells7.2.1, PS.out.cells7.2.2.1, PS.out.cells7.2.2.2.1, PS.out.cells7.2.2.2.2.1, PS.out.cells7.2.2.2.2.2.1, PS.out.cells7.2.2.2.2.2.2.1⟩ (fun hS => ?_)
    generalize W9.drew = Wd at *
    refine wpAnyH_take (i := 0) (v := ?_) (by simp only [List.getElem?_toArray, List.getElem?_cons_succ, List.getElem?_cons_zero]; rfl) (by kernel_rfl) (by kernel_rfl) (by kernel_rfl) (fun _ _ _ h => h) (Or.inl ⟨by rfl, ?_⟩) hS ?_
    rotate_left
    · intro w' hSw; (try dsimp only at hSw); go_split_ands; go_simp; (try with_reducible rfl)
    (try simp only [Act.put, List.setIfInBounds_toArray, List.set_cons_zero, List.set_cons_succ])
    refine wpAnyH_take (i := 1) (v := ?_) (by simp only [List.getElem?_toArray, List.getElem?_cons_succ, List.getElem?_cons_zero]; rfl) (by kernel_rfl) (by kernel_rfl) (by kernel_rfl) (fun _ _ _ h => h) (Or.inl ⟨by rfl, ?_⟩) hS ?_
    rotate_left
    · intro w' hSw; (try dsimp only at hSw); go_split_ands; go_simp; (try with_reducible rfl)
    (try simp only [Act.put, List.setIfInBounds_toArray, List.set_cons_zero, List.set_cons_succ])
    refine wpAnyH_ready (rs := [2]) (by kernel_rfl) (by simp) ?_
    refine AllReadyH.cons (by simp only [List.getElem?_toArray, List.getElem?_cons_succ, List.getElem?_cons_zero]; rfl) (fun K hK => ?_) ?_
    · skip
      obtain ⟨y00, y01, y02, yf0⟩ := QM.out.cells3
      go_simp
      clear y00 y01 y02 yf0
      refine named_store3 QM.out ?_
      intro Ws2 hbk hgr hsz
      have hsz0 := hid hsz
      clear hsz
      replace QS := hid (QS.out.grown hgr (by simp <;> omega))
      replace PM := hid (PM.out.grown hgr (by simp <;> omega))
      replace PS := hid (PS.out.grown hgr (by simp <;> omega))
      replace OM := hid (mown_kept OM.out QM.out tm1 tm2 hgr)
      replace OV := hid (OV.out.keptG hgr (fun v hv e => OV.out.ne_blk QM.out tm1 v hv (by simpa using e)))
      replace HB := hid (HB.out.grown hgr HB.out.size (fun r e => by cases e; omega))
      replace QM := hid hbk
      clear hbk hgr
      refine hK.out _ _ ⟨PM.out.cells3.1, PM.out.cells3.2.1, PM.out.cells3.2.2.1, PS.out.cells7.1, PS.out.cells7.2.1, PS.out.cells7.2.2.1, PS.out.cells7.2.2.2.1, PS.out.cells7.2.2.2.2.1, PS.out.cells7.2.2.2.2.2.1, PS.out.cells7.2.2.2.2.2.2.1⟩ (fun hS' => ?_)
      clear hK K hS
      have hS := hS'
      clear hS'
      (try simp only [Act.put, List.setIfInBounds_toArray, List.set_cons_zero, List.set_cons_succ])
      refine wpAnyH_ready (rs := [3]) (by kernel_rfl) (by simp) ?_
      refine AllReadyH.cons (by simp only [List.getElem?_toArray, List.getElem?_cons_succ, List.getElem?_cons_zero]; rfl) (fun K hK => ?_) ?_
      · skip
        obtain ⟨y00, y01, y02, y03, y04, y05, y06, yf0⟩ := QS.out.cells7
        go_simp
        clear y00 y01 y02 y03 y04 y05 y06 yf0
        refine named_store_7_7_0 QS.out ?_
        intro Ws3 hbk hgr hsz
        have hsz1 := hid hsz
        clear hsz
        replace QM := hid (QM.out.grown hgr (by simp <;> omega))
        replace PM := hid (PM.out.grown hgr (by simp <;> omega))
        replace PS := hid (PS.out.grown hgr (by simp <;> omega))
        replace OM := hid (mown_kept OM.out QS.out ts1 ts2 hgr)
        replace OV := hid (OV.out.keptG hgr (fun v hv e => OV.out.ne_blk QS.out ts1 v hv (by simpa using e)))
        replace HB := hid (HB.out.grown hgr HB.out.size (fun r e => by cases e; omega))
        replace QS := hid hbk
        clear hbk hgr
        refine hK.out _ _ ⟨PM.out.cells3.1, PM.out.cells3.2.1, PM.out.cells3.2.2.1, PS.out.cells7.1, PS.out.cells7.2.1, PS.out.cells7.2.2.1, PS.out.cells7.2.2.2.1, PS.out.cells7.2.2.2.2.1, PS.out.cells7.2.2.2.2.2.1, PS.out.cells7.2.2.2.2.2.2.1⟩ (fun hS' => ?_)
        clear hK K hS
        have hS := hS'
        clear hS'
        (try simp only [Act.put, List.setIfInBounds_toArray, List.set_cons_zero, List.set_cons_succ])
        refine wpAnyH_take (i := 4) (v := ?_) (by simp only [List.getElem?_toArray, List.getElem?_cons_succ, List.getElem?_cons_zero]; rfl) (by kernel_rfl) (by kernel_rfl) (by kernel_rfl) (fun _ _ _ h => h) (Or.inl ⟨by rfl, ?_⟩) hS ?_
        rotate_left
        · intro w' hSw; (try dsimp only at hSw); go_split_ands; go_simp; (try with_reducible rfl)
        (try simp only [Act.put, List.setIfInBounds_toArray, List.set_cons_zero, List.set_cons_succ])
        refine wpAnyH_done (by kernel_rfl) ?_ _
        refine NoPanic.normal ?_
        clear hS
        go_wp2
        obtain ⟨v0, v1, v2, vf⟩ := QM.out.cells3
        obtain ⟨q0, q1, q2, q3, q4, q5, q6, qf⟩ := QS.out.cells7
        refine bodyPost_ret (v := .tuple #[mv A2 n2 c2 B2 k2 d2 m2.2.2, .agg #[.int .i64 r2.a, .int .i64 r2.f, .int .i64 r2.m, .int .i64 r2.ph, .int .u64 r2.bg, .slice V2 vn2 vc2, .int .i64 r2.tr], .int .i64 0]) (by simp [results, Try.results24, go_sem, v0, v1, v2, q0, q1, q2, q3, q4, q5, q6]) rfl ?_
        rw [HE.out]
        exact ⟨_, _, _, _, _, _, _, _, _, rfl, OM.out, OV.out, HB.out⟩
      exact AllReadyH.nil
    exact AllReadyH.nil
end Go.Proofs.Ytnkaajkdjbdpaaa
