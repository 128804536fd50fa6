/- afterglowref06: Play. No condition but sizes. -/
import Derived.Test.YtnkaajkdjbdpaaaSqT4
namespace Go.Proofs.Ytnkaajkdjbdpaaa
open Go.RowKit
def RPPost (w : World) (A0 : Option Addr) (n : Nat) (B0 : Option Addr) (b : Nat) (r : MSt × Srd × List Swr) (e : Ending) (w' : World) : Prop :=
  ∃ A c B d V vn vc, e = .returned (.tuple #[mv A n c B n d r.1.2.2, rdV r.2.1 V vn vc]) ∧ Mem w' A n c B n d r.1.1 r.1.2.1 ∧ VIn w' 0 b V vn r.2.1.vs ∧ Below w.heap.size w w' ∧ ∀ g, g < w.heap.size → FarM n A0 B0 g → FarM n A B g
/-- what the rounds keep; j: picks made -/
structure RPI (w : World) (A0 : Option Addr) (n : Nat) (B0 : Option Addr) (b : Nat) (x0 : MSt × Srd × List Swr) (ps : List Bool) (j : Nat) (L : Option Addr) (nl cl : Nat) (W : World) : Prop where
  out : ∃ A c B d m V vn vc r es, Blk W w.heap.size 44 (mcs A n c B n d m.2.2) ∧ Mem W A n c B n d m.1 m.2.1 ∧ Blk W (w.heap.size + 1) 29 (rdc r.a r.f r.m r.ph r.bg V vn vc r.tr) ∧ VIn W 0 b V vn r.vs ∧
    Om 6 encW W w.heap.size 34 L nl cl es ∧ VRows W w.heap.size es ∧ (m, r, es.map Prod.fst) = sqplay x0 (ps.take j) ∧ (∀ g, w.heap.size ≤ g → g < w.heap.size + 4 → FarM n A B g) ∧ (∀ g, L = some ⟨g, 0, none⟩ → FarM n A B g) ∧ ∀ g, g < w.heap.size → FarM n A0 B0 g → FarM n A B g
  qm : Blk W (w.heap.size + 2) 44 (mcs none 0 0 none 0 0 false)
  qs : Blk W (w.heap.size + 3) 29 (rdc 0 0 0 0 0 none 0 0 0)
  be : Below w.heap.size w W
theorem vrow_in {W : World} {B n : Nat} {V : Option Addr} {vs : List Int} (h : VRow W B V n vs) (hB : B ≤ W.heap.size) : VIn W 0 B V n vs := by
  refine ⟨hB, ?_⟩
  rcases h with h | ⟨lo, c, h⟩
  · exact .inl h
  · exact .inr ⟨c, h.mono (Nat.zero_le _)⟩
theorem in_vrow {W : World} {B n : Nat} {V : Option Addr} {vs : List Int} (h : VIn W 0 B V n vs) : VRow W B V n vs := by
  obtain ⟨_, h | ⟨c, h⟩⟩ := h
  · exact .inl h
  · exact .inr ⟨_, c, h⟩
set_option maxRecDepth 100000 in
set_option maxHeartbeats 8000000 in
theorem rplay_any (A : Option Addr) (n c : Nat) (B : Option Addr) (d : Nat) (f0 : Bool) (ws : List Int) (ls : List Bool) (r : Srd) (V : Option Addr) (vn vc : Nat) (L : Option Addr) (nl cl : Nat) (es : List WrE) (Q : Option Addr) (nq cq : Nat) (ps : List Bool) (B0 : Nat) (w : World) (h : Mem w A n c B n d ws ls) (hv : VIn w 0 B0 V vn r.vs)
    (hl : Sm 6 encW zWe w 0 w.heap.size L nl es) (hvs : VRows w w.heap.size es) (hnl : nl ≤ 1000) (hq : Sl blv false w 0 w.heap.size Q nq ps) (hnq : nq ≤ 100000) (hok : SqAll ((ws, ls, f0), r, es.map Prod.fst)) :
    Calls Try.prog 26 #[mv A n c B n d f0, rdV r V vn vc, .slice L nl cl, .slice Q nq cq] w (RPPost w A n B B0 (sqplay ((ws, ls, f0), r, es.map Prod.fst) ps)) := by
  obtain ⟨x0, hx0⟩ : ∃ x0, x0 = ((ws, ls, f0), r, es.map Prod.fst) := ⟨_, rfl⟩
  rw [← hx0] at hok ⊢
  have HX0 := hid hx0
  have HM := hid h; have HVI := hid hv; have HL := hid hl; have XQ := hid hq; have HB := hid (Below.refl w.heap.size w); have HVS := hid hvs; have HOK := hid hok
  have hnqe := hid hq.len; have hnle := hid hl.len; have hB0 := hid hv.1
  have HF := hid (show ∀ g, w.heap.size ≤ g → FarM n A B g from fun g hg => h.far hg)
  obtain ⟨i0, hi0, hz00, hz01, hz02⟩ := info_parts info_wr
  clear h hv hl hvs hq hok hx0
  have bx := below_box w (.cells (mcs A n c B n d f0) 44)
  replace HM := hid (HM.out.step bx); replace HVI := hid (HVI.out.step bx); replace HL := hid (HL.out.step bx); replace HB := hid (below_then HB.out bx)
  clear bx
  have PM := hid (Blk.new w 44 (mcs A n c B n d f0))
  have bx := below_box (w.alloc (.cells (mcs A n c B n d f0) 44)) (.cells (rdc r.a r.f r.m r.ph r.bg V vn vc r.tr) 29)
  replace HM := hid (HM.out.step bx); replace HVI := hid (HVI.out.step bx); replace HL := hid (HL.out.step bx); replace PM := hid (PM.out.step bx); replace HB := hid (below_then HB.out bx)
  clear bx
  have PS := hid (Blk.new2 w 29 (rdc r.a r.f r.m r.ph r.bg V vn vc r.tr) (.cells (mcs A n c B n d f0) 44))
  have bx := below_box ((w.alloc (.cells (mcs A n c B n d f0) 44)).alloc (.cells (rdc r.a r.f r.m r.ph r.bg V vn vc r.tr) 29)) (.cells (mcs none 0 0 none 0 0 false) 44)
  replace HM := hid (HM.out.step bx); replace HVI := hid (HVI.out.step bx); replace HL := hid (HL.out.step bx); replace PM := hid (PM.out.step bx); replace PS := hid (PS.out.step bx); replace HB := hid (below_then HB.out bx)
  clear bx
  have QM := hid (Blk.new3 w 44 (mcs none 0 0 none 0 0 false) (.cells (mcs A n c B n d f0) 44) (.cells (rdc r.a r.f r.m r.ph r.bg V vn vc r.tr) 29))
  have bx := below_box (((w.alloc (.cells (mcs A n c B n d f0) 44)).alloc (.cells (rdc r.a r.f r.m r.ph r.bg V vn vc r.tr) 29)).alloc (.cells (mcs none 0 0 none 0 0 false) 44)) (.cells (rdc 0 0 0 0 0 none 0 0 0) 29)
  replace HM := hid (HM.out.step bx); replace HVI := hid (HVI.out.step bx); replace HL := hid (HL.out.step bx); replace PM := hid (PM.out.step bx); replace PS := hid (PS.out.step bx); replace QM := hid (QM.out.step bx); replace HB := hid (below_then HB.out bx)
  clear bx
  have QS := hid (Blk.new4 w 29 (rdc 0 0 0 0 0 none 0 0 0) (.cells (mcs A n c B n d f0) 44) (.cells (rdc r.a r.f r.m r.ph r.bg V vn vc r.tr) 29) (.cells (mcs none 0 0 none 0 0 false) 44))
  go_enter Try.func26, Try.ntmps26
  go_upto_region 1 with fail
  have hz0 := hid (show ((((w.alloc (.cells (mcs A n c B n d f0) 44)).alloc (.cells (rdc r.a r.f r.m r.ph r.bg V vn vc r.tr) 29)).alloc (.cells (mcs none 0 0 none 0 0 false) 44)).alloc (.cells (rdc 0 0 0 0 0 none 0 0 0) 29)).heap.size = w.heap.size + 4 by simp)
  generalize (((w.alloc (.cells (mcs A n c B n d f0) 44)).alloc (.cells (rdc r.a r.f r.m r.ph r.bg V vn vc r.tr) 29)).alloc (.cells (mcs none 0 0 none 0 0 false) 44)).alloc (.cells (rdc 0 0 0 0 0 none 0 0 0) 29) = W0 at *
  have hw0 := hid (show w.heap.size + 4 ≤ W0.heap.size by have := hz0.out; omega)
  have HVS0 := hid (HVS.out.step (Nat.le_refl _) HB.out)
  have HE := hid (Om.empty (sz := 6) (enc := encW) W0 W0.heap.size 34 (Nat.le_refl _))
  have HL2 := hid (HL.out.alloc (Nat.le_refl _) (.cells #[] 34))
  go_wp2_with (at_builtin; refine wpList_appm 6 encW zWe _ rfl _ _ 45 rfl W0.heap.size 34 i0 _ 64 Try.underlying45 hi0 hz00 hz01 hz02 rfl (by omega) _ _ _ [] rfl HE.out 0 _ L nl cl es rfl HL2.out encW_one (by simp only [maxLen]; omega) (by omega) (by simp) ?_; intro L5 cl5 w1 hown hgr hat; simp only [Nat.zero_add, List.nil_append] at hown; have OL := hid hown; have H1 := hid (Below.grown (below_box W0 (.cells #[] 34)) hgr (by simp) (fun k hk => by simp [Value.ownBlock] at hk; omega)); clear hown hgr hat)
  have hb := H1.out
  clear HL HL2 HE
  replace HM := hid (HM.out.step hb); replace HVI := hid (HVI.out.step hb); replace PM := hid (PM.out.step hb); replace PS := hid (PS.out.step hb); replace QM := hid (QM.out.step hb); replace QS := hid (QS.out.step hb); replace HB := hid (below_then HB.out hb)
  have HVS1 := hid (HVS0.out.step (by have := hw0.out; omega) hb)
  have OL1 := hid (OL.out.mono (show w.heap.size ≤ _ by have := hw0.out; omega))
  have HFL := hid (show ∀ g, L5 = some ⟨g, 0, none⟩ → FarM n A B g from fun g e => HF.out g (by have := (OL1.out.blk _ e).1; exact this))
  clear hb H1 HVS0 HVS OL
  have HI := hid (show RPI w A n B B0 x0 ps 0 L5 nl cl5 w1 from ⟨⟨A, c, B, d, (ws, ls, f0), V, vn, vc, r, es, PM.out, HM.out, PS.out, HVI.out, OL1.out, HVS1.out, by rw [← HX0.out]; rfl, fun g hg _ => HF.out g hg, HFL.out, fun _ _ h => h⟩, QM.out, QS.out, HB.out⟩)
  clear PM HM PS HVI OL1 HVS1 HF HFL QM QS HB hi0 hz00 hz01 hz02 hw0 hz0
  go_loopw [19] (fun i wr => ∃ j : Nat, j ≤ nq ∧ i = .int .i64 j ∧ RPI w A n B B0 x0 ps j L5 nl cl5 wr) (fun i _ => nq - (intOf i).toNat)
  case atStart => exact ⟨0, Nat.zero_le _, rfl, HI.out⟩
  case round =>
    clear HI
    obtain ⟨j, hj, rfl, hI⟩ := hrel
    obtain ⟨⟨A2, c2, B2, d2, m2, V2, vn2, vc2, r2, es2, h1, h2, h3, h4, h5, h6, h7, h12, h13, h14⟩, h8, h9, h10⟩ := hI
    have PM := hid h1; have OM := hid h2; have PS := hid h3; have HVI := hid h4; have OL := hid h5; have HVS := hid h6; have HSQ := hid h7; have QM := hid h8; have QS := hid h9; have HB := hid h10; have HFB := hid h12; have HFL := hid h13; have HFO := hid h14
    clear h1 h2 h3 h4 h5 h6 h7 h8 h9 h10 h12 h13 h14
    have HAL := hid (show SqAll (m2, r2, es2.map Prod.fst) from by rw [HSQ.out]; exact sqplay_ok _ HOK.out)
    by_cases hjn : j < nq
    rotate_left
    · skip
      obtain rfl : nq = j := by omega
      have hjn' : ¬ ((nq : Int) < (nq : Int)) := by omega
      have HE := hid (show sqplay x0 ps = (m2, r2, es2.map Prod.fst) by
        have e := HSQ.out
        rw [List.take_of_length_le (by have := hnqe.out; omega)] at e
        exact e.symm)
      clear hjn XQ HSQ
      go_upto_region 11 with fail
      have bx := (Below.refl wr.heap.size wr).drew
      replace PM := hid (PM.out.step bx); replace PS := hid (PS.out.step bx); replace OM := hid (OM.out.step bx); replace HVI := hid (HVI.out.step bx); replace QM := hid (QM.out.step bx); replace QS := hid (QS.out.step bx); replace HB := hid (below_then HB.out bx)
      clear bx
      have hszd := hid (show wr.drew.heap.size = wr.heap.size from rfl)
      refine wp_region_noPanic ?_
      refine wp_region_held_drew (S := (fun W' : World => W'.cell? ⟨w.heap.size, 0, none⟩ = some (.slice A2 n c2) ∧ W'.cell? ⟨w.heap.size, 1, none⟩ = some (.slice B2 n d2) ∧ W'.cell? ⟨w.heap.size, 2, none⟩ = some (.bool m2.2.2) ∧ W'.cell? ⟨w.heap.size + 1, 0, none⟩ = some (.int .i64 r2.a) ∧ W'.cell? ⟨w.heap.size + 1, 1, none⟩ = some (.int .i64 r2.f) ∧ W'.cell? ⟨w.heap.size + 1, 2, none⟩ = some (.int .i64 r2.m) ∧ W'.cell? ⟨w.heap.size + 1, 3, none⟩ = some (.int .i64 r2.ph) ∧ W'.cell? ⟨w.heap.size + 1, 4, none⟩ = some (.int .u64 r2.bg) ∧ W'.cell? ⟨w.heap.size + 1, 5, none⟩ = some (.slice V2 vn2 vc2) ∧ W'.cell? ⟨w.heap.size + 1, 6, none⟩ = some (.int .i64 r2.tr))) (by kernel_rfl) ⟨PM.out.cells3.1, PM.out.cells3.2.1, PM.out.cells3.2.2.1, PS.out.cells7.1, PS.out.cells7.2.1, PS.out.cells7.2.2.1, PS.out.cells7.2.2.2.1, PS.out.cells7.2.2.2.2.1, PS.out.cells7.2.2.2.2.2.1, PS.out.cells7.2.2.2.2.2.2.1⟩ (fun hS => ?_)
      generalize wr.drew = Wd at *
      refine wpAnyH_take (i := 0) (v := ?_) (by simp only [List.getElem?_toArray, List.getElem?_cons_succ, List.getElem?_cons_zero]; rfl) (by kernel_rfl) (by kernel_rfl) (by kernel_rfl) (fun _ _ _ h => h) (Or.inl ⟨by rfl, ?_⟩) hS ?_
      rotate_left
      · intro w' hSw; (try dsimp only at hSw); go_split_ands; go_simp; (try with_reducible rfl)
      (try simp only [Act.put, List.setIfInBounds_toArray, List.set_cons_zero, List.set_cons_succ])
      refine wpAnyH_take (i := 1) (v := ?_) (by simp only [List.getElem?_toArray, List.getElem?_cons_succ, List.getElem?_cons_zero]; rfl) (by kernel_rfl) (by kernel_rfl) (by kernel_rfl) (fun _ _ _ h => h) (Or.inl ⟨by rfl, ?_⟩) hS ?_
      rotate_left
      · intro w' hSw; (try dsimp only at hSw); go_split_ands; go_simp; (try with_reducible rfl)
      (try simp only [Act.put, List.setIfInBounds_toArray, List.set_cons_zero, List.set_cons_succ])
      refine wpAnyH_ready (rs := [2]) (by kernel_rfl) (by simp) ?_
      refine AllReadyH.cons (by simp only [List.getElem?_toArray, List.getElem?_cons_succ, List.getElem?_cons_zero]; rfl) (fun K hK => ?_) ?_
      · skip
        obtain ⟨y00, y01, y02, yf0⟩ := QM.out.cells3
        go_simp
        clear y00 y01 y02 yf0
        refine named_store3 QM.out ?_
        intro Ws2 hbk hgr hsz
        have hsz0 := hid hsz
        clear hsz
        replace PM := hid (PM.out.grown hgr (by simp <;> omega))
        replace PS := hid (PS.out.grown hgr (by simp <;> omega))
        replace QS := hid (QS.out.grown hgr (by simp <;> omega))
        replace OM := hid (mem_kept OM.out (HFB.out _ (by omega) (by omega)) hgr)
        replace HVI := hid (HVI.out.kept QM.out tm1 (by have := hB0.out; omega) hgr)
        replace HB := hid (HB.out.grown hgr HB.out.size (fun r e => by cases e; omega))
        replace QM := hid hbk
        clear hbk hgr
        refine hK.out _ _ ⟨PM.out.cells3.1, PM.out.cells3.2.1, PM.out.cells3.2.2.1, PS.out.cells7.1, PS.out.cells7.2.1, PS.out.cells7.2.2.1, PS.out.cells7.2.2.2.1, PS.out.cells7.2.2.2.2.1, PS.out.cells7.2.2.2.2.2.1, PS.out.cells7.2.2.2.2.2.2.1⟩ (fun hS' => ?_)
        clear hK K hS
        have hS := hS'
        clear hS'
        (try simp only [Act.put, List.setIfInBounds_toArray, List.set_cons_zero, List.set_cons_succ])
        refine wpAnyH_ready (rs := [3]) (by kernel_rfl) (by simp) ?_
        refine AllReadyH.cons (by simp only [List.getElem?_toArray, List.getElem?_cons_succ, List.getElem?_cons_zero]; rfl) (fun K hK => ?_) ?_
        · skip
          obtain ⟨y00, y01, y02, y03, y04, y05, y06, yf0⟩ := QS.out.cells7
          go_simp
          clear y00 y01 y02 y03 y04 y05 y06 yf0
          refine named_store_7_7_0 QS.out ?_
          intro Ws3 hbk hgr hsz
          have hsz1 := hid hsz
          clear hsz
          replace PM := hid (PM.out.grown hgr (by simp <;> omega))
          replace PS := hid (PS.out.grown hgr (by simp <;> omega))
          replace QM := hid (QM.out.grown hgr (by simp <;> omega))
          replace OM := hid (mem_kept OM.out (HFB.out _ (by omega) (by omega)) hgr)
          replace HVI := hid (HVI.out.kept QS.out ts1 (by have := hB0.out; omega) hgr)
          replace HB := hid (HB.out.grown hgr HB.out.size (fun r e => by cases e; omega))
          replace QS := hid hbk
          clear hbk hgr
          refine hK.out _ _ ⟨PM.out.cells3.1, PM.out.cells3.2.1, PM.out.cells3.2.2.1, PS.out.cells7.1, PS.out.cells7.2.1, PS.out.cells7.2.2.1, PS.out.cells7.2.2.2.1, PS.out.cells7.2.2.2.2.1, PS.out.cells7.2.2.2.2.2.1, PS.out.cells7.2.2.2.2.2.2.1⟩ (fun hS' => ?_)
          clear hK K hS
          have hS := hS'
          clear hS'
          (try simp only [Act.put, List.setIfInBounds_toArray, List.set_cons_zero, List.set_cons_succ])
          refine wpAnyH_done (by kernel_rfl) ?_ _
          refine NoPanic.normal ?_
          clear hS
          go_wp2
          obtain ⟨q0, q1, q2, qf⟩ := QM.out.cells3; obtain ⟨v0, v1, v2, v3, v4, v5, v6, vf⟩ := QS.out.cells7
          refine bodyPost_ret (v := .tuple #[mv A2 n c2 B2 n d2 m2.2.2, .agg #[.int .i64 r2.a, .int .i64 r2.f, .int .i64 r2.m, .int .i64 r2.ph, .int .u64 r2.bg, .slice V2 vn2 vc2, .int .i64 r2.tr]]) (by simp [results, Try.results26, go_sem, q0, q1, q2, v0, v1, v2, v3, v4, v5, v6]) rfl ?_
          rw [HE.out]
          exact ⟨A2, c2, B2, d2, V2, vn2, vc2, rfl, OM.out, HVI.out, HB.out, HFO.out⟩
        exact AllReadyH.nil
      exact AllReadyH.nil
    obtain ⟨p, hp⟩ : ∃ p, p = ps[j]?.getD false := ⟨_, rfl⟩
    obtain ⟨b, off, rfl, _, hbh, hc⟩ := XQ.out.row (by omega)
    have f0 := (HB.out.cell (p := ⟨b, off + j, none⟩) hbh).trans (hc j hjn)
    rw [← hp] at f0
    have HTS := hid (show sqplay x0 (ps.take (j + 1)) = sqstep (m2, r2, es2.map Prod.fst) p by rw [take_succB (by rw [hnqe.out]; exact hjn), sqplay_snoc, ← HSQ.out, hp])
    have hji : (j : Int) < (nq : Int) := by omega
    have hw1 : IntKind.i64.wrap ((j : Int) + 1) = (j : Int) + 1 := by rw [IntKind.wrap_i64]; omega
    have hlen2 := hid OL.out.len; have hsB := hid HB.out.size
    clear hp hc hbh HSQ
    go_wp2_with fail
    clear f0
    refine (rnext_any L5 nl cl5 es2 wr (OL.out.sm.mono (Nat.zero_le _) (Nat.le_refl _)) (by omega)).mono ?_
    rintro e W10 ⟨rfl, hb⟩
    replace PM := hid (PM.out.step hb); replace OM := hid (OM.out.step hb); replace PS := hid (PS.out.step hb); replace HVI := hid (HVI.out.step hb); replace OL := hid (OL.out.step hb); replace QM := hid (QM.out.step hb); replace QS := hid (QS.out.step hb); replace HB := hid (below_then HB.out hb)
    have HVS2 := hid (HVS.out.step hsB.out hb)
    clear hb HVS
    obtain ⟨gi, hgi⟩ : ∃ gi, gi = firstGo (es2.map Prod.fst) := ⟨_, rfl⟩
    rw [← hgi]
    have HGI := hid hgi
    clear hgi
    rcases p with _ | _
    · skip
      by_cases hg0 : 0 ≤ gi
      rotate_left
      · have d0 : decide (0 ≤ gi) = false := decide_eq_false hg0
        have HN := hid hg0
        clear hg0
        go_wp2_with fail
        go_roundw
        case rel => exact ⟨j + 1, by omega, by go_num, ⟨A2, c2, B2, d2, m2, V2, vn2, vc2, r2, es2, PM.out, OM.out, PS.out, HVI.out, OL.out, HVS2.out, by rw [HTS.out]; unfold sqstep; rw [if_neg (by decide), if_neg (by rw [← HGI.out]; have := HN.out; omega)], HFB.out, HFL.out, HFO.out⟩, QM.out, QS.out, HB.out⟩
        case measure => simp [intOf]; omega
      obtain ⟨gn, rfl⟩ := Int.eq_ofNat_of_zero_le hg0
      have d0 : decide (0 ≤ (gn : Int)) = true := decide_eq_true hg0
      have hgl := hid (show gn < es2.length by have h := firstGo_lt (es2.map Prod.fst) (by rw [← HGI.out]; exact hg0); rw [← HGI.out, List.length_map] at h; omega)
      have hgn : gn < nl := by rw [← hlen2.out]; exact hgl.out
      have hgni : (gn : Int) < (nl : Int) := by omega
      obtain ⟨⟨s3, V3, vn3, vc3⟩, hx⟩ : ∃ x, x = es2[gn]?.getD zWe := ⟨_, rfl⟩
      have hvj := HVS2.out.at_ (k := gn) hgl.out
      rw [← hx] at hvj
      have HX := hid hx
      obtain ⟨gl, rfl, hgl1, hgl2, hc, hfz⟩ := OL.out.at_ zWe hgn
      have HVJ := hid (vrow_in hvj.1 HB.out.size)
      have hvn3 := hvj.2
      have HSX := hid (show (es2.map Prod.fst)[gn]?.getD zWr = s3 by rw [List.getElem?_map]; rw [List.getElem?_eq_getElem hgl.out] at hx ⊢; exact congrArg Prod.fst hx.symm)
      have HW3 := hid (show WrOkS s3 from HAL.out.2.2 s3 (by rw [← HSX.out]; rw [List.getElem?_eq_getElem (by rw [List.length_map]; exact hgl.out)]; exact List.getElem_mem _))
      obtain ⟨⟨m4, s4⟩, hr4⟩ : ∃ x, x = swriteF m2 s3 := ⟨_, rfl⟩
      have HR4 := hid hr4
      have hglw := hid (show gl ≠ w.heap.size ∧ gl ≠ w.heap.size + 1 from ⟨OL.out.ne_blk PM.out (by decide) _ rfl, OL.out.ne_blk PS.out (by decide) _ rfl⟩)
      have hgl3 := hid hgl2
      clear hx hvj hc hfz hg0 hr4
      go_upto_region 9 with fail
      have H10 := hid (Below.refl W10.heap.size W10)
      have hsB10 := hid HB.out.size
      have QSL := hid (show w.heap.size + 4 ≤ W10.heap.size by have := QS.out.lt; omega)
      have hgl4 := hid (show gl < W10.heap.size from hgl2)
      have bx := (Below.refl W10.heap.size W10).drew
      replace PM := hid (PM.out.step bx); replace OM := hid (OM.out.step bx); replace PS := hid (PS.out.step bx); replace HVI := hid (HVI.out.step bx); replace OL := hid (OL.out.step bx); replace QM := hid (QM.out.step bx); replace QS := hid (QS.out.step bx); replace HVJ := hid (HVJ.out.step bx); replace HB := hid (below_then HB.out bx); replace H10 := hid (below_then H10.out bx)
      clear bx
      have hszd := hid (show W10.drew.heap.size = W10.heap.size from rfl)
      refine wp_region_noPanic ?_
      refine wp_region_held_drew (S := (fun W' : World => True)) (by kernel_rfl) trivial (fun hS => ?_)
      generalize W10.drew = Wd at *
      refine wpAnyH_take (i := 0) (v := ?_) (by simp only [List.getElem?_toArray, List.getElem?_cons_succ, List.getElem?_cons_zero]; rfl) (by kernel_rfl) (by kernel_rfl) (by kernel_rfl) (fun _ _ _ h => h) (Or.inl ⟨by rfl, ?_⟩) hS ?_
      rotate_left
      · intro w' hSw; (try dsimp only at hSw); go_split_ands; go_simp; (try with_reducible rfl)
      (try simp only [Act.put, List.setIfInBounds_toArray, List.set_cons_zero, List.set_cons_succ])
      refine wpAnyH_take (i := 1) (v := ?_) (by simp only [List.getElem?_toArray, List.getElem?_cons_succ, List.getElem?_cons_zero]; rfl) (by kernel_rfl) (by kernel_rfl) (by kernel_rfl) (fun _ _ _ h => h) (Or.inl ⟨by rfl, ?_⟩) hS ?_
      rotate_left
      · intro w' hSw; (try dsimp only at hSw); go_split_ands; go_simp; (try with_reducible rfl)
      (try simp only [Act.put, List.setIfInBounds_toArray, List.set_cons_zero, List.set_cons_succ])
      refine wpAnyH_take (i := 3) (v := ?_) (by simp only [List.getElem?_toArray, List.getElem?_cons_succ, List.getElem?_cons_zero]; rfl) (by kernel_rfl) (by kernel_rfl) (by kernel_rfl) (fun _ _ _ h => h) (Or.inl ⟨by rfl, ?_⟩) hS ?_
      rotate_left
      · intro w' hSw; (try dsimp only at hSw); go_split_ands; go_simp; (try with_reducible rfl)
      (try simp only [Act.put, List.setIfInBounds_toArray, List.set_cons_zero, List.set_cons_succ])
      refine wpAnyH_take (i := 4) (v := ?_) (by simp only [List.getElem?_toArray, List.getElem?_cons_succ, List.getElem?_cons_zero]; rfl) (by kernel_rfl) (by kernel_rfl) (by kernel_rfl) (fun _ _ _ h => h) (Or.inl ⟨by rfl, ?_⟩) hS ?_
      rotate_left
      · intro w' hSw; (try dsimp only at hSw); go_split_ands; go_simp; (try with_reducible rfl)
      (try simp only [Act.put, List.setIfInBounds_toArray, List.set_cons_zero, List.set_cons_succ])
      refine wpAnyH_take (i := 5) (v := ?_) (by simp only [List.getElem?_toArray, List.getElem?_cons_succ, List.getElem?_cons_zero]; rfl) (by kernel_rfl) (by kernel_rfl) (by kernel_rfl) (fun _ _ _ h => h) (Or.inl ⟨by rfl, ?_⟩) hS ?_
      rotate_left
      · intro w' hSw; (try dsimp only at hSw); go_split_ands; go_simp; (try with_reducible rfl)
      (try simp only [Act.put, List.setIfInBounds_toArray, List.set_cons_zero, List.set_cons_succ])
      refine wpAnyH_ready (rs := [2, 6]) (by kernel_rfl) (by simp) ?_
      refine AllReadyH.cons (by simp only [List.getElem?_toArray, List.getElem?_cons_succ, List.getElem?_cons_zero]; rfl) (fun K hK => ?_) ?_
      · skip
        obtain ⟨y00, y01, y02, yf0⟩ := PM.out.cells3
        go_simp
        clear y00 y01 y02 yf0
        have hS' : (fun W' : World => True) Wd := trivial
        refine hK.out _ _ hS' (fun _ => ?_)
        clear hK K hS
        have hS := hS'
        clear hS'
        (try simp only [Act.put, List.setIfInBounds_toArray, List.set_cons_zero, List.set_cons_succ])
        refine wpAnyH_ready (rs := [6]) (by kernel_rfl) (by simp) ?_
        refine AllReadyH.cons (by simp only [List.getElem?_toArray, List.getElem?_cons_succ, List.getElem?_cons_zero]; rfl) (fun K hK => ?_) ?_
        · skip
          obtain ⟨f0, f1, f2, f3, f4, f5, ff⟩ := row6 OL.out hgn HX.out
          go_simp
          clear f0 f1 f2 f3 f4 f5 ff
          have hS' : (fun W' : World => True) Wd := trivial
          refine hK.out _ _ hS' (fun _ => ?_)
          clear hK K hS
          have hS := hS'
          clear hS'
          (try simp only [Act.put, List.setIfInBounds_toArray, List.set_cons_zero, List.set_cons_succ])
          refine wpAnyH_ready (rs := [7]) (by kernel_rfl) (by simp) ?_
          refine AllReadyH.cons (by simp only [List.getElem?_toArray, List.getElem?_cons_succ, List.getElem?_cons_zero]; rfl) (fun K hK => ?_) ?_
          · skip
            go_simp
            refine (rswrite_in A2 n c2 B2 d2 m2.2.2 m2.1 m2.2.1 s3 V3 vn3 vc3 0 w.heap.size _ OM.out HVJ.out HW3.out).mono ?_
            rintro e w11 ⟨A4, c4, B4, d4, rfl, om4, ov4, hb, hf4⟩
            have hsz2 := hid (show Wd.heap.size ≤ w11.heap.size from hb.size)
            replace PM := hid (PM.out.step hb); replace OM := hid (OM.out.step hb); replace PS := hid (PS.out.step hb); replace HVI := hid (HVI.out.step hb); replace OL := hid (OL.out.step hb); replace QM := hid (QM.out.step hb); replace QS := hid (QS.out.step hb); replace HVJ := hid (HVJ.out.step hb); replace HB := hid (below_then HB.out hb); replace H10 := hid (below_then H10.out hb)
            clear hb
            rw [← HR4.out] at om4 ov4 ⊢
            dsimp only at om4 ov4 ⊢
            have MN := hid om4; have VN := hid ov4
            have HVS4 := hid (HVS2.out.step hsB10.out H10.out)
            have HFB4 := hid (show ∀ g, w.heap.size ≤ g → g < w.heap.size + 4 → FarM n A4 B4 g from fun g h1 h2 => hf4 g (by have := hszd.out; have := hsB10.out; have := QSL.out; omega) (HFB.out g h1 h2))
            have HFL4 := hid (show FarM n A4 B4 gl from hf4 gl (by have := hszd.out; have := hgl4.out; omega) (HFL.out gl rfl))
            have HFO4 := hid (show ∀ g, g < w.heap.size → FarM n A B g → FarM n A4 B4 g from fun g h1 h2 => hf4 g (by have := hszd.out; have := hsB10.out; omega) (HFO.out g h1 h2))
            clear om4 ov4 hf4 HVJ OM
            have HVJ := VN; have OM := MN
            clear VN MN
            go_wp2_with fail
            have hS' : (fun W' : World => True) w11 := trivial
            refine hK.out _ _ hS' (fun _ => ?_)
            clear hK K hS
            have hS := hS'
            clear hS'
            (try simp only [Act.put, List.setIfInBounds_toArray, List.set_cons_zero, List.set_cons_succ])
            refine wpAnyH_take (i := 8) (v := ?_) (by simp only [List.getElem?_toArray, List.getElem?_cons_succ, List.getElem?_cons_zero]; rfl) (by kernel_rfl) (by kernel_rfl) (by kernel_rfl) (fun _ _ _ h => h) (Or.inl ⟨by rfl, ?_⟩) hS ?_
            rotate_left
            · intro w' hSw; (try dsimp only at hSw); go_split_ands; go_simp; (try with_reducible rfl)
            (try simp only [Act.put, List.setIfInBounds_toArray, List.set_cons_zero, List.set_cons_succ])
            refine wpAnyH_take (i := 9) (v := ?_) (by simp only [List.getElem?_toArray, List.getElem?_cons_succ, List.getElem?_cons_zero]; rfl) (by kernel_rfl) (by kernel_rfl) (by kernel_rfl) (fun _ _ _ h => h) (Or.inl ⟨by rfl, ?_⟩) hS ?_
            rotate_left
            · intro w' hSw; (try dsimp only at hSw); go_split_ands; go_simp; (try with_reducible rfl)
            (try simp only [Act.put, List.setIfInBounds_toArray, List.set_cons_zero, List.set_cons_succ])
            refine wpAnyH_take (i := 10) (v := ?_) (by simp only [List.getElem?_toArray, List.getElem?_cons_succ, List.getElem?_cons_zero]; rfl) (by kernel_rfl) (by kernel_rfl) (by kernel_rfl) (fun _ _ _ h => h) (Or.inl ⟨by rfl, ?_⟩) hS ?_
            rotate_left
            · intro w' hSw; (try dsimp only at hSw); go_split_ands; go_simp; (try with_reducible rfl)
            (try simp only [Act.put, List.setIfInBounds_toArray, List.set_cons_zero, List.set_cons_succ])
            refine wpAnyH_ready (rs := [11]) (by kernel_rfl) (by simp) ?_
            refine AllReadyH.cons (by simp only [List.getElem?_toArray, List.getElem?_cons_succ, List.getElem?_cons_zero]; rfl) (fun K hK => ?_) ?_
            · skip
              obtain ⟨y00, y01, y02, yf0⟩ := PM.out.cells3
              go_simp
              clear y00 y01 y02 yf0
              refine named_store3 PM.out ?_
              intro Wc11 hbk hgr hsz
              have hsz11 := hid hsz
              replace OM := hid (mem_kept OM.out (HFB4.out _ (by omega) (by omega)) hgr)
              replace HVI := hid (HVI.out.kept PM.out tm1 (by have := hB0.out; omega) hgr)
              replace HVJ := hid (HVJ.out.kept PM.out tm1 (by omega) hgr)
              replace OL := hid (OL.out.keptG hgr (fun v hv e => OL.out.ne_blk PM.out (by decide) v hv (by simpa using e)))
              replace HVS4 := hid (HVS4.out.kept PM.out tm1 (Nat.le_refl _) hgr)
              replace PS := hid (PS.out.grown hgr (by simp <;> omega))
              replace QM := hid (QM.out.grown hgr (by simp <;> omega))
              replace QS := hid (QS.out.grown hgr (by simp <;> omega))
              replace HB := hid (HB.out.grown hgr HB.out.size (fun r e => by cases e; omega))
              replace PM := hid hbk
              clear hbk hgr hsz
              have hS' : (fun W' : World => True) Wc11 := trivial
              refine hK.out _ _ hS' (fun _ => ?_)
              clear hK K hS
              have hS := hS'
              clear hS'
              (try simp only [Act.put, List.setIfInBounds_toArray, List.set_cons_zero, List.set_cons_succ])
              refine wpAnyH_take (i := 12) (v := ?_) (by simp only [List.getElem?_toArray, List.getElem?_cons_succ, List.getElem?_cons_zero]; rfl) (by kernel_rfl) (by kernel_rfl) (by kernel_rfl) (fun _ _ _ h => h) (Or.inl ⟨by rfl, ?_⟩) hS ?_
              rotate_left
              · intro w' hSw; (try dsimp only at hSw); go_split_ands; go_simp; (try with_reducible rfl)
              (try simp only [Act.put, List.setIfInBounds_toArray, List.set_cons_zero, List.set_cons_succ])
              refine wpAnyH_ready (rs := [13]) (by kernel_rfl) (by simp) ?_
              refine AllReadyH.cons (by simp only [List.getElem?_toArray, List.getElem?_cons_succ, List.getElem?_cons_zero]; rfl) (fun K hK => ?_) ?_
              · skip
                obtain ⟨f0, f1, f2, f3, f4, f5, ff⟩ := row6 OL.out hgn HX.out
                go_simp
                clear f0 f1 f2 f3 f4 f5 ff
                refine named_row6 (enc := encW) OL.out gn (s4, V3, vn3, vc3) hgn ?_
                intro Wc13 hbk hgr hsz
                have hszr := hid hsz
                have hcs := (OL.out.blk _ rfl).2.choose_spec
                replace PM := hid (PM.out.grown hgr (fun e => hglw.out.1 (by simpa using e.symm)))
                replace PS := hid (PS.out.grown hgr (fun e => hglw.out.2 (by simpa using e.symm)))
                replace QM := hid (QM.out.grown hgr (fun e => OL.out.ne_blk QM.out (by decide) _ rfl (by simpa using e.symm)))
                replace QS := hid (QS.out.grown hgr (fun e => OL.out.ne_blk QS.out (by decide) _ rfl (by simpa using e.symm)))
                replace OM := hid (mem_kept OM.out HFL4.out hgr)
                replace HVI := hid (HVI.out.kept hcs tq1 (Nat.le_trans hB0.out hgl1) hgr)
                replace HVJ := hid (HVJ.out.kept hcs tq1 hgl1 hgr)
                replace HVS2 := hid ((HVS4.out.kept hcs tq1 hgl1 hgr).set gn (x := (s4, V3, vn3, vc3)) ⟨in_vrow HVJ.out, hvn3⟩)
                replace HB := hid (HB.out.grown hgr HB.out.size (fun r e => by cases e; exact hgl1))
                replace OL := hid hbk
                clear hbk hgr hsz hcs
                have hS' : (fun W' : World => True) Wc13 := trivial
                refine hK.out _ _ hS' (fun _ => ?_)
                clear hK K hS
                have hS := hS'
                clear hS'
                (try simp only [Act.put, List.setIfInBounds_toArray, List.set_cons_zero, List.set_cons_succ])
                refine wpAnyH_done (by kernel_rfl) ?_ _
                refine NoPanic.normal ?_
                clear hS
                go_wp2_with fail
                go_roundw
                case rel => exact ⟨j + 1, by omega, by go_num, ⟨A4, c4, B4, d4, m4, V2, vn2, vc2, r2, _, PM.out, OM.out, PS.out, HVI.out, OL.out, HVS2.out, by rw [HTS.out]; unfold sqstep; dsimp only; rw [if_neg (by decide), ← HGI.out, if_pos (by omega), Int.toNat_natCast, HSX.out, ← HR4.out, setmap], HFB4.out, fun g e => by cases e; exact HFL4.out, HFO4.out⟩, QM.out, QS.out, HB.out⟩
                case measure => simp [intOf]; omega
              exact AllReadyH.nil
            exact AllReadyH.nil
          exact AllReadyH.nil
        exact AllReadyH.nil
      refine AllReadyH.cons (by simp only [List.getElem?_toArray, List.getElem?_cons_succ, List.getElem?_cons_zero]; rfl) (fun K hK => ?_) ?_
      · skip
        obtain ⟨f0, f1, f2, f3, f4, f5, ff⟩ := row6 OL.out hgn HX.out
        go_simp
        clear f0 f1 f2 f3 f4 f5 ff
        have hS' : (fun W' : World => True) Wd := trivial
        refine hK.out _ _ hS' (fun _ => ?_)
        clear hK K hS
        have hS := hS'
        clear hS'
        (try simp only [Act.put, List.setIfInBounds_toArray, List.set_cons_zero, List.set_cons_succ])
        refine wpAnyH_ready (rs := [2]) (by kernel_rfl) (by simp) ?_
        refine AllReadyH.cons (by simp only [List.getElem?_toArray, List.getElem?_cons_succ, List.getElem?_cons_zero]; rfl) (fun K hK => ?_) ?_
        · skip
          obtain ⟨y00, y01, y02, yf0⟩ := PM.out.cells3
          go_simp
          clear y00 y01 y02 yf0
          have hS' : (fun W' : World => True) Wd := trivial
          refine hK.out _ _ hS' (fun _ => ?_)
          clear hK K hS
          have hS := hS'
          clear hS'
          (try simp only [Act.put, List.setIfInBounds_toArray, List.set_cons_zero, List.set_cons_succ])
          refine wpAnyH_ready (rs := [7]) (by kernel_rfl) (by simp) ?_
          refine AllReadyH.cons (by simp only [List.getElem?_toArray, List.getElem?_cons_succ, List.getElem?_cons_zero]; rfl) (fun K hK => ?_) ?_
          · skip
            go_simp
            refine (rswrite_in A2 n c2 B2 d2 m2.2.2 m2.1 m2.2.1 s3 V3 vn3 vc3 0 w.heap.size _ OM.out HVJ.out HW3.out).mono ?_
            rintro e w11 ⟨A4, c4, B4, d4, rfl, om4, ov4, hb, hf4⟩
            have hsz2 := hid (show Wd.heap.size ≤ w11.heap.size from hb.size)
            replace PM := hid (PM.out.step hb); replace OM := hid (OM.out.step hb); replace PS := hid (PS.out.step hb); replace HVI := hid (HVI.out.step hb); replace OL := hid (OL.out.step hb); replace QM := hid (QM.out.step hb); replace QS := hid (QS.out.step hb); replace HVJ := hid (HVJ.out.step hb); replace HB := hid (below_then HB.out hb); replace H10 := hid (below_then H10.out hb)
            clear hb
            rw [← HR4.out] at om4 ov4 ⊢
            dsimp only at om4 ov4 ⊢
            have MN := hid om4; have VN := hid ov4
            have HVS4 := hid (HVS2.out.step hsB10.out H10.out)
            have HFB4 := hid (show ∀ g, w.heap.size ≤ g → g < w.heap.size + 4 → FarM n A4 B4 g from fun g h1 h2 => hf4 g (by have := hszd.out; have := hsB10.out; have := QSL.out; omega) (HFB.out g h1 h2))
            have HFL4 := hid (show FarM n A4 B4 gl from hf4 gl (by have := hszd.out; have := hgl4.out; omega) (HFL.out gl rfl))
            have HFO4 := hid (show ∀ g, g < w.heap.size → FarM n A B g → FarM n A4 B4 g from fun g h1 h2 => hf4 g (by have := hszd.out; have := hsB10.out; omega) (HFO.out g h1 h2))
            clear om4 ov4 hf4 HVJ OM
            have HVJ := VN; have OM := MN
            clear VN MN
            go_wp2_with fail
            have hS' : (fun W' : World => True) w11 := trivial
            refine hK.out _ _ hS' (fun _ => ?_)
            clear hK K hS
            have hS := hS'
            clear hS'
            (try simp only [Act.put, List.setIfInBounds_toArray, List.set_cons_zero, List.set_cons_succ])
            refine wpAnyH_take (i := 8) (v := ?_) (by simp only [List.getElem?_toArray, List.getElem?_cons_succ, List.getElem?_cons_zero]; rfl) (by kernel_rfl) (by kernel_rfl) (by kernel_rfl) (fun _ _ _ h => h) (Or.inl ⟨by rfl, ?_⟩) hS ?_
            rotate_left
            · intro w' hSw; (try dsimp only at hSw); go_split_ands; go_simp; (try with_reducible rfl)
            (try simp only [Act.put, List.setIfInBounds_toArray, List.set_cons_zero, List.set_cons_succ])
            refine wpAnyH_take (i := 9) (v := ?_) (by simp only [List.getElem?_toArray, List.getElem?_cons_succ, List.getElem?_cons_zero]; rfl) (by kernel_rfl) (by kernel_rfl) (by kernel_rfl) (fun _ _ _ h => h) (Or.inl ⟨by rfl, ?_⟩) hS ?_
            rotate_left
            · intro w' hSw; (try dsimp only at hSw); go_split_ands; go_simp; (try with_reducible rfl)
            (try simp only [Act.put, List.setIfInBounds_toArray, List.set_cons_zero, List.set_cons_succ])
            refine wpAnyH_take (i := 10) (v := ?_) (by simp only [List.getElem?_toArray, List.getElem?_cons_succ, List.getElem?_cons_zero]; rfl) (by kernel_rfl) (by kernel_rfl) (by kernel_rfl) (fun _ _ _ h => h) (Or.inl ⟨by rfl, ?_⟩) hS ?_
            rotate_left
            · intro w' hSw; (try dsimp only at hSw); go_split_ands; go_simp; (try with_reducible rfl)
            (try simp only [Act.put, List.setIfInBounds_toArray, List.set_cons_zero, List.set_cons_succ])
            refine wpAnyH_ready (rs := [11]) (by kernel_rfl) (by simp) ?_
            refine AllReadyH.cons (by simp only [List.getElem?_toArray, List.getElem?_cons_succ, List.getElem?_cons_zero]; rfl) (fun K hK => ?_) ?_
            · skip
              obtain ⟨y00, y01, y02, yf0⟩ := PM.out.cells3
              go_simp
              clear y00 y01 y02 yf0
              refine named_store3 PM.out ?_
              intro Wc11 hbk hgr hsz
              have hsz11 := hid hsz
              replace OM := hid (mem_kept OM.out (HFB4.out _ (by omega) (by omega)) hgr)
              replace HVI := hid (HVI.out.kept PM.out tm1 (by have := hB0.out; omega) hgr)
              replace HVJ := hid (HVJ.out.kept PM.out tm1 (by omega) hgr)
              replace OL := hid (OL.out.keptG hgr (fun v hv e => OL.out.ne_blk PM.out (by decide) v hv (by simpa using e)))
              replace HVS4 := hid (HVS4.out.kept PM.out tm1 (Nat.le_refl _) hgr)
              replace PS := hid (PS.out.grown hgr (by simp <;> omega))
              replace QM := hid (QM.out.grown hgr (by simp <;> omega))
              replace QS := hid (QS.out.grown hgr (by simp <;> omega))
              replace HB := hid (HB.out.grown hgr HB.out.size (fun r e => by cases e; omega))
              replace PM := hid hbk
              clear hbk hgr hsz
              have hS' : (fun W' : World => True) Wc11 := trivial
              refine hK.out _ _ hS' (fun _ => ?_)
              clear hK K hS
              have hS := hS'
              clear hS'
              (try simp only [Act.put, List.setIfInBounds_toArray, List.set_cons_zero, List.set_cons_succ])
              refine wpAnyH_take (i := 12) (v := ?_) (by simp only [List.getElem?_toArray, List.getElem?_cons_succ, List.getElem?_cons_zero]; rfl) (by kernel_rfl) (by kernel_rfl) (by kernel_rfl) (fun _ _ _ h => h) (Or.inl ⟨by rfl, ?_⟩) hS ?_
              rotate_left
              · intro w' hSw; (try dsimp only at hSw); go_split_ands; go_simp; (try with_reducible rfl)
              (try simp only [Act.put, List.setIfInBounds_toArray, List.set_cons_zero, List.set_cons_succ])
              refine wpAnyH_ready (rs := [13]) (by kernel_rfl) (by simp) ?_
              refine AllReadyH.cons (by simp only [List.getElem?_toArray, List.getElem?_cons_succ, List.getElem?_cons_zero]; rfl) (fun K hK => ?_) ?_
              · skip
                obtain ⟨f0, f1, f2, f3, f4, f5, ff⟩ := row6 OL.out hgn HX.out
                go_simp
                clear f0 f1 f2 f3 f4 f5 ff
                refine named_row6 (enc := encW) OL.out gn (s4, V3, vn3, vc3) hgn ?_
                intro Wc13 hbk hgr hsz
                have hszr := hid hsz
                have hcs := (OL.out.blk _ rfl).2.choose_spec
                replace PM := hid (PM.out.grown hgr (fun e => hglw.out.1 (by simpa using e.symm)))
                replace PS := hid (PS.out.grown hgr (fun e => hglw.out.2 (by simpa using e.symm)))
                replace QM := hid (QM.out.grown hgr (fun e => OL.out.ne_blk QM.out (by decide) _ rfl (by simpa using e.symm)))
                replace QS := hid (QS.out.grown hgr (fun e => OL.out.ne_blk QS.out (by decide) _ rfl (by simpa using e.symm)))
                replace OM := hid (mem_kept OM.out HFL4.out hgr)
                replace HVI := hid (HVI.out.kept hcs tq1 (Nat.le_trans hB0.out hgl1) hgr)
                replace HVJ := hid (HVJ.out.kept hcs tq1 hgl1 hgr)
                replace HVS2 := hid ((HVS4.out.kept hcs tq1 hgl1 hgr).set gn (x := (s4, V3, vn3, vc3)) ⟨in_vrow HVJ.out, hvn3⟩)
                replace HB := hid (HB.out.grown hgr HB.out.size (fun r e => by cases e; exact hgl1))
                replace OL := hid hbk
                clear hbk hgr hsz hcs
                have hS' : (fun W' : World => True) Wc13 := trivial
                refine hK.out _ _ hS' (fun _ => ?_)
                clear hK K hS
                have hS := hS'
                clear hS'
                (try simp only [Act.put, List.setIfInBounds_toArray, List.set_cons_zero, List.set_cons_succ])
                refine wpAnyH_done (by kernel_rfl) ?_ _
                refine NoPanic.normal ?_
                clear hS
                go_wp2_with fail
                go_roundw
                case rel => exact ⟨j + 1, by omega, by go_num, ⟨A4, c4, B4, d4, m4, V2, vn2, vc2, r2, _, PM.out, OM.out, PS.out, HVI.out, OL.out, HVS2.out, by rw [HTS.out]; unfold sqstep; dsimp only; rw [if_neg (by decide), ← HGI.out, if_pos (by omega), Int.toNat_natCast, HSX.out, ← HR4.out, setmap], HFB4.out, fun g e => by cases e; exact HFL4.out, HFO4.out⟩, QM.out, QS.out, HB.out⟩
                case measure => simp [intOf]; omega
              exact AllReadyH.nil
            exact AllReadyH.nil
          exact AllReadyH.nil
        exact AllReadyH.nil
      exact AllReadyH.nil
    obtain ⟨y00, y01, y02, yf0⟩ := PM.out.cells3
    obtain ⟨y10, y11, y12, y13, y14, y15, y16, yf1⟩ := PS.out.cells7
    go_wp2_with fail
    clear y00 y01 y02 yf0 y10 y11 y12 y13 y14 y15 y16 yf1
    obtain ⟨⟨m5, r5⟩, hr5⟩ : ∃ x, x = sreadF m2 r2 := ⟨_, rfl⟩
    have HR5 := hid hr5
    clear hr5
    have QSL := hid (show w.heap.size + 4 ≤ W10.heap.size by have := QS.out.lt; omega)
    have HGL := hid (show ∀ g, L5 = some ⟨g, 0, none⟩ → g < W10.heap.size from fun g e => by obtain ⟨_, cs, hbb⟩ := OL.out.blk _ e; exact hbb.lt)
    refine (rsread_in A2 n c2 B2 d2 m2.2.2 m2.1 m2.2.1 r2 V2 vn2 vc2 0 B0 _ OM.out HVI.out (Nat.zero_le _) HAL.out.2.1).mono ?_
    rw [← HR5.out]
    rintro e W11 ⟨A5, c5, B5, d5, V5, vn5, vc5, rfl, om5, ov5, hb, hf5⟩
    dsimp only at om5 ov5
    have HFB5 := hid (show ∀ g, w.heap.size ≤ g → g < w.heap.size + 4 → FarM n A5 B5 g from fun g h1 h2 => hf5 g (by have := QSL.out; omega) (HFB.out g h1 h2))
    have HFL5 := hid (show ∀ g, L5 = some ⟨g, 0, none⟩ → FarM n A5 B5 g from fun g e => hf5 g (HGL.out g e) (HFL.out g e))
    have HFO5 := hid (show ∀ g, g < w.heap.size → FarM n A B g → FarM n A5 B5 g from fun g h1 h2 => hf5 g (by have := HB.out.size; omega) (HFO.out g h1 h2))
    have HVS5 := hid (HVS2.out.step HB.out.size hb)
    have MN := hid om5; have VN := hid ov5
    clear om5 ov5 hf5 HVS2 OM HVI HFB HFL HFO
    replace PM := hid (PM.out.step hb); replace PS := hid (PS.out.step hb); replace OL := hid (OL.out.step hb); replace QM := hid (QM.out.step hb); replace QS := hid (QS.out.step hb); replace HB := hid (below_then HB.out hb)
    clear hb
    have OM := MN; have HVI := VN; have HVS2 := HVS5; have HFB := HFB5; have HFL := HFL5; have HFO := HFO5
    clear MN VN HVS5 HFB5 HFL5 HFO5
    have hgr : W11.grownBy (((W11.setCell ⟨w.heap.size, 0, none⟩ (.slice A5 n c5)).setCell ⟨w.heap.size, 1, none⟩ (.slice B5 n d5)).setCell ⟨w.heap.size, 2, none⟩ (.bool m5.2.2)) (some (w.heap.size)) := (grown_set (grown_set (grown_set (World.grownBy.refl W11 (some (w.heap.size))) 0 (.slice A5 n c5)) 1 (.slice B5 n d5)) 2 (.bool m5.2.2))
    have PX := PM; have hpx : Hid (Blk (((W11.setCell ⟨w.heap.size, 0, none⟩ (.slice A5 n c5)).setCell ⟨w.heap.size, 1, none⟩ (.slice B5 n d5)).setCell ⟨w.heap.size, 2, none⟩ (.bool m5.2.2)) (w.heap.size) 44 #[.slice A5 n c5, .slice B5 n d5, .bool m5.2.2]) := hid (((PM.out.setCell 0 (.slice A5 n c5)).setCell 1 (.slice B5 n d5)).setCell 2 (.bool m5.2.2))
    obtain ⟨y00, y01, y02, yf0⟩ := PX.out.cells3
    replace PS := hid (PS.out.grown hgr (by simp <;> omega))
    replace QM := hid (QM.out.grown hgr (by simp <;> omega))
    replace QS := hid (QS.out.grown hgr (by simp <;> omega))
    replace OM := hid (mem_kept OM.out (HFB.out _ (by omega) (by omega)) hgr)
    replace HVI := hid (HVI.out.kept PX.out tm1 (by have := hB0.out; omega) hgr)
    replace OL := hid (OL.out.keptG hgr (fun v hv e => OL.out.ne_blk PX.out (by decide) v hv (by simpa using e)))
    replace HVS2 := hid (HVS2.out.kept PX.out tm1 (by omega) hgr)
    replace HB := hid (HB.out.grown hgr HB.out.size (fun r e => by cases e; omega))
    replace PM := hpx
    clear hgr hpx
    obtain ⟨z0, z1, z2, z3, z4, z5, z6, zf⟩ := PS.out.cells7
    go_wp2_with fail
    clear y00 y01 y02 yf0 z0 z1 z2 z3 z4 z5 z6 zf PX
    generalize (((W11.setCell ⟨w.heap.size, 0, none⟩ (.slice A5 n c5)).setCell ⟨w.heap.size, 1, none⟩ (.slice B5 n d5)).setCell ⟨w.heap.size, 2, none⟩ (.bool m5.2.2)) = Wp at *
    have PX := PS
    have hbk0 : Blk (Wp.setCell ⟨w.heap.size + 1, 0, none⟩ (.int .i64 r5.a)) (w.heap.size + 1) 29 #[.int .i64 r5.a, .int .i64 r2.f, .int .i64 r2.m, .int .i64 r2.ph, .int .u64 r2.bg, .slice V2 vn2 vc2, .int .i64 r2.tr] := PS.out.setCell 0 (.int .i64 r5.a)
    have hbk1 : Blk ((Wp.setCell ⟨w.heap.size + 1, 0, none⟩ (.int .i64 r5.a)).setCell ⟨w.heap.size + 1, 1, none⟩ (.int .i64 r5.f)) (w.heap.size + 1) 29 #[.int .i64 r5.a, .int .i64 r5.f, .int .i64 r2.m, .int .i64 r2.ph, .int .u64 r2.bg, .slice V2 vn2 vc2, .int .i64 r2.tr] := hbk0.setCell 1 (.int .i64 r5.f)
    have hbk2 : Blk (((Wp.setCell ⟨w.heap.size + 1, 0, none⟩ (.int .i64 r5.a)).setCell ⟨w.heap.size + 1, 1, none⟩ (.int .i64 r5.f)).setCell ⟨w.heap.size + 1, 2, none⟩ (.int .i64 r5.m)) (w.heap.size + 1) 29 #[.int .i64 r5.a, .int .i64 r5.f, .int .i64 r5.m, .int .i64 r2.ph, .int .u64 r2.bg, .slice V2 vn2 vc2, .int .i64 r2.tr] := hbk1.setCell 2 (.int .i64 r5.m)
    have hbk3 : Blk ((((Wp.setCell ⟨w.heap.size + 1, 0, none⟩ (.int .i64 r5.a)).setCell ⟨w.heap.size + 1, 1, none⟩ (.int .i64 r5.f)).setCell ⟨w.heap.size + 1, 2, none⟩ (.int .i64 r5.m)).setCell ⟨w.heap.size + 1, 3, none⟩ (.int .i64 r5.ph)) (w.heap.size + 1) 29 #[.int .i64 r5.a, .int .i64 r5.f, .int .i64 r5.m, .int .i64 r5.ph, .int .u64 r2.bg, .slice V2 vn2 vc2, .int .i64 r2.tr] := hbk2.setCell 3 (.int .i64 r5.ph)
    have hbk4 : Blk (((((Wp.setCell ⟨w.heap.size + 1, 0, none⟩ (.int .i64 r5.a)).setCell ⟨w.heap.size + 1, 1, none⟩ (.int .i64 r5.f)).setCell ⟨w.heap.size + 1, 2, none⟩ (.int .i64 r5.m)).setCell ⟨w.heap.size + 1, 3, none⟩ (.int .i64 r5.ph)).setCell ⟨w.heap.size + 1, 4, none⟩ (.int .u64 r5.bg)) (w.heap.size + 1) 29 #[.int .i64 r5.a, .int .i64 r5.f, .int .i64 r5.m, .int .i64 r5.ph, .int .u64 r5.bg, .slice V2 vn2 vc2, .int .i64 r2.tr] := hbk3.setCell 4 (.int .u64 r5.bg)
    have hbk5 : Blk ((((((Wp.setCell ⟨w.heap.size + 1, 0, none⟩ (.int .i64 r5.a)).setCell ⟨w.heap.size + 1, 1, none⟩ (.int .i64 r5.f)).setCell ⟨w.heap.size + 1, 2, none⟩ (.int .i64 r5.m)).setCell ⟨w.heap.size + 1, 3, none⟩ (.int .i64 r5.ph)).setCell ⟨w.heap.size + 1, 4, none⟩ (.int .u64 r5.bg)).setCell ⟨w.heap.size + 1, 5, none⟩ (.slice V5 vn5 vc5)) (w.heap.size + 1) 29 #[.int .i64 r5.a, .int .i64 r5.f, .int .i64 r5.m, .int .i64 r5.ph, .int .u64 r5.bg, .slice V5 vn5 vc5, .int .i64 r2.tr] := hbk4.setCell 5 (.slice V5 vn5 vc5)
    have hbk6 : Blk (((((((Wp.setCell ⟨w.heap.size + 1, 0, none⟩ (.int .i64 r5.a)).setCell ⟨w.heap.size + 1, 1, none⟩ (.int .i64 r5.f)).setCell ⟨w.heap.size + 1, 2, none⟩ (.int .i64 r5.m)).setCell ⟨w.heap.size + 1, 3, none⟩ (.int .i64 r5.ph)).setCell ⟨w.heap.size + 1, 4, none⟩ (.int .u64 r5.bg)).setCell ⟨w.heap.size + 1, 5, none⟩ (.slice V5 vn5 vc5)).setCell ⟨w.heap.size + 1, 6, none⟩ (.int .i64 r5.tr)) (w.heap.size + 1) 29 #[.int .i64 r5.a, .int .i64 r5.f, .int .i64 r5.m, .int .i64 r5.ph, .int .u64 r5.bg, .slice V5 vn5 vc5, .int .i64 r5.tr] := hbk5.setCell 6 (.int .i64 r5.tr)
    have hgr : Wp.grownBy (((((((Wp.setCell ⟨w.heap.size + 1, 0, none⟩ (.int .i64 r5.a)).setCell ⟨w.heap.size + 1, 1, none⟩ (.int .i64 r5.f)).setCell ⟨w.heap.size + 1, 2, none⟩ (.int .i64 r5.m)).setCell ⟨w.heap.size + 1, 3, none⟩ (.int .i64 r5.ph)).setCell ⟨w.heap.size + 1, 4, none⟩ (.int .u64 r5.bg)).setCell ⟨w.heap.size + 1, 5, none⟩ (.slice V5 vn5 vc5)).setCell ⟨w.heap.size + 1, 6, none⟩ (.int .i64 r5.tr)) (some (w.heap.size + 1)) := (grown_set (grown_set (grown_set (grown_set (grown_set (grown_set (grown_set (World.grownBy.refl Wp (some (w.heap.size + 1))) 0 (.int .i64 r5.a)) 1 (.int .i64 r5.f)) 2 (.int .i64 r5.m)) 3 (.int .i64 r5.ph)) 4 (.int .u64 r5.bg)) 5 (.slice V5 vn5 vc5)) 6 (.int .i64 r5.tr))
    replace PS := hid hbk6
    clear hbk0 hbk1 hbk2 hbk3 hbk4 hbk5 hbk6
    generalize ((((((Wp.setCell ⟨w.heap.size + 1, 0, none⟩ (.int .i64 r5.a)).setCell ⟨w.heap.size + 1, 1, none⟩ (.int .i64 r5.f)).setCell ⟨w.heap.size + 1, 2, none⟩ (.int .i64 r5.m)).setCell ⟨w.heap.size + 1, 3, none⟩ (.int .i64 r5.ph)).setCell ⟨w.heap.size + 1, 4, none⟩ (.int .u64 r5.bg)).setCell ⟨w.heap.size + 1, 5, none⟩ (.slice V5 vn5 vc5)).setCell ⟨w.heap.size + 1, 6, none⟩ (.int .i64 r5.tr) = Wf at *
    replace PM := hid (PM.out.grown hgr (by simp <;> omega))
    replace QM := hid (QM.out.grown hgr (by simp <;> omega))
    replace QS := hid (QS.out.grown hgr (by simp <;> omega))
    replace OM := hid (mem_kept OM.out (HFB.out _ (by omega) (by omega)) hgr)
    replace HVI := hid (HVI.out.kept PX.out ts1 (by have := hB0.out; omega) hgr)
    replace OL := hid (OL.out.keptG hgr (fun v hv e => OL.out.ne_blk PX.out (by decide) v hv (by simpa using e)))
    replace HVS2 := hid (HVS2.out.kept PX.out ts1 (by omega) hgr)
    replace HB := hid (HB.out.grown hgr HB.out.size (fun r e => by cases e; omega))
    clear hgr PX
    go_roundw
    case rel => exact ⟨j + 1, by omega, by go_num, ⟨A5, c5, B5, d5, m5, V5, vn5, vc5, r5, es2, PM.out, OM.out, PS.out, HVI.out, OL.out, HVS2.out, by rw [HTS.out]; unfold sqstep; dsimp only; rw [if_pos rfl, ← HR5.out], HFB.out, HFL.out, HFO.out⟩, QM.out, QS.out, HB.out⟩
    case measure => simp [intOf]; omega
end Go.Proofs.Ytnkaajkdjbdpaaa
