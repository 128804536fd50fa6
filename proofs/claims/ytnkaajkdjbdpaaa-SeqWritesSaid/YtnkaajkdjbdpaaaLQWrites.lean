/- afterglowlaw06.SeqWrites returns true at every memory, and write, and turns nothing old. No condition but the sizes of memory, and that numbers without a sign are not below 0. -/
import Derived.Test.YtnkaajkdjbdpaaaSqR3
namespace Go.Proofs.Ytnkaajkdjbdpaaa
open Go.RowKit
theorem sl_kept {α : Type} {enc : α → Value} {d : α} {W W' : World} {lo g n : Nat} {A : Option Addr} {xs : List α} (h : Sl enc d W lo W.heap.size A n xs) (hg : W.grownBy W' (some g)) (hl : g < lo) : Sl enc d W' lo W'.heap.size A n xs := by
  refine (h.keep fun b o hb hb2 => World.cell?_of_block (a := ⟨b, o, none⟩) (hg.block b hb2 (fun e => ?_))).mono (Nat.le_refl _) hg.size
  have : b = g := by simpa using e
  omega
theorem swriteC_len (m : MSt) (s : Swr) : (swriteC m s).2.2.vs.length ≤ 16 := by
  unfold swriteC
  split
  · exact Nat.zero_le _
  · split
    · exact Nat.zero_le _
    · rename_i h
      have h2 := swriteF_ok (m := m) (Decidable.of_not_not h)
      show (swriteF m s).2.vs.length ≤ 16
      first | exact h2.len | (unfold WrOkS WrOk SqG at h2; omega)
theorem swriteC_in {m m2 : MSt} {s s2 : Swr} (h : (0, m2, s2) = swriteC m s) (hin : MIn m ∧ 0 ≤ s.bg ∧ ∀ v ∈ s.vs, 0 ≤ v) : MIn m2 ∧ 0 ≤ s2.bg ∧ ∀ v ∈ s2.vs, 0 ≤ v := by
  unfold swriteC at h
  split at h
  · simp at h
  · split at h
    · simp at h
    · rename_i hok
      have h2 := congrArg Prod.snd h
      dsimp only at h2
      have h3 := swriteF_in hin.1 hin.2
      rw [← h2] at h3
      exact h3
/-- behind the cutting out: a memory and a write, boxed -/
structure QMw (w0 W : World) (g7 g8 : Nat) (m : MSt) (s : Swr) : Prop where
  out : ∃ A n c B k d V vn vc, Blk W g7 44 (mcs A n c B k d m.2.2) ∧ Mown W w0.heap.size A n c B k d m.1 m.2.1 ∧ Blk W g8 34 (wrc s.a s.f V vn vc s.ph s.bg s.wr) ∧ Ow u64v W w0.heap.size 27 V vn vc s.vs ∧ vn ≤ 18 ∧ n ≤ 48 ∧ k ≤ 48
  be : Below w0.heap.size w0 W
  l7 : w0.heap.size ≤ g7
  l8 : w0.heap.size ≤ g8
  inn : MIn m ∧ 0 ≤ s.bg ∧ ∀ v ∈ s.vs, 0 ≤ v
theorem QMw.step {w0 W W' : World} {g7 g8 : Nat} {m : MSt} {s : Swr} (h : QMw w0 W g7 g8 m s) (hb : Below W.heap.size W W') : QMw w0 W' g7 g8 m s := by
  obtain ⟨⟨A, n, c, B, k, d, V, vn, vc, h1, h2, h3, h4, h5⟩, h6, h7, h8, h9⟩ := h
  exact ⟨⟨A, n, c, B, k, d, V, vn, vc, h1.step hb, h2.step hb, h3.step hb, h4.step hb, h5⟩, below_then h6 hb, h7, h8, h9⟩
/-- what is wanted, boxed; from B on -/
structure QRw (w4 W : World) (m : MSt) (s : Swr) : Prop where
  out : ∃ A n c B k d V vn vc, Blk W w4.heap.size 44 (mcs A n c B k d m.2.2) ∧ Mem W A n c B k d m.1 m.2.1 ∧ Blk W (w4.heap.size + 1) 34 (wrc s.a s.f V vn vc s.ph s.bg s.wr) ∧ Sl u64v 0 W (w4.heap.size + 2) W.heap.size V vn s.vs ∧ vn ≤ vc ∧ FarM n A B w4.heap.size
  be : Below w4.heap.size w4 W
set_option maxRecDepth 100000 in
set_option maxHeartbeats 8000000 in
theorem sqwrites_any (A : Option Addr) (n c : Nat) (B : Option Addr) (k d : Nat) (f : Bool) (xs : List Int) (ys : List Bool) (s0 : Swr) (V : Option Addr) (vn vc : Nat) (w : World) (hx : Sl u64v 0 w 0 w.heap.size A n xs) (hy : Sl blv false w 0 w.heap.size B k ys) (hnc : n ≤ c) (hkd : k ≤ d) (hv : Sl u64v 0 w 0 w.heap.size V vn s0.vs) (hvc : vn ≤ vc) (hin : MIn ((xs, ys, f) : MSt) ∧ 0 ≤ s0.bg ∧ ∀ v ∈ s0.vs, 0 ≤ v) :
    Calls Try.prog 7 #[mv A n c B k d f, wrV s0 V vn vc] w fun e w' => e = .returned (.bool true) ∧ Below w.heap.size w w' := by
  have HX := hid hx; have HY := hid hy; have HV := hid hv; have HB := hid (Below.refl w.heap.size w); have HIN := hid hin
  clear hx hy hv hin
  have bx := below_box w (.cells (mcs A n c B k d f) 44)
  replace HX := hid (HX.out.step bx); replace HY := hid (HY.out.step bx); replace HV := hid (HV.out.step bx); replace HB := hid (below_then HB.out bx)
  clear bx
  have PX := hid (Blk.new w 44 (mcs A n c B k d f))
  have bx := below_box (w.alloc (.cells (mcs A n c B k d f) 44)) (.cells (wrc s0.a s0.f V vn vc s0.ph s0.bg s0.wr) 34)
  replace HX := hid (HX.out.step bx); replace HY := hid (HY.out.step bx); replace HV := hid (HV.out.step bx); replace PX := hid (PX.out.step bx); replace HB := hid (below_then HB.out bx)
  clear bx
  have PY := hid (Blk.new2 w 34 (wrc s0.a s0.f V vn vc s0.ph s0.bg s0.wr) (.cells (mcs A n c B k d f) 44))
  go_enter Try.func7, Try.ntmps7
  go_wp2_with fail
  generalize (w.alloc (.cells (mcs A n c B k d f) 44)).alloc (.cells (wrc s0.a s0.f V vn vc s0.ph s0.bg s0.wr) 34) = W0 at *
  refine (sqwakes_any W0).mono ?_
  rintro e w1 ⟨rfl, hb⟩
  replace HX := hid (HX.out.step hb); replace HY := hid (HY.out.step hb); replace HV := hid (HV.out.step hb); replace PX := hid (PX.out.step hb); replace PY := hid (PY.out.step hb); replace HB := hid (below_then HB.out hb)
  clear hb
  go_upto_region 3 with fail
  have XX := HX; have XY := HY; have XV := HV; have XPX := PX; have XPY := PY; have HQ := hid (Below.refl w1.heap.size w1)
  go_cut [5, 6] (fun s7 s8 wx => ∃ g7 g8, s7 = .pointer (some ⟨g7, 0, none⟩) ∧ s8 = .pointer (some ⟨g8, 0, none⟩) ∧ QMw w1 wx g7 g8 (xs.take 48, ys.take 48, f) (cutW s0))
  case first =>
    have bx := (Below.refl w1.heap.size w1).drew
    replace HQ := hid (below_then HQ.out bx)
    clear bx
    have hszd := hid (show w1.drew.heap.size = w1.heap.size from rfl)
    refine wp_region_noPanic ?_
    refine wp_region_held_drew (S := (fun W' : World => W'.cell? ⟨w.heap.size, 0, none⟩ = some (.slice A n c) ∧ W'.cell? ⟨w.heap.size, 1, none⟩ = some (.slice B k d) ∧ W'.cell? ⟨w.heap.size, 2, none⟩ = some (.bool f) ∧ W'.cell? ⟨w.heap.size + 1, 0, none⟩ = some (.int .i64 s0.a) ∧ W'.cell? ⟨w.heap.size + 1, 1, none⟩ = some (.int .i64 s0.f) ∧ W'.cell? ⟨w.heap.size + 1, 2, none⟩ = some (.slice V vn vc) ∧ W'.cell? ⟨w.heap.size + 1, 3, none⟩ = some (.int .i64 s0.ph) ∧ W'.cell? ⟨w.heap.size + 1, 4, none⟩ = some (.int .u64 s0.bg) ∧ W'.cell? ⟨w.heap.size + 1, 5, none⟩ = some (.int .i64 s0.wr))) (by kernel_rfl) ⟨(XPX.out.step HQ.out).cells3.1, (XPX.out.step HQ.out).cells3.2.1, (XPX.out.step HQ.out).cells3.2.2.1, (XPY.out.step HQ.out).cells6.1, (XPY.out.step HQ.out).cells6.2.1, (XPY.out.step HQ.out).cells6.2.2.1, (XPY.out.step HQ.out).cells6.2.2.2.1, (XPY.out.step HQ.out).cells6.2.2.2.2.1, (XPY.out.step HQ.out).cells6.2.2.2.2.2.1⟩ (fun hS => ?_)
    generalize w1.drew = Wd at *
    refine wpAnyH_take (i := 0) (v := ?_) (by simp only [List.getElem?_toArray, List.getElem?_cons_succ, List.getElem?_cons_zero]; rfl) (by kernel_rfl) (by kernel_rfl) (by kernel_rfl) (fun _ _ _ h => h) (Or.inl ⟨by rfl, ?_⟩) hS ?_
    rotate_left
    · intro w' hSw; (try dsimp only at hSw); go_split_ands; go_simp; (try with_reducible rfl)
    (try simp only [Act.put, List.setIfInBounds_toArray, List.set_cons_zero, List.set_cons_succ])
    refine wpAnyH_take (i := 2) (v := ?_) (by simp only [List.getElem?_toArray, List.getElem?_cons_succ, List.getElem?_cons_zero]; rfl) (by kernel_rfl) (by kernel_rfl) (by kernel_rfl) (fun _ _ _ h => h) (Or.inl ⟨by rfl, ?_⟩) hS ?_
    rotate_left
    · intro w' hSw; (try dsimp only at hSw); go_split_ands; go_simp; (try with_reducible rfl)
    (try simp only [Act.put, List.setIfInBounds_toArray, List.set_cons_zero, List.set_cons_succ])
    refine wpAnyH_ready (rs := [1, 4, 5]) (by kernel_rfl) (by simp) ?_
    refine AllReadyH.cons (by simp only [List.getElem?_toArray, List.getElem?_cons_succ, List.getElem?_cons_zero]; rfl) (fun K hK => ?_) ?_
    · skip
      go_simp
      refine (lawown_any A n c B k d f xs ys _ (XX.out.step HQ.out) (XY.out.step HQ.out) hnc hkd).mono ?_
      rintro e ws1 ⟨A2, n2, c2, B2, k2, d2, rfl, om, hb⟩
      have hsz0 := hid (show Wd.heap.size ≤ ws1.heap.size from hb.size)
      replace HQ := hid (below_then HQ.out hb)
      clear hb
      have OM := hid (om.mono (show w1.heap.size ≤ _ by have := hszd.out; omega))
      clear om
      go_wp2_with fail
      refine hK.out _ _ ⟨(XPX.out.step HQ.out).cells3.1, (XPX.out.step HQ.out).cells3.2.1, (XPX.out.step HQ.out).cells3.2.2.1, (XPY.out.step HQ.out).cells6.1, (XPY.out.step HQ.out).cells6.2.1, (XPY.out.step HQ.out).cells6.2.2.1, (XPY.out.step HQ.out).cells6.2.2.2.1, (XPY.out.step HQ.out).cells6.2.2.2.2.1, (XPY.out.step HQ.out).cells6.2.2.2.2.2.1⟩ (fun hS' => ?_)
      clear hK K hS
      have hS := hS'
      clear hS'
      (try simp only [Act.put, List.setIfInBounds_toArray, List.set_cons_zero, List.set_cons_succ])
      refine wpAnyH_ready (rs := [3, 4, 5]) (by kernel_rfl) (by simp) ?_
      refine AllReadyH.cons (by simp only [List.getElem?_toArray, List.getElem?_cons_succ, List.getElem?_cons_zero]; rfl) (fun K hK => ?_) ?_
      · skip
        go_simp
        refine (ownwrite_any s0 V vn vc _ (XV.out.step HQ.out) hvc).mono ?_
        rintro e ws3 ⟨V2, vn2, vc2, rfl, ov, hb⟩
        have hsz1 := hid (show ws1.heap.size ≤ ws3.heap.size from hb.size)
        replace OM := hid (OM.out.step hb); replace HQ := hid (below_then HQ.out hb)
        clear hb
        have OV := hid (ov.mono (show w1.heap.size ≤ _ by have := hszd.out; have := hsz0.out; omega))
        clear ov
        go_wp2_with fail
        refine hK.out _ _ ⟨(XPX.out.step HQ.out).cells3.1, (XPX.out.step HQ.out).cells3.2.1, (XPX.out.step HQ.out).cells3.2.2.1, (XPY.out.step HQ.out).cells6.1, (XPY.out.step HQ.out).cells6.2.1, (XPY.out.step HQ.out).cells6.2.2.1, (XPY.out.step HQ.out).cells6.2.2.2.1, (XPY.out.step HQ.out).cells6.2.2.2.2.1, (XPY.out.step HQ.out).cells6.2.2.2.2.2.1⟩ (fun hS' => ?_)
        clear hK K hS
        have hS := hS'
        clear hS'
        (try simp only [Act.put, List.setIfInBounds_toArray, List.set_cons_zero, List.set_cons_succ])
        refine wpAnyH_ready (rs := [4, 5]) (by kernel_rfl) (by simp) ?_
        refine AllReadyH.cons (by simp only [List.getElem?_toArray, List.getElem?_cons_succ, List.getElem?_cons_zero]; rfl) (fun K hK => ?_) ?_
        · skip
          go_simp
          refine named_alloc ?_
          intro Wa4 hbk hb hsz
          have hsz2 := hid hsz
          replace OM := hid (OM.out.step hb); replace OV := hid (OV.out.step hb); replace HQ := hid (below_then HQ.out hb)
          have P7 := hid hbk
          clear hb hbk hsz
          refine hK.out _ _ ⟨(XPX.out.step HQ.out).cells3.1, (XPX.out.step HQ.out).cells3.2.1, (XPX.out.step HQ.out).cells3.2.2.1, (XPY.out.step HQ.out).cells6.1, (XPY.out.step HQ.out).cells6.2.1, (XPY.out.step HQ.out).cells6.2.2.1, (XPY.out.step HQ.out).cells6.2.2.2.1, (XPY.out.step HQ.out).cells6.2.2.2.2.1, (XPY.out.step HQ.out).cells6.2.2.2.2.2.1⟩ (fun hS' => ?_)
          clear hK K hS
          have hS := hS'
          clear hS'
          (try simp only [Act.put, List.setIfInBounds_toArray, List.set_cons_zero, List.set_cons_succ])
          refine wpAnyH_ready (rs := [5]) (by kernel_rfl) (by simp) ?_
          refine AllReadyH.cons (by simp only [List.getElem?_toArray, List.getElem?_cons_succ, List.getElem?_cons_zero]; rfl) (fun K hK => ?_) ?_
          · skip
            go_simp
            refine named_alloc ?_
            intro Wa5 hbk hb hsz
            have hsz3 := hid hsz
            replace OM := hid (OM.out.step hb); replace OV := hid (OV.out.step hb); replace P7 := hid (P7.out.step hb); replace HQ := hid (below_then HQ.out hb)
            have P8 := hid hbk
            clear hb hbk hsz
            refine hK.out _ _ ⟨(XPX.out.step HQ.out).cells3.1, (XPX.out.step HQ.out).cells3.2.1, (XPX.out.step HQ.out).cells3.2.2.1, (XPY.out.step HQ.out).cells6.1, (XPY.out.step HQ.out).cells6.2.1, (XPY.out.step HQ.out).cells6.2.2.1, (XPY.out.step HQ.out).cells6.2.2.2.1, (XPY.out.step HQ.out).cells6.2.2.2.2.1, (XPY.out.step HQ.out).cells6.2.2.2.2.2.1⟩ (fun hS' => ?_)
            clear hK K hS
            have hS := hS'
            clear hS'
            (try simp only [Act.put, List.setIfInBounds_toArray, List.set_cons_zero, List.set_cons_succ])
            refine wpAnyH_ready (rs := [6]) (by kernel_rfl) (by simp) ?_
            refine AllReadyH.cons (by simp only [List.getElem?_toArray, List.getElem?_cons_succ, List.getElem?_cons_zero]; rfl) (fun K hK => ?_) ?_
            · skip
              obtain ⟨y00, y01, y02, yf0⟩ := P7.out.cells3
              go_simp
              clear y00 y01 y02 yf0
              refine named_store3 P7.out ?_
              intro Ws6 hbk hgr hsz
              have hsz4 := hid hsz
              clear hsz
              replace P8 := hid (P8.out.grown hgr (fun e => P7.out.ne P8.out (by decide) (by simpa using e.symm)))
              replace OM := hid (mown_kept OM.out P7.out tm1 tm2 hgr)
              replace OV := hid (OV.out.keptG hgr (fun v hv e => OV.out.ne_blk P7.out tm1 v hv (by simpa using e)))
              replace HQ := hid (HQ.out.grown hgr HQ.out.size (fun r e => by cases e; have := hszd.out; have := hsz0.out; have := hsz1.out; have := hsz2.out; have := hsz3.out; have := hsz4.out; omega))
              replace P7 := hid hbk
              clear hbk hgr
              refine hK.out _ _ ⟨(XPX.out.step HQ.out).cells3.1, (XPX.out.step HQ.out).cells3.2.1, (XPX.out.step HQ.out).cells3.2.2.1, (XPY.out.step HQ.out).cells6.1, (XPY.out.step HQ.out).cells6.2.1, (XPY.out.step HQ.out).cells6.2.2.1, (XPY.out.step HQ.out).cells6.2.2.2.1, (XPY.out.step HQ.out).cells6.2.2.2.2.1, (XPY.out.step HQ.out).cells6.2.2.2.2.2.1⟩ (fun hS' => ?_)
              clear hK K hS
              have hS := hS'
              clear hS'
              (try simp only [Act.put, List.setIfInBounds_toArray, List.set_cons_zero, List.set_cons_succ])
              refine wpAnyH_ready (rs := [7]) (by kernel_rfl) (by simp) ?_
              refine AllReadyH.cons (by simp only [List.getElem?_toArray, List.getElem?_cons_succ, List.getElem?_cons_zero]; rfl) (fun K hK => ?_) ?_
              · skip
                obtain ⟨y00, y01, y02, y03, y04, y05, yf0⟩ := P8.out.cells6
                go_simp
                clear y00 y01 y02 y03 y04 y05 yf0
                refine named_store_6_6_0 P8.out ?_
                intro Ws7 hbk hgr hsz
                have hsz5 := hid hsz
                clear hsz
                replace P7 := hid (P7.out.grown hgr (fun e => P7.out.ne P8.out (by decide) (by simpa using e)))
                replace OM := hid (mown_kept OM.out P8.out tq1 tq2 hgr)
                replace OV := hid (OV.out.keptG hgr (fun v hv e => OV.out.ne_blk P8.out tq1 v hv (by simpa using e)))
                replace HQ := hid (HQ.out.grown hgr HQ.out.size (fun r e => by cases e; have := hszd.out; have := hsz0.out; have := hsz1.out; have := hsz2.out; have := hsz3.out; have := hsz4.out; have := hsz5.out; omega))
                replace P8 := hid hbk
                clear hbk hgr
                refine hK.out _ _ ⟨(XPX.out.step HQ.out).cells3.1, (XPX.out.step HQ.out).cells3.2.1, (XPX.out.step HQ.out).cells3.2.2.1, (XPY.out.step HQ.out).cells6.1, (XPY.out.step HQ.out).cells6.2.1, (XPY.out.step HQ.out).cells6.2.2.1, (XPY.out.step HQ.out).cells6.2.2.2.1, (XPY.out.step HQ.out).cells6.2.2.2.2.1, (XPY.out.step HQ.out).cells6.2.2.2.2.2.1⟩ (fun hS' => ?_)
                clear hK K hS
                have hS := hS'
                clear hS'
                (try simp only [Act.put, List.setIfInBounds_toArray, List.set_cons_zero, List.set_cons_succ])
                refine wpAnyH_done (by kernel_rfl) ?_ _
                refine NoPanic.normal ?_
                clear hS
                go_wp2_with fail
                go_meet
                exact ⟨_, _, rfl, rfl, ⟨⟨_, _, _, _, _, _, _, _, _, P7.out, OM.out, P8.out, OV.out, by rw [← OV.out.len]; exact List.length_take_le _ _, by rw [← OM.out.oa.len]; exact List.length_take_le _ _, by rw [← OM.out.ob.len]; exact List.length_take_le _ _⟩, HQ.out, by have := hszd.out; have := hsz0.out; have := hsz1.out; have := hsz2.out; have := hsz3.out; have := hsz4.out; have := hsz5.out; omega, by have := hszd.out; have := hsz0.out; have := hsz1.out; have := hsz2.out; have := hsz3.out; have := hsz4.out; have := hsz5.out; omega, ⟨fun y hy => HIN.out.1 y (List.mem_of_mem_take hy), HIN.out.2.1, fun v hv => HIN.out.2.2 v (List.mem_of_mem_take hv)⟩⟩⟩
              exact AllReadyH.nil
            exact AllReadyH.nil
          exact AllReadyH.nil
        refine AllReadyH.cons (by simp only [List.getElem?_toArray, List.getElem?_cons_succ, List.getElem?_cons_zero]; rfl) (fun K hK => ?_) ?_
        · skip
          go_simp
          refine named_alloc ?_
          intro Wa5 hbk hb hsz
          have hsz2 := hid hsz
          replace OM := hid (OM.out.step hb); replace OV := hid (OV.out.step hb); replace HQ := hid (below_then HQ.out hb)
          have P8 := hid hbk
          clear hb hbk hsz
          refine hK.out _ _ ⟨(XPX.out.step HQ.out).cells3.1, (XPX.out.step HQ.out).cells3.2.1, (XPX.out.step HQ.out).cells3.2.2.1, (XPY.out.step HQ.out).cells6.1, (XPY.out.step HQ.out).cells6.2.1, (XPY.out.step HQ.out).cells6.2.2.1, (XPY.out.step HQ.out).cells6.2.2.2.1, (XPY.out.step HQ.out).cells6.2.2.2.2.1, (XPY.out.step HQ.out).cells6.2.2.2.2.2.1⟩ (fun hS' => ?_)
          clear hK K hS
          have hS := hS'
          clear hS'
          (try simp only [Act.put, List.setIfInBounds_toArray, List.set_cons_zero, List.set_cons_succ])
          refine wpAnyH_ready (rs := [4]) (by kernel_rfl) (by simp) ?_
          refine AllReadyH.cons (by simp only [List.getElem?_toArray, List.getElem?_cons_succ, List.getElem?_cons_zero]; rfl) (fun K hK => ?_) ?_
          · skip
            go_simp
            refine named_alloc ?_
            intro Wa4 hbk hb hsz
            have hsz3 := hid hsz
            replace OM := hid (OM.out.step hb); replace OV := hid (OV.out.step hb); replace P8 := hid (P8.out.step hb); replace HQ := hid (below_then HQ.out hb)
            have P7 := hid hbk
            clear hb hbk hsz
            refine hK.out _ _ ⟨(XPX.out.step HQ.out).cells3.1, (XPX.out.step HQ.out).cells3.2.1, (XPX.out.step HQ.out).cells3.2.2.1, (XPY.out.step HQ.out).cells6.1, (XPY.out.step HQ.out).cells6.2.1, (XPY.out.step HQ.out).cells6.2.2.1, (XPY.out.step HQ.out).cells6.2.2.2.1, (XPY.out.step HQ.out).cells6.2.2.2.2.1, (XPY.out.step HQ.out).cells6.2.2.2.2.2.1⟩ (fun hS' => ?_)
            clear hK K hS
            have hS := hS'
            clear hS'
            (try simp only [Act.put, List.setIfInBounds_toArray, List.set_cons_zero, List.set_cons_succ])
            refine wpAnyH_ready (rs := [6]) (by kernel_rfl) (by simp) ?_
            refine AllReadyH.cons (by simp only [List.getElem?_toArray, List.getElem?_cons_succ, List.getElem?_cons_zero]; rfl) (fun K hK => ?_) ?_
            · skip
              obtain ⟨y00, y01, y02, yf0⟩ := P7.out.cells3
              go_simp
              clear y00 y01 y02 yf0
              refine named_store3 P7.out ?_
              intro Ws6 hbk hgr hsz
              have hsz4 := hid hsz
              clear hsz
              replace P8 := hid (P8.out.grown hgr (fun e => P7.out.ne P8.out (by decide) (by simpa using e.symm)))
              replace OM := hid (mown_kept OM.out P7.out tm1 tm2 hgr)
              replace OV := hid (OV.out.keptG hgr (fun v hv e => OV.out.ne_blk P7.out tm1 v hv (by simpa using e)))
              replace HQ := hid (HQ.out.grown hgr HQ.out.size (fun r e => by cases e; have := hszd.out; have := hsz0.out; have := hsz1.out; have := hsz2.out; have := hsz3.out; have := hsz4.out; omega))
              replace P7 := hid hbk
              clear hbk hgr
              refine hK.out _ _ ⟨(XPX.out.step HQ.out).cells3.1, (XPX.out.step HQ.out).cells3.2.1, (XPX.out.step HQ.out).cells3.2.2.1, (XPY.out.step HQ.out).cells6.1, (XPY.out.step HQ.out).cells6.2.1, (XPY.out.step HQ.out).cells6.2.2.1, (XPY.out.step HQ.out).cells6.2.2.2.1, (XPY.out.step HQ.out).cells6.2.2.2.2.1, (XPY.out.step HQ.out).cells6.2.2.2.2.2.1⟩ (fun hS' => ?_)
              clear hK K hS
              have hS := hS'
              clear hS'
              (try simp only [Act.put, List.setIfInBounds_toArray, List.set_cons_zero, List.set_cons_succ])
              refine wpAnyH_ready (rs := [7]) (by kernel_rfl) (by simp) ?_
              refine AllReadyH.cons (by simp only [List.getElem?_toArray, List.getElem?_cons_succ, List.getElem?_cons_zero]; rfl) (fun K hK => ?_) ?_
              · skip
                obtain ⟨y00, y01, y02, y03, y04, y05, yf0⟩ := P8.out.cells6
                go_simp
                clear y00 y01 y02 y03 y04 y05 yf0
                refine named_store_6_6_0 P8.out ?_
                intro Ws7 hbk hgr hsz
                have hsz5 := hid hsz
                clear hsz
                replace P7 := hid (P7.out.grown hgr (fun e => P7.out.ne P8.out (by decide) (by simpa using e)))
                replace OM := hid (mown_kept OM.out P8.out tq1 tq2 hgr)
                replace OV := hid (OV.out.keptG hgr (fun v hv e => OV.out.ne_blk P8.out tq1 v hv (by simpa using e)))
                replace HQ := hid (HQ.out.grown hgr HQ.out.size (fun r e => by cases e; have := hszd.out; have := hsz0.out; have := hsz1.out; have := hsz2.out; have := hsz3.out; have := hsz4.out; have := hsz5.out; omega))
                replace P8 := hid hbk
                clear hbk hgr
                refine hK.out _ _ ⟨(XPX.out.step HQ.out).cells3.1, (XPX.out.step HQ.out).cells3.2.1, (XPX.out.step HQ.out).cells3.2.2.1, (XPY.out.step HQ.out).cells6.1, (XPY.out.step HQ.out).cells6.2.1, (XPY.out.step HQ.out).cells6.2.2.1, (XPY.out.step HQ.out).cells6.2.2.2.1, (XPY.out.step HQ.out).cells6.2.2.2.2.1, (XPY.out.step HQ.out).cells6.2.2.2.2.2.1⟩ (fun hS' => ?_)
                clear hK K hS
                have hS := hS'
                clear hS'
                (try simp only [Act.put, List.setIfInBounds_toArray, List.set_cons_zero, List.set_cons_succ])
                refine wpAnyH_done (by kernel_rfl) ?_ _
                refine NoPanic.normal ?_
                clear hS
                go_wp2_with fail
                go_meet
                exact ⟨_, _, rfl, rfl, ⟨⟨_, _, _, _, _, _, _, _, _, P7.out, OM.out, P8.out, OV.out, by rw [← OV.out.len]; exact List.length_take_le _ _, by rw [← OM.out.oa.len]; exact List.length_take_le _ _, by rw [← OM.out.ob.len]; exact List.length_take_le _ _⟩, HQ.out, by have := hszd.out; have := hsz0.out; have := hsz1.out; have := hsz2.out; have := hsz3.out; have := hsz4.out; have := hsz5.out; omega, by have := hszd.out; have := hsz0.out; have := hsz1.out; have := hsz2.out; have := hsz3.out; have := hsz4.out; have := hsz5.out; omega, ⟨fun y hy => HIN.out.1 y (List.mem_of_mem_take hy), HIN.out.2.1, fun v hv => HIN.out.2.2 v (List.mem_of_mem_take hv)⟩⟩⟩
              exact AllReadyH.nil
            exact AllReadyH.nil
          exact AllReadyH.nil
        exact AllReadyH.nil
      refine AllReadyH.cons (by simp only [List.getElem?_toArray, List.getElem?_cons_succ, List.getElem?_cons_zero]; rfl) (fun K hK => ?_) ?_
      · skip
        go_simp
        refine named_alloc ?_
        intro Wa4 hbk hb hsz
        have hsz1 := hid hsz
        replace OM := hid (OM.out.step hb); replace HQ := hid (below_then HQ.out hb)
        have P7 := hid hbk
        clear hb hbk hsz
        refine hK.out _ _ ⟨(XPX.out.step HQ.out).cells3.1, (XPX.out.step HQ.out).cells3.2.1, (XPX.out.step HQ.out).cells3.2.2.1, (XPY.out.step HQ.out).cells6.1, (XPY.out.step HQ.out).cells6.2.1, (XPY.out.step HQ.out).cells6.2.2.1, (XPY.out.step HQ.out).cells6.2.2.2.1, (XPY.out.step HQ.out).cells6.2.2.2.2.1, (XPY.out.step HQ.out).cells6.2.2.2.2.2.1⟩ (fun hS' => ?_)
        clear hK K hS
        have hS := hS'
        clear hS'
        (try simp only [Act.put, List.setIfInBounds_toArray, List.set_cons_zero, List.set_cons_succ])
        refine wpAnyH_ready (rs := [3, 5]) (by kernel_rfl) (by simp) ?_
        refine AllReadyH.cons (by simp only [List.getElem?_toArray, List.getElem?_cons_succ, List.getElem?_cons_zero]; rfl) (fun K hK => ?_) ?_
        · skip
          go_simp
          refine (ownwrite_any s0 V vn vc _ (XV.out.step HQ.out) hvc).mono ?_
          rintro e ws3 ⟨V2, vn2, vc2, rfl, ov, hb⟩
          have hsz2 := hid (show Wa4.heap.size ≤ ws3.heap.size from hb.size)
          replace OM := hid (OM.out.step hb); replace P7 := hid (P7.out.step hb); replace HQ := hid (below_then HQ.out hb)
          clear hb
          have OV := hid (ov.mono (show w1.heap.size ≤ _ by have := hszd.out; have := hsz0.out; have := hsz1.out; omega))
          clear ov
          go_wp2_with fail
          refine hK.out _ _ ⟨(XPX.out.step HQ.out).cells3.1, (XPX.out.step HQ.out).cells3.2.1, (XPX.out.step HQ.out).cells3.2.2.1, (XPY.out.step HQ.out).cells6.1, (XPY.out.step HQ.out).cells6.2.1, (XPY.out.step HQ.out).cells6.2.2.1, (XPY.out.step HQ.out).cells6.2.2.2.1, (XPY.out.step HQ.out).cells6.2.2.2.2.1, (XPY.out.step HQ.out).cells6.2.2.2.2.2.1⟩ (fun hS' => ?_)
          clear hK K hS
          have hS := hS'
          clear hS'
          (try simp only [Act.put, List.setIfInBounds_toArray, List.set_cons_zero, List.set_cons_succ])
          refine wpAnyH_ready (rs := [5]) (by kernel_rfl) (by simp) ?_
          refine AllReadyH.cons (by simp only [List.getElem?_toArray, List.getElem?_cons_succ, List.getElem?_cons_zero]; rfl) (fun K hK => ?_) ?_
          · skip
            go_simp
            refine named_alloc ?_
            intro Wa5 hbk hb hsz
            have hsz3 := hid hsz
            replace OM := hid (OM.out.step hb); replace P7 := hid (P7.out.step hb); replace OV := hid (OV.out.step hb); replace HQ := hid (below_then HQ.out hb)
            have P8 := hid hbk
            clear hb hbk hsz
            refine hK.out _ _ ⟨(XPX.out.step HQ.out).cells3.1, (XPX.out.step HQ.out).cells3.2.1, (XPX.out.step HQ.out).cells3.2.2.1, (XPY.out.step HQ.out).cells6.1, (XPY.out.step HQ.out).cells6.2.1, (XPY.out.step HQ.out).cells6.2.2.1, (XPY.out.step HQ.out).cells6.2.2.2.1, (XPY.out.step HQ.out).cells6.2.2.2.2.1, (XPY.out.step HQ.out).cells6.2.2.2.2.2.1⟩ (fun hS' => ?_)
            clear hK K hS
            have hS := hS'
            clear hS'
            (try simp only [Act.put, List.setIfInBounds_toArray, List.set_cons_zero, List.set_cons_succ])
            refine wpAnyH_ready (rs := [6]) (by kernel_rfl) (by simp) ?_
            refine AllReadyH.cons (by simp only [List.getElem?_toArray, List.getElem?_cons_succ, List.getElem?_cons_zero]; rfl) (fun K hK => ?_) ?_
            · skip
              obtain ⟨y00, y01, y02, yf0⟩ := P7.out.cells3
              go_simp
              clear y00 y01 y02 yf0
              refine named_store3 P7.out ?_
              intro Ws6 hbk hgr hsz
              have hsz4 := hid hsz
              clear hsz
              replace P8 := hid (P8.out.grown hgr (fun e => P7.out.ne P8.out (by decide) (by simpa using e.symm)))
              replace OM := hid (mown_kept OM.out P7.out tm1 tm2 hgr)
              replace OV := hid (OV.out.keptG hgr (fun v hv e => OV.out.ne_blk P7.out tm1 v hv (by simpa using e)))
              replace HQ := hid (HQ.out.grown hgr HQ.out.size (fun r e => by cases e; have := hszd.out; have := hsz0.out; have := hsz1.out; have := hsz2.out; have := hsz3.out; have := hsz4.out; omega))
              replace P7 := hid hbk
              clear hbk hgr
              refine hK.out _ _ ⟨(XPX.out.step HQ.out).cells3.1, (XPX.out.step HQ.out).cells3.2.1, (XPX.out.step HQ.out).cells3.2.2.1, (XPY.out.step HQ.out).cells6.1, (XPY.out.step HQ.out).cells6.2.1, (XPY.out.step HQ.out).cells6.2.2.1, (XPY.out.step HQ.out).cells6.2.2.2.1, (XPY.out.step HQ.out).cells6.2.2.2.2.1, (XPY.out.step HQ.out).cells6.2.2.2.2.2.1⟩ (fun hS' => ?_)
              clear hK K hS
              have hS := hS'
              clear hS'
              (try simp only [Act.put, List.setIfInBounds_toArray, List.set_cons_zero, List.set_cons_succ])
              refine wpAnyH_ready (rs := [7]) (by kernel_rfl) (by simp) ?_
              refine AllReadyH.cons (by simp only [List.getElem?_toArray, List.getElem?_cons_succ, List.getElem?_cons_zero]; rfl) (fun K hK => ?_) ?_
              · skip
                obtain ⟨y00, y01, y02, y03, y04, y05, yf0⟩ := P8.out.cells6
                go_simp
                clear y00 y01 y02 y03 y04 y05 yf0
                refine named_store_6_6_0 P8.out ?_
                intro Ws7 hbk hgr hsz
                have hsz5 := hid hsz
                clear hsz
                replace P7 := hid (P7.out.grown hgr (fun e => P7.out.ne P8.out (by decide) (by simpa using e)))
                replace OM := hid (mown_kept OM.out P8.out tq1 tq2 hgr)
                replace OV := hid (OV.out.keptG hgr (fun v hv e => OV.out.ne_blk P8.out tq1 v hv (by simpa using e)))
                replace HQ := hid (HQ.out.grown hgr HQ.out.size (fun r e => by cases e; have := hszd.out; have := hsz0.out; have := hsz1.out; have := hsz2.out; have := hsz3.out; have := hsz4.out; have := hsz5.out; omega))
                replace P8 := hid hbk
                clear hbk hgr
                refine hK.out _ _ ⟨(XPX.out.step HQ.out).cells3.1, (XPX.out.step HQ.out).cells3.2.1, (XPX.out.step HQ.out).cells3.2.2.1, (XPY.out.step HQ.out).cells6.1, (XPY.out.step HQ.out).cells6.2.1, (XPY.out.step HQ.out).cells6.2.2.1, (XPY.out.step HQ.out).cells6.2.2.2.1, (XPY.out.step HQ.out).cells6.2.2.2.2.1, (XPY.out.step HQ.out).cells6.2.2.2.2.2.1⟩ (fun hS' => ?_)
                clear hK K hS
                have hS := hS'
                clear hS'
                (try simp only [Act.put, List.setIfInBounds_toArray, List.set_cons_zero, List.set_cons_succ])
                refine wpAnyH_done (by kernel_rfl) ?_ _
                refine NoPanic.normal ?_
                clear hS
                go_wp2_with fail
                go_meet
                exact ⟨_, _, rfl, rfl, ⟨⟨_, _, _, _, _, _, _, _, _, P7.out, OM.out, P8.out, OV.out, by rw [← OV.out.len]; exact List.length_take_le _ _, by rw [← OM.out.oa.len]; exact List.length_take_le _ _, by rw [← OM.out.ob.len]; exact List.length_take_le _ _⟩, HQ.out, by have := hszd.out; have := hsz0.out; have := hsz1.out; have := hsz2.out; have := hsz3.out; have := hsz4.out; have := hsz5.out; omega, by have := hszd.out; have := hsz0.out; have := hsz1.out; have := hsz2.out; have := hsz3.out; have := hsz4.out; have := hsz5.out; omega, ⟨fun y hy => HIN.out.1 y (List.mem_of_mem_take hy), HIN.out.2.1, fun v hv => HIN.out.2.2 v (List.mem_of_mem_take hv)⟩⟩⟩
              exact AllReadyH.nil
            exact AllReadyH.nil
          exact AllReadyH.nil
        refine AllReadyH.cons (by simp only [List.getElem?_toArray, List.getElem?_cons_succ, List.getElem?_cons_zero]; rfl) (fun K hK => ?_) ?_
        · skip
          go_simp
          refine named_alloc ?_
          intro Wa5 hbk hb hsz
          have hsz2 := hid hsz
          replace OM := hid (OM.out.step hb); replace P7 := hid (P7.out.step hb); replace HQ := hid (below_then HQ.out hb)
          have P8 := hid hbk
          clear hb hbk hsz
          refine hK.out _ _ ⟨(XPX.out.step HQ.out).cells3.1, (XPX.out.step HQ.out).cells3.2.1, (XPX.out.step HQ.out).cells3.2.2.1, (XPY.out.step HQ.out).cells6.1, (XPY.out.step HQ.out).cells6.2.1, (XPY.out.step HQ.out).cells6.2.2.1, (XPY.out.step HQ.out).cells6.2.2.2.1, (XPY.out.step HQ.out).cells6.2.2.2.2.1, (XPY.out.step HQ.out).cells6.2.2.2.2.2.1⟩ (fun hS' => ?_)
          clear hK K hS
          have hS := hS'
          clear hS'
          (try simp only [Act.put, List.setIfInBounds_toArray, List.set_cons_zero, List.set_cons_succ])
          refine wpAnyH_ready (rs := [3]) (by kernel_rfl) (by simp) ?_
          refine AllReadyH.cons (by simp only [List.getElem?_toArray, List.getElem?_cons_succ, List.getElem?_cons_zero]; rfl) (fun K hK => ?_) ?_
          · skip
            go_simp
            refine (ownwrite_any s0 V vn vc _ (XV.out.step HQ.out) hvc).mono ?_
            rintro e ws3 ⟨V2, vn2, vc2, rfl, ov, hb⟩
            have hsz3 := hid (show Wa5.heap.size ≤ ws3.heap.size from hb.size)
            replace OM := hid (OM.out.step hb); replace P7 := hid (P7.out.step hb); replace P8 := hid (P8.out.step hb); replace HQ := hid (below_then HQ.out hb)
            clear hb
            have OV := hid (ov.mono (show w1.heap.size ≤ _ by have := hszd.out; have := hsz0.out; have := hsz1.out; have := hsz2.out; omega))
            clear ov
            go_wp2_with fail
            refine hK.out _ _ ⟨(XPX.out.step HQ.out).cells3.1, (XPX.out.step HQ.out).cells3.2.1, (XPX.out.step HQ.out).cells3.2.2.1, (XPY.out.step HQ.out).cells6.1, (XPY.out.step HQ.out).cells6.2.1, (XPY.out.step HQ.out).cells6.2.2.1, (XPY.out.step HQ.out).cells6.2.2.2.1, (XPY.out.step HQ.out).cells6.2.2.2.2.1, (XPY.out.step HQ.out).cells6.2.2.2.2.2.1⟩ (fun hS' => ?_)
            clear hK K hS
            have hS := hS'
            clear hS'
            (try simp only [Act.put, List.setIfInBounds_toArray, List.set_cons_zero, List.set_cons_succ])
            refine wpAnyH_ready (rs := [6]) (by kernel_rfl) (by simp) ?_
            refine AllReadyH.cons (by simp only [List.getElem?_toArray, List.getElem?_cons_succ, List.getElem?_cons_zero]; rfl) (fun K hK => ?_) ?_
            · skip
              obtain ⟨y00, y01, y02, yf0⟩ := P7.out.cells3
              go_simp
              clear y00 y01 y02 yf0
              refine named_store3 P7.out ?_
              intro Ws6 hbk hgr hsz
              have hsz4 := hid hsz
              clear hsz
              replace P8 := hid (P8.out.grown hgr (fun e => P7.out.ne P8.out (by decide) (by simpa using e.symm)))
              replace OM := hid (mown_kept OM.out P7.out tm1 tm2 hgr)
              replace OV := hid (OV.out.keptG hgr (fun v hv e => OV.out.ne_blk P7.out tm1 v hv (by simpa using e)))
              replace HQ := hid (HQ.out.grown hgr HQ.out.size (fun r e => by cases e; have := hszd.out; have := hsz0.out; have := hsz1.out; have := hsz2.out; have := hsz3.out; have := hsz4.out; omega))
              replace P7 := hid hbk
              clear hbk hgr
              refine hK.out _ _ ⟨(XPX.out.step HQ.out).cells3.1, (XPX.out.step HQ.out).cells3.2.1, (XPX.out.step HQ.out).cells3.2.2.1, (XPY.out.step HQ.out).cells6.1, (XPY.out.step HQ.out).cells6.2.1, (XPY.out.step HQ.out).cells6.2.2.1, (XPY.out.step HQ.out).cells6.2.2.2.1, (XPY.out.step HQ.out).cells6.2.2.2.2.1, (XPY.out.step HQ.out).cells6.2.2.2.2.2.1⟩ (fun hS' => ?_)
              clear hK K hS
              have hS := hS'
              clear hS'
              (try simp only [Act.put, List.setIfInBounds_toArray, List.set_cons_zero, List.set_cons_succ])
              refine wpAnyH_ready (rs := [7]) (by kernel_rfl) (by simp) ?_
              refine AllReadyH.cons (by simp only [List.getElem?_toArray, List.getElem?_cons_succ, List.getElem?_cons_zero]; rfl) (fun K hK => ?_) ?_
              · skip
                obtain ⟨y00, y01, y02, y03, y04, y05, yf0⟩ := P8.out.cells6
                go_simp
                clear y00 y01 y02 y03 y04 y05 yf0
                refine named_store_6_6_0 P8.out ?_
                intro Ws7 hbk hgr hsz
                have hsz5 := hid hsz
                clear hsz
                replace P7 := hid (P7.out.grown hgr (fun e => P7.out.ne P8.out (by decide) (by simpa using e)))
                replace OM := hid (mown_kept OM.out P8.out tq1 tq2 hgr)
                replace OV := hid (OV.out.keptG hgr (fun v hv e => OV.out.ne_blk P8.out tq1 v hv (by simpa using e)))
                replace HQ := hid (HQ.out.grown hgr HQ.out.size (fun r e => by cases e; have := hszd.out; have := hsz0.out; have := hsz1.out; have := hsz2.out; have := hsz3.out; have := hsz4.out; have := hsz5.out; omega))
                replace P8 := hid hbk
                clear hbk hgr
                refine hK.out _ _ ⟨(XPX.out.step HQ.out).cells3.1, (XPX.out.step HQ.out).cells3.2.1, (XPX.out.step HQ.out).cells3.2.2.1, (XPY.out.step HQ.out).cells6.1, (XPY.out.step HQ.out).cells6.2.1, (XPY.out.step HQ.out).cells6.2.2.1, (XPY.out.step HQ.out).cells6.2.2.2.1, (XPY.out.step HQ.out).cells6.2.2.2.2.1, (XPY.out.step HQ.out).cells6.2.2.2.2.2.1⟩ (fun hS' => ?_)
                clear hK K hS
                have hS := hS'
                clear hS'
                (try simp only [Act.put, List.setIfInBounds_toArray, List.set_cons_zero, List.set_cons_succ])
                refine wpAnyH_done (by kernel_rfl) ?_ _
                refine NoPanic.normal ?_
                clear hS
                go_wp2_with fail
                go_meet
                exact ⟨_, _, rfl, rfl, ⟨⟨_, _, _, _, _, _, _, _, _, P7.out, OM.out, P8.out, OV.out, by rw [← OV.out.len]; exact List.length_take_le _ _, by rw [← OM.out.oa.len]; exact List.length_take_le _ _, by rw [← OM.out.ob.len]; exact List.length_take_le _ _⟩, HQ.out, by have := hszd.out; have := hsz0.out; have := hsz1.out; have := hsz2.out; have := hsz3.out; have := hsz4.out; have := hsz5.out; omega, by have := hszd.out; have := hsz0.out; have := hsz1.out; have := hsz2.out; have := hsz3.out; have := hsz4.out; have := hsz5.out; omega, ⟨fun y hy => HIN.out.1 y (List.mem_of_mem_take hy), HIN.out.2.1, fun v hv => HIN.out.2.2 v (List.mem_of_mem_take hv)⟩⟩⟩
              exact AllReadyH.nil
            exact AllReadyH.nil
          exact AllReadyH.nil
        exact AllReadyH.nil
      refine AllReadyH.cons (by simp only [List.getElem?_toArray, List.getElem?_cons_succ, List.getElem?_cons_zero]; rfl) (fun K hK => ?_) ?_
      · skip
        go_simp
        refine named_alloc ?_
        intro Wa5 hbk hb hsz
        have hsz1 := hid hsz
        replace OM := hid (OM.out.step hb); replace HQ := hid (below_then HQ.out hb)
        have P8 := hid hbk
        clear hb hbk hsz
        refine hK.out _ _ ⟨(XPX.out.step HQ.out).cells3.1, (XPX.out.step HQ.out).cells3.2.1, (XPX.out.step HQ.out).cells3.2.2.1, (XPY.out.step HQ.out).cells6.1, (XPY.out.step HQ.out).cells6.2.1, (XPY.out.step HQ.out).cells6.2.2.1, (XPY.out.step HQ.out).cells6.2.2.2.1, (XPY.out.step HQ.out).cells6.2.2.2.2.1, (XPY.out.step HQ.out).cells6.2.2.2.2.2.1⟩ (fun hS' => ?_)
        clear hK K hS
        have hS := hS'
        clear hS'
        (try simp only [Act.put, List.setIfInBounds_toArray, List.set_cons_zero, List.set_cons_succ])
        refine wpAnyH_ready (rs := [3, 4]) (by kernel_rfl) (by simp) ?_
        refine AllReadyH.cons (by simp only [List.getElem?_toArray, List.getElem?_cons_succ, List.getElem?_cons_zero]; rfl) (fun K hK => ?_) ?_
        · skip
          go_simp
          refine (ownwrite_any s0 V vn vc _ (XV.out.step HQ.out) hvc).mono ?_
          rintro e ws3 ⟨V2, vn2, vc2, rfl, ov, hb⟩
          have hsz2 := hid (show Wa5.heap.size ≤ ws3.heap.size from hb.size)
          replace OM := hid (OM.out.step hb); replace P8 := hid (P8.out.step hb); replace HQ := hid (below_then HQ.out hb)
          clear hb
          have OV := hid (ov.mono (show w1.heap.size ≤ _ by have := hszd.out; have := hsz0.out; have := hsz1.out; omega))
          clear ov
          go_wp2_with fail
          refine hK.out _ _ ⟨(XPX.out.step HQ.out).cells3.1, (XPX.out.step HQ.out).cells3.2.1, (XPX.out.step HQ.out).cells3.2.2.1, (XPY.out.step HQ.out).cells6.1, (XPY.out.step HQ.out).cells6.2.1, (XPY.out.step HQ.out).cells6.2.2.1, (XPY.out.step HQ.out).cells6.2.2.2.1, (XPY.out.step HQ.out).cells6.2.2.2.2.1, (XPY.out.step HQ.out).cells6.2.2.2.2.2.1⟩ (fun hS' => ?_)
          clear hK K hS
          have hS := hS'
          clear hS'
          (try simp only [Act.put, List.setIfInBounds_toArray, List.set_cons_zero, List.set_cons_succ])
          refine wpAnyH_ready (rs := [4]) (by kernel_rfl) (by simp) ?_
          refine AllReadyH.cons (by simp only [List.getElem?_toArray, List.getElem?_cons_succ, List.getElem?_cons_zero]; rfl) (fun K hK => ?_) ?_
          · skip
            go_simp
            refine named_alloc ?_
            intro Wa4 hbk hb hsz
            have hsz3 := hid hsz
            replace OM := hid (OM.out.step hb); replace P8 := hid (P8.out.step hb); replace OV := hid (OV.out.step hb); replace HQ := hid (below_then HQ.out hb)
            have P7 := hid hbk
            clear hb hbk hsz
            refine hK.out _ _ ⟨(XPX.out.step HQ.out).cells3.1, (XPX.out.step HQ.out).cells3.2.1, (XPX.out.step HQ.out).cells3.2.2.1, (XPY.out.step HQ.out).cells6.1, (XPY.out.step HQ.out).cells6.2.1, (XPY.out.step HQ.out).cells6.2.2.1, (XPY.out.step HQ.out).cells6.2.2.2.1, (XPY.out.step HQ.out).cells6.2.2.2.2.1, (XPY.out.step HQ.out).cells6.2.2.2.2.2.1⟩ (fun hS' => ?_)
            clear hK K hS
            have hS := hS'
            clear hS'
            (try simp only [Act.put, List.setIfInBounds_toArray, List.set_cons_zero, List.set_cons_succ])
            refine wpAnyH_ready (rs := [6]) (by kernel_rfl) (by simp) ?_
            refine AllReadyH.cons (by simp only [List.getElem?_toArray, List.getElem?_cons_succ, List.getElem?_cons_zero]; rfl) (fun K hK => ?_) ?_
            · skip
              obtain ⟨y00, y01, y02, yf0⟩ := P7.out.cells3
              go_simp
              clear y00 y01 y02 yf0
              refine named_store3 P7.out ?_
              intro Ws6 hbk hgr hsz
              have hsz4 := hid hsz
              clear hsz
              replace P8 := hid (P8.out.grown hgr (fun e => P7.out.ne P8.out (by decide) (by simpa using e.symm)))
              replace OM := hid (mown_kept OM.out P7.out tm1 tm2 hgr)
              replace OV := hid (OV.out.keptG hgr (fun v hv e => OV.out.ne_blk P7.out tm1 v hv (by simpa using e)))
              replace HQ := hid (HQ.out.grown hgr HQ.out.size (fun r e => by cases e; have := hszd.out; have := hsz0.out; have := hsz1.out; have := hsz2.out; have := hsz3.out; have := hsz4.out; omega))
              replace P7 := hid hbk
              clear hbk hgr
              refine hK.out _ _ ⟨(XPX.out.step HQ.out).cells3.1, (XPX.out.step HQ.out).cells3.2.1, (XPX.out.step HQ.out).cells3.2.2.1, (XPY.out.step HQ.out).cells6.1, (XPY.out.step HQ.out).cells6.2.1, (XPY.out.step HQ.out).cells6.2.2.1, (XPY.out.step HQ.out).cells6.2.2.2.1, (XPY.out.step HQ.out).cells6.2.2.2.2.1, (XPY.out.step HQ.out).cells6.2.2.2.2.2.1⟩ (fun hS' => ?_)
              clear hK K hS
              have hS := hS'
              clear hS'
              (try simp only [Act.put, List.setIfInBounds_toArray, List.set_cons_zero, List.set_cons_succ])
              refine wpAnyH_ready (rs := [7]) (by kernel_rfl) (by simp) ?_
              refine AllReadyH.cons (by simp only [List.getElem?_toArray, List.getElem?_cons_succ, List.getElem?_cons_zero]; rfl) (fun K hK => ?_) ?_
              · skip
                obtain ⟨y00, y01, y02, y03, y04, y05, yf0⟩ := P8.out.cells6
                go_simp
                clear y00 y01 y02 y03 y04 y05 yf0
                refine named_store_6_6_0 P8.out ?_
                intro Ws7 hbk hgr hsz
                have hsz5 := hid hsz
                clear hsz
                replace P7 := hid (P7.out.grown hgr (fun e => P7.out.ne P8.out (by decide) (by simpa using e)))
                replace OM := hid (mown_kept OM.out P8.out tq1 tq2 hgr)
                replace OV := hid (OV.out.keptG hgr (fun v hv e => OV.out.ne_blk P8.out tq1 v hv (by simpa using e)))
                replace HQ := hid (HQ.out.grown hgr HQ.out.size (fun r e => by cases e; have := hszd.out; have := hsz0.out; have := hsz1.out; have := hsz2.out; have := hsz3.out; have := hsz4.out; have := hsz5.out; omega))
                replace P8 := hid hbk
                clear hbk hgr
                refine hK.out _ _ ⟨(XPX.out.step HQ.out).cells3.1, (XPX.out.step HQ.out).cells3.2.1, (XPX.out.step HQ.out).cells3.2.2.1, (XPY.out.step HQ.out).cells6.1, (XPY.out.step HQ.out).cells6.2.1, (XPY.out.step HQ.out).cells6.2.2.1, (XPY.out.step HQ.out).cells6.2.2.2.1, (XPY.out.step HQ.out).cells6.2.2.2.2.1, (XPY.out.step HQ.out).cells6.2.2.2.2.2.1⟩ (fun hS' => ?_)
                clear hK K hS
                have hS := hS'
                clear hS'
                (try simp only [Act.put, List.setIfInBounds_toArray, List.set_cons_zero, List.set_cons_succ])
                refine wpAnyH_done (by kernel_rfl) ?_ _
                refine NoPanic.normal ?_
                clear hS
                go_wp2_with fail
                go_meet
                exact ⟨_, _, rfl, rfl, ⟨⟨_, _, _, _, _, _, _, _, _, P7.out, OM.out, P8.out, OV.out, by rw [← OV.out.len]; exact List.length_take_le _ _, by rw [← OM.out.oa.len]; exact List.length_take_le _ _, by rw [← OM.out.ob.len]; exact List.length_take_le _ _⟩, HQ.out, by have := hszd.out; have := hsz0.out; have := hsz1.out; have := hsz2.out; have := hsz3.out; have := hsz4.out; have := hsz5.out; omega, by have := hszd.out; have := hsz0.out; have := hsz1.out; have := hsz2.out; have := hsz3.out; have := hsz4.out; have := hsz5.out; omega, ⟨fun y hy => HIN.out.1 y (List.mem_of_mem_take hy), HIN.out.2.1, fun v hv => HIN.out.2.2 v (List.mem_of_mem_take hv)⟩⟩⟩
              exact AllReadyH.nil
            exact AllReadyH.nil
          exact AllReadyH.nil
        refine AllReadyH.cons (by simp only [List.getElem?_toArray, List.getElem?_cons_succ, List.getElem?_cons_zero]; rfl) (fun K hK => ?_) ?_
        · skip
          go_simp
          refine named_alloc ?_
          intro Wa4 hbk hb hsz
          have hsz2 := hid hsz
          replace OM := hid (OM.out.step hb); replace P8 := hid (P8.out.step hb); replace HQ := hid (below_then HQ.out hb)
          have P7 := hid hbk
          clear hb hbk hsz
          refine hK.out _ _ ⟨(XPX.out.step HQ.out).cells3.1, (XPX.out.step HQ.out).cells3.2.1, (XPX.out.step HQ.out).cells3.2.2.1, (XPY.out.step HQ.out).cells6.1, (XPY.out.step HQ.out).cells6.2.1, (XPY.out.step HQ.out).cells6.2.2.1, (XPY.out.step HQ.out).cells6.2.2.2.1, (XPY.out.step HQ.out).cells6.2.2.2.2.1, (XPY.out.step HQ.out).cells6.2.2.2.2.2.1⟩ (fun hS' => ?_)
          clear hK K hS
          have hS := hS'
          clear hS'
          (try simp only [Act.put, List.setIfInBounds_toArray, List.set_cons_zero, List.set_cons_succ])
          refine wpAnyH_ready (rs := [3]) (by kernel_rfl) (by simp) ?_
          refine AllReadyH.cons (by simp only [List.getElem?_toArray, List.getElem?_cons_succ, List.getElem?_cons_zero]; rfl) (fun K hK => ?_) ?_
          · skip
            go_simp
            refine (ownwrite_any s0 V vn vc _ (XV.out.step HQ.out) hvc).mono ?_
            rintro e ws3 ⟨V2, vn2, vc2, rfl, ov, hb⟩
            have hsz3 := hid (show Wa4.heap.size ≤ ws3.heap.size from hb.size)
            replace OM := hid (OM.out.step hb); replace P8 := hid (P8.out.step hb); replace P7 := hid (P7.out.step hb); replace HQ := hid (below_then HQ.out hb)
            clear hb
            have OV := hid (ov.mono (show w1.heap.size ≤ _ by have := hszd.out; have := hsz0.out; have := hsz1.out; have := hsz2.out; omega))
            clear ov
            go_wp2_with fail
            refine hK.out _ _ ⟨(XPX.out.step HQ.out).cells3.1, (XPX.out.step HQ.out).cells3.2.1, (XPX.out.step HQ.out).cells3.2.2.1, (XPY.out.step HQ.out).cells6.1, (XPY.out.step HQ.out).cells6.2.1, (XPY.out.step HQ.out).cells6.2.2.1, (XPY.out.step HQ.out).cells6.2.2.2.1, (XPY.out.step HQ.out).cells6.2.2.2.2.1, (XPY.out.step HQ.out).cells6.2.2.2.2.2.1⟩ (fun hS' => ?_)
            clear hK K hS
            have hS := hS'
            clear hS'
            (try simp only [Act.put, List.setIfInBounds_toArray, List.set_cons_zero, List.set_cons_succ])
            refine wpAnyH_ready (rs := [6]) (by kernel_rfl) (by simp) ?_
            refine AllReadyH.cons (by simp only [List.getElem?_toArray, List.getElem?_cons_succ, List.getElem?_cons_zero]; rfl) (fun K hK => ?_) ?_
            · skip
              obtain ⟨y00, y01, y02, yf0⟩ := P7.out.cells3
              go_simp
              clear y00 y01 y02 yf0
              refine named_store3 P7.out ?_
              intro Ws6 hbk hgr hsz
              have hsz4 := hid hsz
              clear hsz
              replace P8 := hid (P8.out.grown hgr (fun e => P7.out.ne P8.out (by decide) (by simpa using e.symm)))
              replace OM := hid (mown_kept OM.out P7.out tm1 tm2 hgr)
              replace OV := hid (OV.out.keptG hgr (fun v hv e => OV.out.ne_blk P7.out tm1 v hv (by simpa using e)))
              replace HQ := hid (HQ.out.grown hgr HQ.out.size (fun r e => by cases e; have := hszd.out; have := hsz0.out; have := hsz1.out; have := hsz2.out; have := hsz3.out; have := hsz4.out; omega))
              replace P7 := hid hbk
              clear hbk hgr
              refine hK.out _ _ ⟨(XPX.out.step HQ.out).cells3.1, (XPX.out.step HQ.out).cells3.2.1, (XPX.out.step HQ.out).cells3.2.2.1, (XPY.out.step HQ.out).cells6.1, (XPY.out.step HQ.out).cells6.2.1, (XPY.out.step HQ.out).cells6.2.2.1, (XPY.out.step HQ.out).cells6.2.2.2.1, (XPY.out.step HQ.out).cells6.2.2.2.2.1, (XPY.out.step HQ.out).cells6.2.2.2.2.2.1⟩ (fun hS' => ?_)
              clear hK K hS
              have hS := hS'
              clear hS'
              (try simp only [Act.put, List.setIfInBounds_toArray, List.set_cons_zero, List.set_cons_succ])
              refine wpAnyH_ready (rs := [7]) (by kernel_rfl) (by simp) ?_
              refine AllReadyH.cons (by simp only [List.getElem?_toArray, List.getElem?_cons_succ, List.getElem?_cons_zero]; rfl) (fun K hK => ?_) ?_
              · skip
                obtain ⟨y00, y01, y02, y03, y04, y05, yf0⟩ := P8.out.cells6
                go_simp
                clear y00 y01 y02 y03 y04 y05 yf0
                refine named_store_6_6_0 P8.out ?_
                intro Ws7 hbk hgr hsz
                have hsz5 := hid hsz
                clear hsz
                replace P7 := hid (P7.out.grown hgr (fun e => P7.out.ne P8.out (by decide) (by simpa using e)))
                replace OM := hid (mown_kept OM.out P8.out tq1 tq2 hgr)
                replace OV := hid (OV.out.keptG hgr (fun v hv e => OV.out.ne_blk P8.out tq1 v hv (by simpa using e)))
                replace HQ := hid (HQ.out.grown hgr HQ.out.size (fun r e => by cases e; have := hszd.out; have := hsz0.out; have := hsz1.out; have := hsz2.out; have := hsz3.out; have := hsz4.out; have := hsz5.out; omega))
                replace P8 := hid hbk
                clear hbk hgr
                refine hK.out _ _ ⟨(XPX.out.step HQ.out).cells3.1, (XPX.out.step HQ.out).cells3.2.1, (XPX.out.step HQ.out).cells3.2.2.1, (XPY.out.step HQ.out).cells6.1, (XPY.out.step HQ.out).cells6.2.1, (XPY.out.step HQ.out).cells6.2.2.1, (XPY.out.step HQ.out).cells6.2.2.2.1, (XPY.out.step HQ.out).cells6.2.2.2.2.1, (XPY.out.step HQ.out).cells6.2.2.2.2.2.1⟩ (fun hS' => ?_)
                clear hK K hS
                have hS := hS'
                clear hS'
                (try simp only [Act.put, List.setIfInBounds_toArray, List.set_cons_zero, List.set_cons_succ])
                refine wpAnyH_done (by kernel_rfl) ?_ _
                refine NoPanic.normal ?_
                clear hS
                go_wp2_with fail
                go_meet
                exact ⟨_, _, rfl, rfl, ⟨⟨_, _, _, _, _, _, _, _, _, P7.out, OM.out, P8.out, OV.out, by rw [← OV.out.len]; exact List.length_take_le _ _, by rw [← OM.out.oa.len]; exact List.length_take_le _ _, by rw [← OM.out.ob.len]; exact List.length_take_le _ _⟩, HQ.out, by have := hszd.out; have := hsz0.out; have := hsz1.out; have := hsz2.out; have := hsz3.out; have := hsz4.out; have := hsz5.out; omega, by have := hszd.out; have := hsz0.out; have := hsz1.out; have := hsz2.out; have := hsz3.out; have := hsz4.out; have := hsz5.out; omega, ⟨fun y hy => HIN.out.1 y (List.mem_of_mem_take hy), HIN.out.2.1, fun v hv => HIN.out.2.2 v (List.mem_of_mem_take hv)⟩⟩⟩
              exact AllReadyH.nil
            exact AllReadyH.nil
          exact AllReadyH.nil
        exact AllReadyH.nil
      exact AllReadyH.nil
    refine AllReadyH.cons (by simp only [List.getElem?_toArray, List.getElem?_cons_succ, List.getElem?_cons_zero]; rfl) (fun K hK => ?_) ?_
    · skip
      go_simp
      refine named_alloc ?_
      intro Wa4 hbk hb hsz
      have hsz0 := hid hsz
      replace HQ := hid (below_then HQ.out hb)
      have P7 := hid hbk
      clear hb hbk hsz
      refine hK.out _ _ ⟨(XPX.out.step HQ.out).cells3.1, (XPX.out.step HQ.out).cells3.2.1, (XPX.out.step HQ.out).cells3.2.2.1, (XPY.out.step HQ.out).cells6.1, (XPY.out.step HQ.out).cells6.2.1, (XPY.out.step HQ.out).cells6.2.2.1, (XPY.out.step HQ.out).cells6.2.2.2.1, (XPY.out.step HQ.out).cells6.2.2.2.2.1, (XPY.out.step HQ.out).cells6.2.2.2.2.2.1⟩ (fun hS' => ?_)
      clear hK K hS
      have hS := hS'
      clear hS'
      (try simp only [Act.put, List.setIfInBounds_toArray, List.set_cons_zero, List.set_cons_succ])
      refine wpAnyH_ready (rs := [1, 5]) (by kernel_rfl) (by simp) ?_
      refine AllReadyH.cons (by simp only [List.getElem?_toArray, List.getElem?_cons_succ, List.getElem?_cons_zero]; rfl) (fun K hK => ?_) ?_
      · skip
        go_simp
        refine (lawown_any A n c B k d f xs ys _ (XX.out.step HQ.out) (XY.out.step HQ.out) hnc hkd).mono ?_
        rintro e ws1 ⟨A2, n2, c2, B2, k2, d2, rfl, om, hb⟩
        have hsz1 := hid (show Wa4.heap.size ≤ ws1.heap.size from hb.size)
        replace P7 := hid (P7.out.step hb); replace HQ := hid (below_then HQ.out hb)
        clear hb
        have OM := hid (om.mono (show w1.heap.size ≤ _ by have := hszd.out; have := hsz0.out; omega))
        clear om
        go_wp2_with fail
        refine hK.out _ _ ⟨(XPX.out.step HQ.out).cells3.1, (XPX.out.step HQ.out).cells3.2.1, (XPX.out.step HQ.out).cells3.2.2.1, (XPY.out.step HQ.out).cells6.1, (XPY.out.step HQ.out).cells6.2.1, (XPY.out.step HQ.out).cells6.2.2.1, (XPY.out.step HQ.out).cells6.2.2.2.1, (XPY.out.step HQ.out).cells6.2.2.2.2.1, (XPY.out.step HQ.out).cells6.2.2.2.2.2.1⟩ (fun hS' => ?_)
        clear hK K hS
        have hS := hS'
        clear hS'
        (try simp only [Act.put, List.setIfInBounds_toArray, List.set_cons_zero, List.set_cons_succ])
        refine wpAnyH_ready (rs := [3, 5]) (by kernel_rfl) (by simp) ?_
        refine AllReadyH.cons (by simp only [List.getElem?_toArray, List.getElem?_cons_succ, List.getElem?_cons_zero]; rfl) (fun K hK => ?_) ?_
        · skip
          go_simp
          refine (ownwrite_any s0 V vn vc _ (XV.out.step HQ.out) hvc).mono ?_
          rintro e ws3 ⟨V2, vn2, vc2, rfl, ov, hb⟩
          have hsz2 := hid (show ws1.heap.size ≤ ws3.heap.size from hb.size)
          replace P7 := hid (P7.out.step hb); replace OM := hid (OM.out.step hb); replace HQ := hid (below_then HQ.out hb)
          clear hb
          have OV := hid (ov.mono (show w1.heap.size ≤ _ by have := hszd.out; have := hsz0.out; have := hsz1.out; omega))
          clear ov
          go_wp2_with fail
          refine hK.out _ _ ⟨(XPX.out.step HQ.out).cells3.1, (XPX.out.step HQ.out).cells3.2.1, (XPX.out.step HQ.out).cells3.2.2.1, (XPY.out.step HQ.out).cells6.1, (XPY.out.step HQ.out).cells6.2.1, (XPY.out.step HQ.out).cells6.2.2.1, (XPY.out.step HQ.out).cells6.2.2.2.1, (XPY.out.step HQ.out).cells6.2.2.2.2.1, (XPY.out.step HQ.out).cells6.2.2.2.2.2.1⟩ (fun hS' => ?_)
          clear hK K hS
          have hS := hS'
          clear hS'
          (try simp only [Act.put, List.setIfInBounds_toArray, List.set_cons_zero, List.set_cons_succ])
          refine wpAnyH_ready (rs := [5]) (by kernel_rfl) (by simp) ?_
          refine AllReadyH.cons (by simp only [List.getElem?_toArray, List.getElem?_cons_succ, List.getElem?_cons_zero]; rfl) (fun K hK => ?_) ?_
          · skip
            go_simp
            refine named_alloc ?_
            intro Wa5 hbk hb hsz
            have hsz3 := hid hsz
            replace P7 := hid (P7.out.step hb); replace OM := hid (OM.out.step hb); replace OV := hid (OV.out.step hb); replace HQ := hid (below_then HQ.out hb)
            have P8 := hid hbk
            clear hb hbk hsz
            refine hK.out _ _ ⟨(XPX.out.step HQ.out).cells3.1, (XPX.out.step HQ.out).cells3.2.1, (XPX.out.step HQ.out).cells3.2.2.1, (XPY.out.step HQ.out).cells6.1, (XPY.out.step HQ.out).cells6.2.1, (XPY.out.step HQ.out).cells6.2.2.1, (XPY.out.step HQ.out).cells6.2.2.2.1, (XPY.out.step HQ.out).cells6.2.2.2.2.1, (XPY.out.step HQ.out).cells6.2.2.2.2.2.1⟩ (fun hS' => ?_)
            clear hK K hS
            have hS := hS'
            clear hS'
            (try simp only [Act.put, List.setIfInBounds_toArray, List.set_cons_zero, List.set_cons_succ])
            refine wpAnyH_ready (rs := [6]) (by kernel_rfl) (by simp) ?_
            refine AllReadyH.cons (by simp only [List.getElem?_toArray, List.getElem?_cons_succ, List.getElem?_cons_zero]; rfl) (fun K hK => ?_) ?_
            · skip
              obtain ⟨y00, y01, y02, yf0⟩ := P7.out.cells3
              go_simp
              clear y00 y01 y02 yf0
              refine named_store3 P7.out ?_
              intro Ws6 hbk hgr hsz
              have hsz4 := hid hsz
              clear hsz
              replace P8 := hid (P8.out.grown hgr (fun e => P7.out.ne P8.out (by decide) (by simpa using e.symm)))
              replace OM := hid (mown_kept OM.out P7.out tm1 tm2 hgr)
              replace OV := hid (OV.out.keptG hgr (fun v hv e => OV.out.ne_blk P7.out tm1 v hv (by simpa using e)))
              replace HQ := hid (HQ.out.grown hgr HQ.out.size (fun r e => by cases e; have := hszd.out; have := hsz0.out; have := hsz1.out; have := hsz2.out; have := hsz3.out; have := hsz4.out; omega))
              replace P7 := hid hbk
              clear hbk hgr
              refine hK.out _ _ ⟨(XPX.out.step HQ.out).cells3.1, (XPX.out.step HQ.out).cells3.2.1, (XPX.out.step HQ.out).cells3.2.2.1, (XPY.out.step HQ.out).cells6.1, (XPY.out.step HQ.out).cells6.2.1, (XPY.out.step HQ.out).cells6.2.2.1, (XPY.out.step HQ.out).cells6.2.2.2.1, (XPY.out.step HQ.out).cells6.2.2.2.2.1, (XPY.out.step HQ.out).cells6.2.2.2.2.2.1⟩ (fun hS' => ?_)
              clear hK K hS
              have hS := hS'
              clear hS'
              (try simp only [Act.put, List.setIfInBounds_toArray, List.set_cons_zero, List.set_cons_succ])
              refine wpAnyH_ready (rs := [7]) (by kernel_rfl) (by simp) ?_
              refine AllReadyH.cons (by simp only [List.getElem?_toArray, List.getElem?_cons_succ, List.getElem?_cons_zero]; rfl) (fun K hK => ?_) ?_
              · skip
                obtain ⟨y00, y01, y02, y03, y04, y05, yf0⟩ := P8.out.cells6
                go_simp
                clear y00 y01 y02 y03 y04 y05 yf0
                refine named_store_6_6_0 P8.out ?_
                intro Ws7 hbk hgr hsz
                have hsz5 := hid hsz
                clear hsz
                replace P7 := hid (P7.out.grown hgr (fun e => P7.out.ne P8.out (by decide) (by simpa using e)))
                replace OM := hid (mown_kept OM.out P8.out tq1 tq2 hgr)
                replace OV := hid (OV.out.keptG hgr (fun v hv e => OV.out.ne_blk P8.out tq1 v hv (by simpa using e)))
                replace HQ := hid (HQ.out.grown hgr HQ.out.size (fun r e => by cases e; have := hszd.out; have := hsz0.out; have := hsz1.out; have := hsz2.out; have := hsz3.out; have := hsz4.out; have := hsz5.out; omega))
                replace P8 := hid hbk
                clear hbk hgr
                refine hK.out _ _ ⟨(XPX.out.step HQ.out).cells3.1, (XPX.out.step HQ.out).cells3.2.1, (XPX.out.step HQ.out).cells3.2.2.1, (XPY.out.step HQ.out).cells6.1, (XPY.out.step HQ.out).cells6.2.1, (XPY.out.step HQ.out).cells6.2.2.1, (XPY.out.step HQ.out).cells6.2.2.2.1, (XPY.out.step HQ.out).cells6.2.2.2.2.1, (XPY.out.step HQ.out).cells6.2.2.2.2.2.1⟩ (fun hS' => ?_)
                clear hK K hS
                have hS := hS'
                clear hS'
                (try simp only [Act.put, List.setIfInBounds_toArray, List.set_cons_zero, List.set_cons_succ])
                refine wpAnyH_done (by kernel_rfl) ?_ _
                refine NoPanic.normal ?_
                clear hS
                go_wp2_with fail
                go_meet
                exact ⟨_, _, rfl, rfl, ⟨⟨_, _, _, _, _, _, _, _, _, P7.out, OM.out, P8.out, OV.out, by rw [← OV.out.len]; exact List.length_take_le _ _, by rw [← OM.out.oa.len]; exact List.length_take_le _ _, by rw [← OM.out.ob.len]; exact List.length_take_le _ _⟩, HQ.out, by have := hszd.out; have := hsz0.out; have := hsz1.out; have := hsz2.out; have := hsz3.out; have := hsz4.out; have := hsz5.out; omega, by have := hszd.out; have := hsz0.out; have := hsz1.out; have := hsz2.out; have := hsz3.out; have := hsz4.out; have := hsz5.out; omega, ⟨fun y hy => HIN.out.1 y (List.mem_of_mem_take hy), HIN.out.2.1, fun v hv => HIN.out.2.2 v (List.mem_of_mem_take hv)⟩⟩⟩
              exact AllReadyH.nil
            exact AllReadyH.nil
          exact AllReadyH.nil
        refine AllReadyH.cons (by simp only [List.getElem?_toArray, List.getElem?_cons_succ, List.getElem?_cons_zero]; rfl) (fun K hK => ?_) ?_
        · skip
          go_simp
          refine named_alloc ?_
          intro Wa5 hbk hb hsz
          have hsz2 := hid hsz
          replace P7 := hid (P7.out.step hb); replace OM := hid (OM.out.step hb); replace HQ := hid (below_then HQ.out hb)
          have P8 := hid hbk
          clear hb hbk hsz
          refine hK.out _ _ ⟨(XPX.out.step HQ.out).cells3.1, (XPX.out.step HQ.out).cells3.2.1, (XPX.out.step HQ.out).cells3.2.2.1, (XPY.out.step HQ.out).cells6.1, (XPY.out.step HQ.out).cells6.2.1, (XPY.out.step HQ.out).cells6.2.2.1, (XPY.out.step HQ.out).cells6.2.2.2.1, (XPY.out.step HQ.out).cells6.2.2.2.2.1, (XPY.out.step HQ.out).cells6.2.2.2.2.2.1⟩ (fun hS' => ?_)
          clear hK K hS
          have hS := hS'
          clear hS'
          (try simp only [Act.put, List.setIfInBounds_toArray, List.set_cons_zero, List.set_cons_succ])
          refine wpAnyH_ready (rs := [3]) (by kernel_rfl) (by simp) ?_
          refine AllReadyH.cons (by simp only [List.getElem?_toArray, List.getElem?_cons_succ, List.getElem?_cons_zero]; rfl) (fun K hK => ?_) ?_
          · skip
            go_simp
            refine (ownwrite_any s0 V vn vc _ (XV.out.step HQ.out) hvc).mono ?_
            rintro e ws3 ⟨V2, vn2, vc2, rfl, ov, hb⟩
            have hsz3 := hid (show Wa5.heap.size ≤ ws3.heap.size from hb.size)
            replace P7 := hid (P7.out.step hb); replace OM := hid (OM.out.step hb); replace P8 := hid (P8.out.step hb); replace HQ := hid (below_then HQ.out hb)
            clear hb
            have OV := hid (ov.mono (show w1.heap.size ≤ _ by have := hszd.out; have := hsz0.out; have := hsz1.out; have := hsz2.out; omega))
            clear ov
            go_wp2_with fail
            refine hK.out _ _ ⟨(XPX.out.step HQ.out).cells3.1, (XPX.out.step HQ.out).cells3.2.1, (XPX.out.step HQ.out).cells3.2.2.1, (XPY.out.step HQ.out).cells6.1, (XPY.out.step HQ.out).cells6.2.1, (XPY.out.step HQ.out).cells6.2.2.1, (XPY.out.step HQ.out).cells6.2.2.2.1, (XPY.out.step HQ.out).cells6.2.2.2.2.1, (XPY.out.step HQ.out).cells6.2.2.2.2.2.1⟩ (fun hS' => ?_)
            clear hK K hS
            have hS := hS'
            clear hS'
            (try simp only [Act.put, List.setIfInBounds_toArray, List.set_cons_zero, List.set_cons_succ])
            refine wpAnyH_ready (rs := [6]) (by kernel_rfl) (by simp) ?_
            refine AllReadyH.cons (by simp only [List.getElem?_toArray, List.getElem?_cons_succ, List.getElem?_cons_zero]; rfl) (fun K hK => ?_) ?_
            · skip
              obtain ⟨y00, y01, y02, yf0⟩ := P7.out.cells3
              go_simp
              clear y00 y01 y02 yf0
              refine named_store3 P7.out ?_
              intro Ws6 hbk hgr hsz
              have hsz4 := hid hsz
              clear hsz
              replace P8 := hid (P8.out.grown hgr (fun e => P7.out.ne P8.out (by decide) (by simpa using e.symm)))
              replace OM := hid (mown_kept OM.out P7.out tm1 tm2 hgr)
              replace OV := hid (OV.out.keptG hgr (fun v hv e => OV.out.ne_blk P7.out tm1 v hv (by simpa using e)))
              replace HQ := hid (HQ.out.grown hgr HQ.out.size (fun r e => by cases e; have := hszd.out; have := hsz0.out; have := hsz1.out; have := hsz2.out; have := hsz3.out; have := hsz4.out; omega))
              replace P7 := hid hbk
              clear hbk hgr
              refine hK.out _ _ ⟨(XPX.out.step HQ.out).cells3.1, (XPX.out.step HQ.out).cells3.2.1, (XPX.out.step HQ.out).cells3.2.2.1, (XPY.out.step HQ.out).cells6.1, (XPY.out.step HQ.out).cells6.2.1, (XPY.out.step HQ.out).cells6.2.2.1, (XPY.out.step HQ.out).cells6.2.2.2.1, (XPY.out.step HQ.out).cells6.2.2.2.2.1, (XPY.out.step HQ.out).cells6.2.2.2.2.2.1⟩ (fun hS' => ?_)
              clear hK K hS
              have hS := hS'
              clear hS'
              (try simp only [Act.put, List.setIfInBounds_toArray, List.set_cons_zero, List.set_cons_succ])
              refine wpAnyH_ready (rs := [7]) (by kernel_rfl) (by simp) ?_
              refine AllReadyH.cons (by simp only [List.getElem?_toArray, List.getElem?_cons_succ, List.getElem?_cons_zero]; rfl) (fun K hK => ?_) ?_
              · skip
                obtain ⟨y00, y01, y02, y03, y04, y05, yf0⟩ := P8.out.cells6
                go_simp
                clear y00 y01 y02 y03 y04 y05 yf0
                refine named_store_6_6_0 P8.out ?_
                intro Ws7 hbk hgr hsz
                have hsz5 := hid hsz
                clear hsz
                replace P7 := hid (P7.out.grown hgr (fun e => P7.out.ne P8.out (by decide) (by simpa using e)))
                replace OM := hid (mown_kept OM.out P8.out tq1 tq2 hgr)
                replace OV := hid (OV.out.keptG hgr (fun v hv e => OV.out.ne_blk P8.out tq1 v hv (by simpa using e)))
                replace HQ := hid (HQ.out.grown hgr HQ.out.size (fun r e => by cases e; have := hszd.out; have := hsz0.out; have := hsz1.out; have := hsz2.out; have := hsz3.out; have := hsz4.out; have := hsz5.out; omega))
                replace P8 := hid hbk
                clear hbk hgr
                refine hK.out _ _ ⟨(XPX.out.step HQ.out).cells3.1, (XPX.out.step HQ.out).cells3.2.1, (XPX.out.step HQ.out).cells3.2.2.1, (XPY.out.step HQ.out).cells6.1, (XPY.out.step HQ.out).cells6.2.1, (XPY.out.step HQ.out).cells6.2.2.1, (XPY.out.step HQ.out).cells6.2.2.2.1, (XPY.out.step HQ.out).cells6.2.2.2.2.1, (XPY.out.step HQ.out).cells6.2.2.2.2.2.1⟩ (fun hS' => ?_)
                clear hK K hS
                have hS := hS'
                clear hS'
                (try simp only [Act.put, List.setIfInBounds_toArray, List.set_cons_zero, List.set_cons_succ])
                refine wpAnyH_done (by kernel_rfl) ?_ _
                refine NoPanic.normal ?_
                clear hS
                go_wp2_with fail
                go_meet
                exact ⟨_, _, rfl, rfl, ⟨⟨_, _, _, _, _, _, _, _, _, P7.out, OM.out, P8.out, OV.out, by rw [← OV.out.len]; exact List.length_take_le _ _, by rw [← OM.out.oa.len]; exact List.length_take_le _ _, by rw [← OM.out.ob.len]; exact List.length_take_le _ _⟩, HQ.out, by have := hszd.out; have := hsz0.out; have := hsz1.out; have := hsz2.out; have := hsz3.out; have := hsz4.out; have := hsz5.out; omega, by have := hszd.out; have := hsz0.out; have := hsz1.out; have := hsz2.out; have := hsz3.out; have := hsz4.out; have := hsz5.out; omega, ⟨fun y hy => HIN.out.1 y (List.mem_of_mem_take hy), HIN.out.2.1, fun v hv => HIN.out.2.2 v (List.mem_of_mem_take hv)⟩⟩⟩
              exact AllReadyH.nil
            exact AllReadyH.nil
          exact AllReadyH.nil
        exact AllReadyH.nil
      refine AllReadyH.cons (by simp only [List.getElem?_toArray, List.getElem?_cons_succ, List.getElem?_cons_zero]; rfl) (fun K hK => ?_) ?_
      · skip
        go_simp
        refine named_alloc ?_
        intro Wa5 hbk hb hsz
        have hsz1 := hid hsz
        replace P7 := hid (P7.out.step hb); replace HQ := hid (below_then HQ.out hb)
        have P8 := hid hbk
        clear hb hbk hsz
        refine hK.out _ _ ⟨(XPX.out.step HQ.out).cells3.1, (XPX.out.step HQ.out).cells3.2.1, (XPX.out.step HQ.out).cells3.2.2.1, (XPY.out.step HQ.out).cells6.1, (XPY.out.step HQ.out).cells6.2.1, (XPY.out.step HQ.out).cells6.2.2.1, (XPY.out.step HQ.out).cells6.2.2.2.1, (XPY.out.step HQ.out).cells6.2.2.2.2.1, (XPY.out.step HQ.out).cells6.2.2.2.2.2.1⟩ (fun hS' => ?_)
        clear hK K hS
        have hS := hS'
        clear hS'
        (try simp only [Act.put, List.setIfInBounds_toArray, List.set_cons_zero, List.set_cons_succ])
        refine wpAnyH_ready (rs := [1]) (by kernel_rfl) (by simp) ?_
        refine AllReadyH.cons (by simp only [List.getElem?_toArray, List.getElem?_cons_succ, List.getElem?_cons_zero]; rfl) (fun K hK => ?_) ?_
        · skip
          go_simp
          refine (lawown_any A n c B k d f xs ys _ (XX.out.step HQ.out) (XY.out.step HQ.out) hnc hkd).mono ?_
          rintro e ws1 ⟨A2, n2, c2, B2, k2, d2, rfl, om, hb⟩
          have hsz2 := hid (show Wa5.heap.size ≤ ws1.heap.size from hb.size)
          replace P7 := hid (P7.out.step hb); replace P8 := hid (P8.out.step hb); replace HQ := hid (below_then HQ.out hb)
          clear hb
          have OM := hid (om.mono (show w1.heap.size ≤ _ by have := hszd.out; have := hsz0.out; have := hsz1.out; omega))
          clear om
          go_wp2_with fail
          refine hK.out _ _ ⟨(XPX.out.step HQ.out).cells3.1, (XPX.out.step HQ.out).cells3.2.1, (XPX.out.step HQ.out).cells3.2.2.1, (XPY.out.step HQ.out).cells6.1, (XPY.out.step HQ.out).cells6.2.1, (XPY.out.step HQ.out).cells6.2.2.1, (XPY.out.step HQ.out).cells6.2.2.2.1, (XPY.out.step HQ.out).cells6.2.2.2.2.1, (XPY.out.step HQ.out).cells6.2.2.2.2.2.1⟩ (fun hS' => ?_)
          clear hK K hS
          have hS := hS'
          clear hS'
          (try simp only [Act.put, List.setIfInBounds_toArray, List.set_cons_zero, List.set_cons_succ])
          refine wpAnyH_ready (rs := [3]) (by kernel_rfl) (by simp) ?_
          refine AllReadyH.cons (by simp only [List.getElem?_toArray, List.getElem?_cons_succ, List.getElem?_cons_zero]; rfl) (fun K hK => ?_) ?_
          · skip
            go_simp
            refine (ownwrite_any s0 V vn vc _ (XV.out.step HQ.out) hvc).mono ?_
            rintro e ws3 ⟨V2, vn2, vc2, rfl, ov, hb⟩
            have hsz3 := hid (show ws1.heap.size ≤ ws3.heap.size from hb.size)
            replace P7 := hid (P7.out.step hb); replace P8 := hid (P8.out.step hb); replace OM := hid (OM.out.step hb); replace HQ := hid (below_then HQ.out hb)
            clear hb
            have OV := hid (ov.mono (show w1.heap.size ≤ _ by have := hszd.out; have := hsz0.out; have := hsz1.out; have := hsz2.out; omega))
            clear ov
            go_wp2_with fail
            refine hK.out _ _ ⟨(XPX.out.step HQ.out).cells3.1, (XPX.out.step HQ.out).cells3.2.1, (XPX.out.step HQ.out).cells3.2.2.1, (XPY.out.step HQ.out).cells6.1, (XPY.out.step HQ.out).cells6.2.1, (XPY.out.step HQ.out).cells6.2.2.1, (XPY.out.step HQ.out).cells6.2.2.2.1, (XPY.out.step HQ.out).cells6.2.2.2.2.1, (XPY.out.step HQ.out).cells6.2.2.2.2.2.1⟩ (fun hS' => ?_)
            clear hK K hS
            have hS := hS'
            clear hS'
            (try simp only [Act.put, List.setIfInBounds_toArray, List.set_cons_zero, List.set_cons_succ])
            refine wpAnyH_ready (rs := [6]) (by kernel_rfl) (by simp) ?_
            refine AllReadyH.cons (by simp only [List.getElem?_toArray, List.getElem?_cons_succ, List.getElem?_cons_zero]; rfl) (fun K hK => ?_) ?_
            · skip
              obtain ⟨y00, y01, y02, yf0⟩ := P7.out.cells3
              go_simp
              clear y00 y01 y02 yf0
              refine named_store3 P7.out ?_
              intro Ws6 hbk hgr hsz
              have hsz4 := hid hsz
              clear hsz
              replace P8 := hid (P8.out.grown hgr (fun e => P7.out.ne P8.out (by decide) (by simpa using e.symm)))
              replace OM := hid (mown_kept OM.out P7.out tm1 tm2 hgr)
              replace OV := hid (OV.out.keptG hgr (fun v hv e => OV.out.ne_blk P7.out tm1 v hv (by simpa using e)))
              replace HQ := hid (HQ.out.grown hgr HQ.out.size (fun r e => by cases e; have := hszd.out; have := hsz0.out; have := hsz1.out; have := hsz2.out; have := hsz3.out; have := hsz4.out; omega))
              replace P7 := hid hbk
              clear hbk hgr
              refine hK.out _ _ ⟨(XPX.out.step HQ.out).cells3.1, (XPX.out.step HQ.out).cells3.2.1, (XPX.out.step HQ.out).cells3.2.2.1, (XPY.out.step HQ.out).cells6.1, (XPY.out.step HQ.out).cells6.2.1, (XPY.out.step HQ.out).cells6.2.2.1, (XPY.out.step HQ.out).cells6.2.2.2.1, (XPY.out.step HQ.out).cells6.2.2.2.2.1, (XPY.out.step HQ.out).cells6.2.2.2.2.2.1⟩ (fun hS' => ?_)
              clear hK K hS
              have hS := hS'
              clear hS'
              (try simp only [Act.put, List.setIfInBounds_toArray, List.set_cons_zero, List.set_cons_succ])
              refine wpAnyH_ready (rs := [7]) (by kernel_rfl) (by simp) ?_
              refine AllReadyH.cons (by simp only [List.getElem?_toArray, List.getElem?_cons_succ, List.getElem?_cons_zero]; rfl) (fun K hK => ?_) ?_
              · skip
                obtain ⟨y00, y01, y02, y03, y04, y05, yf0⟩ := P8.out.cells6
                go_simp
                clear y00 y01 y02 y03 y04 y05 yf0
                refine named_store_6_6_0 P8.out ?_
                intro Ws7 hbk hgr hsz
                have hsz5 := hid hsz
                clear hsz
                replace P7 := hid (P7.out.grown hgr (fun e => P7.out.ne P8.out (by decide) (by simpa using e)))
                replace OM := hid (mown_kept OM.out P8.out tq1 tq2 hgr)
                replace OV := hid (OV.out.keptG hgr (fun v hv e => OV.out.ne_blk P8.out tq1 v hv (by simpa using e)))
                replace HQ := hid (HQ.out.grown hgr HQ.out.size (fun r e => by cases e; have := hszd.out; have := hsz0.out; have := hsz1.out; have := hsz2.out; have := hsz3.out; have := hsz4.out; have := hsz5.out; omega))
                replace P8 := hid hbk
                clear hbk hgr
                refine hK.out _ _ ⟨(XPX.out.step HQ.out).cells3.1, (XPX.out.step HQ.out).cells3.2.1, (XPX.out.step HQ.out).cells3.2.2.1, (XPY.out.step HQ.out).cells6.1, (XPY.out.step HQ.out).cells6.2.1, (XPY.out.step HQ.out).cells6.2.2.1, (XPY.out.step HQ.out).cells6.2.2.2.1, (XPY.out.step HQ.out).cells6.2.2.2.2.1, (XPY.out.step HQ.out).cells6.2.2.2.2.2.1⟩ (fun hS' => ?_)
                clear hK K hS
                have hS := hS'
                clear hS'
                (try simp only [Act.put, List.setIfInBounds_toArray, List.set_cons_zero, List.set_cons_succ])
                refine wpAnyH_done (by kernel_rfl) ?_ _
                refine NoPanic.normal ?_
                clear hS
                go_wp2_with fail
                go_meet
                exact ⟨_, _, rfl, rfl, ⟨⟨_, _, _, _, _, _, _, _, _, P7.out, OM.out, P8.out, OV.out, by rw [← OV.out.len]; exact List.length_take_le _ _, by rw [← OM.out.oa.len]; exact List.length_take_le _ _, by rw [← OM.out.ob.len]; exact List.length_take_le _ _⟩, HQ.out, by have := hszd.out; have := hsz0.out; have := hsz1.out; have := hsz2.out; have := hsz3.out; have := hsz4.out; have := hsz5.out; omega, by have := hszd.out; have := hsz0.out; have := hsz1.out; have := hsz2.out; have := hsz3.out; have := hsz4.out; have := hsz5.out; omega, ⟨fun y hy => HIN.out.1 y (List.mem_of_mem_take hy), HIN.out.2.1, fun v hv => HIN.out.2.2 v (List.mem_of_mem_take hv)⟩⟩⟩
              exact AllReadyH.nil
            exact AllReadyH.nil
          exact AllReadyH.nil
        exact AllReadyH.nil
      exact AllReadyH.nil
    refine AllReadyH.cons (by simp only [List.getElem?_toArray, List.getElem?_cons_succ, List.getElem?_cons_zero]; rfl) (fun K hK => ?_) ?_
    · skip
      go_simp
      refine named_alloc ?_
      intro Wa5 hbk hb hsz
      have hsz0 := hid hsz
      replace HQ := hid (below_then HQ.out hb)
      have P8 := hid hbk
      clear hb hbk hsz
      refine hK.out _ _ ⟨(XPX.out.step HQ.out).cells3.1, (XPX.out.step HQ.out).cells3.2.1, (XPX.out.step HQ.out).cells3.2.2.1, (XPY.out.step HQ.out).cells6.1, (XPY.out.step HQ.out).cells6.2.1, (XPY.out.step HQ.out).cells6.2.2.1, (XPY.out.step HQ.out).cells6.2.2.2.1, (XPY.out.step HQ.out).cells6.2.2.2.2.1, (XPY.out.step HQ.out).cells6.2.2.2.2.2.1⟩ (fun hS' => ?_)
      clear hK K hS
      have hS := hS'
      clear hS'
      (try simp only [Act.put, List.setIfInBounds_toArray, List.set_cons_zero, List.set_cons_succ])
      refine wpAnyH_ready (rs := [1, 4]) (by kernel_rfl) (by simp) ?_
      refine AllReadyH.cons (by simp only [List.getElem?_toArray, List.getElem?_cons_succ, List.getElem?_cons_zero]; rfl) (fun K hK => ?_) ?_
      · skip
        go_simp
        refine (lawown_any A n c B k d f xs ys _ (XX.out.step HQ.out) (XY.out.step HQ.out) hnc hkd).mono ?_
        rintro e ws1 ⟨A2, n2, c2, B2, k2, d2, rfl, om, hb⟩
        have hsz1 := hid (show Wa5.heap.size ≤ ws1.heap.size from hb.size)
        replace P8 := hid (P8.out.step hb); replace HQ := hid (below_then HQ.out hb)
        clear hb
        have OM := hid (om.mono (show w1.heap.size ≤ _ by have := hszd.out; have := hsz0.out; omega))
        clear om
        go_wp2_with fail
        refine hK.out _ _ ⟨(XPX.out.step HQ.out).cells3.1, (XPX.out.step HQ.out).cells3.2.1, (XPX.out.step HQ.out).cells3.2.2.1, (XPY.out.step HQ.out).cells6.1, (XPY.out.step HQ.out).cells6.2.1, (XPY.out.step HQ.out).cells6.2.2.1, (XPY.out.step HQ.out).cells6.2.2.2.1, (XPY.out.step HQ.out).cells6.2.2.2.2.1, (XPY.out.step HQ.out).cells6.2.2.2.2.2.1⟩ (fun hS' => ?_)
        clear hK K hS
        have hS := hS'
        clear hS'
        (try simp only [Act.put, List.setIfInBounds_toArray, List.set_cons_zero, List.set_cons_succ])
        refine wpAnyH_ready (rs := [3, 4]) (by kernel_rfl) (by simp) ?_
        refine AllReadyH.cons (by simp only [List.getElem?_toArray, List.getElem?_cons_succ, List.getElem?_cons_zero]; rfl) (fun K hK => ?_) ?_
        · skip
          go_simp
          refine (ownwrite_any s0 V vn vc _ (XV.out.step HQ.out) hvc).mono ?_
          rintro e ws3 ⟨V2, vn2, vc2, rfl, ov, hb⟩
          have hsz2 := hid (show ws1.heap.size ≤ ws3.heap.size from hb.size)
          replace P8 := hid (P8.out.step hb); replace OM := hid (OM.out.step hb); replace HQ := hid (below_then HQ.out hb)
          clear hb
          have OV := hid (ov.mono (show w1.heap.size ≤ _ by have := hszd.out; have := hsz0.out; have := hsz1.out; omega))
          clear ov
          go_wp2_with fail
          refine hK.out _ _ ⟨(XPX.out.step HQ.out).cells3.1, (XPX.out.step HQ.out).cells3.2.1, (XPX.out.step HQ.out).cells3.2.2.1, (XPY.out.step HQ.out).cells6.1, (XPY.out.step HQ.out).cells6.2.1, (XPY.out.step HQ.out).cells6.2.2.1, (XPY.out.step HQ.out).cells6.2.2.2.1, (XPY.out.step HQ.out).cells6.2.2.2.2.1, (XPY.out.step HQ.out).cells6.2.2.2.2.2.1⟩ (fun hS' => ?_)
          clear hK K hS
          have hS := hS'
          clear hS'
          (try simp only [Act.put, List.setIfInBounds_toArray, List.set_cons_zero, List.set_cons_succ])
          refine wpAnyH_ready (rs := [4]) (by kernel_rfl) (by simp) ?_
          refine AllReadyH.cons (by simp only [List.getElem?_toArray, List.getElem?_cons_succ, List.getElem?_cons_zero]; rfl) (fun K hK => ?_) ?_
          · skip
            go_simp
            refine named_alloc ?_
            intro Wa4 hbk hb hsz
            have hsz3 := hid hsz
            replace P8 := hid (P8.out.step hb); replace OM := hid (OM.out.step hb); replace OV := hid (OV.out.step hb); replace HQ := hid (below_then HQ.out hb)
            have P7 := hid hbk
            clear hb hbk hsz
            refine hK.out _ _ ⟨(XPX.out.step HQ.out).cells3.1, (XPX.out.step HQ.out).cells3.2.1, (XPX.out.step HQ.out).cells3.2.2.1, (XPY.out.step HQ.out).cells6.1, (XPY.out.step HQ.out).cells6.2.1, (XPY.out.step HQ.out).cells6.2.2.1, (XPY.out.step HQ.out).cells6.2.2.2.1, (XPY.out.step HQ.out).cells6.2.2.2.2.1, (XPY.out.step HQ.out).cells6.2.2.2.2.2.1⟩ (fun hS' => ?_)
            clear hK K hS
            have hS := hS'
            clear hS'
            (try simp only [Act.put, List.setIfInBounds_toArray, List.set_cons_zero, List.set_cons_succ])
            refine wpAnyH_ready (rs := [6]) (by kernel_rfl) (by simp) ?_
            refine AllReadyH.cons (by simp only [List.getElem?_toArray, List.getElem?_cons_succ, List.getElem?_cons_zero]; rfl) (fun K hK => ?_) ?_
            · skip
              obtain ⟨y00, y01, y02, yf0⟩ := P7.out.cells3
              go_simp
              clear y00 y01 y02 yf0
              refine named_store3 P7.out ?_
              intro Ws6 hbk hgr hsz
              have hsz4 := hid hsz
              clear hsz
              replace P8 := hid (P8.out.grown hgr (fun e => P7.out.ne P8.out (by decide) (by simpa using e.symm)))
              replace OM := hid (mown_kept OM.out P7.out tm1 tm2 hgr)
              replace OV := hid (OV.out.keptG hgr (fun v hv e => OV.out.ne_blk P7.out tm1 v hv (by simpa using e)))
              replace HQ := hid (HQ.out.grown hgr HQ.out.size (fun r e => by cases e; have := hszd.out; have := hsz0.out; have := hsz1.out; have := hsz2.out; have := hsz3.out; have := hsz4.out; omega))
              replace P7 := hid hbk
              clear hbk hgr
              refine hK.out _ _ ⟨(XPX.out.step HQ.out).cells3.1, (XPX.out.step HQ.out).cells3.2.1, (XPX.out.step HQ.out).cells3.2.2.1, (XPY.out.step HQ.out).cells6.1, (XPY.out.step HQ.out).cells6.2.1, (XPY.out.step HQ.out).cells6.2.2.1, (XPY.out.step HQ.out).cells6.2.2.2.1, (XPY.out.step HQ.out).cells6.2.2.2.2.1, (XPY.out.step HQ.out).cells6.2.2.2.2.2.1⟩ (fun hS' => ?_)
              clear hK K hS
              have hS := hS'
              clear hS'
              (try simp only [Act.put, List.setIfInBounds_toArray, List.set_cons_zero, List.set_cons_succ])
              refine wpAnyH_ready (rs := [7]) (by kernel_rfl) (by simp) ?_
              refine AllReadyH.cons (by simp only [List.getElem?_toArray, List.getElem?_cons_succ, List.getElem?_cons_zero]; rfl) (fun K hK => ?_) ?_
              · skip
                obtain ⟨y00, y01, y02, y03, y04, y05, yf0⟩ := P8.out.cells6
                go_simp
                clear y00 y01 y02 y03 y04 y05 yf0
                refine named_store_6_6_0 P8.out ?_
                intro Ws7 hbk hgr hsz
                have hsz5 := hid hsz
                clear hsz
                replace P7 := hid (P7.out.grown hgr (fun e => P7.out.ne P8.out (by decide) (by simpa using e)))
                replace OM := hid (mown_kept OM.out P8.out tq1 tq2 hgr)
                replace OV := hid (OV.out.keptG hgr (fun v hv e => OV.out.ne_blk P8.out tq1 v hv (by simpa using e)))
                replace HQ := hid (HQ.out.grown hgr HQ.out.size (fun r e => by cases e; have := hszd.out; have := hsz0.out; have := hsz1.out; have := hsz2.out; have := hsz3.out; have := hsz4.out; have := hsz5.out; omega))
                replace P8 := hid hbk
                clear hbk hgr
                refine hK.out _ _ ⟨(XPX.out.step HQ.out).cells3.1, (XPX.out.step HQ.out).cells3.2.1, (XPX.out.step HQ.out).cells3.2.2.1, (XPY.out.step HQ.out).cells6.1, (XPY.out.step HQ.out).cells6.2.1, (XPY.out.step HQ.out).cells6.2.2.1, (XPY.out.step HQ.out).cells6.2.2.2.1, (XPY.out.step HQ.out).cells6.2.2.2.2.1, (XPY.out.step HQ.out).cells6.2.2.2.2.2.1⟩ (fun hS' => ?_)
                clear hK K hS
                have hS := hS'
                clear hS'
                (try simp only [Act.put, List.setIfInBounds_toArray, List.set_cons_zero, List.set_cons_succ])
                refine wpAnyH_done (by kernel_rfl) ?_ _
                refine NoPanic.normal ?_
                clear hS
                go_wp2_with fail
                go_meet
                exact ⟨_, _, rfl, rfl, ⟨⟨_, _, _, _, _, _, _, _, _, P7.out, OM.out, P8.out, OV.out, by rw [← OV.out.len]; exact List.length_take_le _ _, by rw [← OM.out.oa.len]; exact List.length_take_le _ _, by rw [← OM.out.ob.len]; exact List.length_take_le _ _⟩, HQ.out, by have := hszd.out; have := hsz0.out; have := hsz1.out; have := hsz2.out; have := hsz3.out; have := hsz4.out; have := hsz5.out; omega, by have := hszd.out; have := hsz0.out; have := hsz1.out; have := hsz2.out; have := hsz3.out; have := hsz4.out; have := hsz5.out; omega, ⟨fun y hy => HIN.out.1 y (List.mem_of_mem_take hy), HIN.out.2.1, fun v hv => HIN.out.2.2 v (List.mem_of_mem_take hv)⟩⟩⟩
              exact AllReadyH.nil
            exact AllReadyH.nil
          exact AllReadyH.nil
        refine AllReadyH.cons (by simp only [List.getElem?_toArray, List.getElem?_cons_succ, List.getElem?_cons_zero]; rfl) (fun K hK => ?_) ?_
        · skip
          go_simp
          refine named_alloc ?_
          intro Wa4 hbk hb hsz
          have hsz2 := hid hsz
          replace P8 := hid (P8.out.step hb); replace OM := hid (OM.out.step hb); replace HQ := hid (below_then HQ.out hb)
          have P7 := hid hbk
          clear hb hbk hsz
          refine hK.out _ _ ⟨(XPX.out.step HQ.out).cells3.1, (XPX.out.step HQ.out).cells3.2.1, (XPX.out.step HQ.out).cells3.2.2.1, (XPY.out.step HQ.out).cells6.1, (XPY.out.step HQ.out).cells6.2.1, (XPY.out.step HQ.out).cells6.2.2.1, (XPY.out.step HQ.out).cells6.2.2.2.1, (XPY.out.step HQ.out).cells6.2.2.2.2.1, (XPY.out.step HQ.out).cells6.2.2.2.2.2.1⟩ (fun hS' => ?_)
          clear hK K hS
          have hS := hS'
          clear hS'
          (try simp only [Act.put, List.setIfInBounds_toArray, List.set_cons_zero, List.set_cons_succ])
          refine wpAnyH_ready (rs := [3]) (by kernel_rfl) (by simp) ?_
          refine AllReadyH.cons (by simp only [List.getElem?_toArray, List.getElem?_cons_succ, List.getElem?_cons_zero]; rfl) (fun K hK => ?_) ?_
          · skip
            go_simp
            refine (ownwrite_any s0 V vn vc _ (XV.out.step HQ.out) hvc).mono ?_
            rintro e ws3 ⟨V2, vn2, vc2, rfl, ov, hb⟩
            have hsz3 := hid (show Wa4.heap.size ≤ ws3.heap.size from hb.size)
            replace P8 := hid (P8.out.step hb); replace OM := hid (OM.out.step hb); replace P7 := hid (P7.out.step hb); replace HQ := hid (below_then HQ.out hb)
            clear hb
            have OV := hid (ov.mono (show w1.heap.size ≤ _ by have := hszd.out; have := hsz0.out; have := hsz1.out; have := hsz2.out; omega))
            clear ov
            go_wp2_with fail
            refine hK.out _ _ ⟨(XPX.out.step HQ.out).cells3.1, (XPX.out.step HQ.out).cells3.2.1, (XPX.out.step HQ.out).cells3.2.2.1, (XPY.out.step HQ.out).cells6.1, (XPY.out.step HQ.out).cells6.2.1, (XPY.out.step HQ.out).cells6.2.2.1, (XPY.out.step HQ.out).cells6.2.2.2.1, (XPY.out.step HQ.out).cells6.2.2.2.2.1, (XPY.out.step HQ.out).cells6.2.2.2.2.2.1⟩ (fun hS' => ?_)
            clear hK K hS
            have hS := hS'
            clear hS'
            (try simp only [Act.put, List.setIfInBounds_toArray, List.set_cons_zero, List.set_cons_succ])
            refine wpAnyH_ready (rs := [6]) (by kernel_rfl) (by simp) ?_
            refine AllReadyH.cons (by simp only [List.getElem?_toArray, List.getElem?_cons_succ, List.getElem?_cons_zero]; rfl) (fun K hK => ?_) ?_
            · skip
              obtain ⟨y00, y01, y02, yf0⟩ := P7.out.cells3
              go_simp
              clear y00 y01 y02 yf0
              refine named_store3 P7.out ?_
              intro Ws6 hbk hgr hsz
              have hsz4 := hid hsz
              clear hsz
              replace P8 := hid (P8.out.grown hgr (fun e => P7.out.ne P8.out (by decide) (by simpa using e.symm)))
              replace OM := hid (mown_kept OM.out P7.out tm1 tm2 hgr)
              replace OV := hid (OV.out.keptG hgr (fun v hv e => OV.out.ne_blk P7.out tm1 v hv (by simpa using e)))
              replace HQ := hid (HQ.out.grown hgr HQ.out.size (fun r e => by cases e; have := hszd.out; have := hsz0.out; have := hsz1.out; have := hsz2.out; have := hsz3.out; have := hsz4.out; omega))
              replace P7 := hid hbk
              clear hbk hgr
              refine hK.out _ _ ⟨(XPX.out.step HQ.out).cells3.1, (XPX.out.step HQ.out).cells3.2.1, (XPX.out.step HQ.out).cells3.2.2.1, (XPY.out.step HQ.out).cells6.1, (XPY.out.step HQ.out).cells6.2.1, (XPY.out.step HQ.out).cells6.2.2.1, (XPY.out.step HQ.out).cells6.2.2.2.1, (XPY.out.step HQ.out).cells6.2.2.2.2.1, (XPY.out.step HQ.out).cells6.2.2.2.2.2.1⟩ (fun hS' => ?_)
              clear hK K hS
              have hS := hS'
              clear hS'
              (try simp only [Act.put, List.setIfInBounds_toArray, List.set_cons_zero, List.set_cons_succ])
              refine wpAnyH_ready (rs := [7]) (by kernel_rfl) (by simp) ?_
              refine AllReadyH.cons (by simp only [List.getElem?_toArray, List.getElem?_cons_succ, List.getElem?_cons_zero]; rfl) (fun K hK => ?_) ?_
              · skip
                obtain ⟨y00, y01, y02, y03, y04, y05, yf0⟩ := P8.out.cells6
                go_simp
                clear y00 y01 y02 y03 y04 y05 yf0
                refine named_store_6_6_0 P8.out ?_
                intro Ws7 hbk hgr hsz
                have hsz5 := hid hsz
                clear hsz
                replace P7 := hid (P7.out.grown hgr (fun e => P7.out.ne P8.out (by decide) (by simpa using e)))
                replace OM := hid (mown_kept OM.out P8.out tq1 tq2 hgr)
                replace OV := hid (OV.out.keptG hgr (fun v hv e => OV.out.ne_blk P8.out tq1 v hv (by simpa using e)))
                replace HQ := hid (HQ.out.grown hgr HQ.out.size (fun r e => by cases e; have := hszd.out; have := hsz0.out; have := hsz1.out; have := hsz2.out; have := hsz3.out; have := hsz4.out; have := hsz5.out; omega))
                replace P8 := hid hbk
                clear hbk hgr
                refine hK.out _ _ ⟨(XPX.out.step HQ.out).cells3.1, (XPX.out.step HQ.out).cells3.2.1, (XPX.out.step HQ.out).cells3.2.2.1, (XPY.out.step HQ.out).cells6.1, (XPY.out.step HQ.out).cells6.2.1, (XPY.out.step HQ.out).cells6.2.2.1, (XPY.out.step HQ.out).cells6.2.2.2.1, (XPY.out.step HQ.out).cells6.2.2.2.2.1, (XPY.out.step HQ.out).cells6.2.2.2.2.2.1⟩ (fun hS' => ?_)
                clear hK K hS
                have hS := hS'
                clear hS'
                (try simp only [Act.put, List.setIfInBounds_toArray, List.set_cons_zero, List.set_cons_succ])
                refine wpAnyH_done (by kernel_rfl) ?_ _
                refine NoPanic.normal ?_
                clear hS
                go_wp2_with fail
                go_meet
                exact ⟨_, _, rfl, rfl, ⟨⟨_, _, _, _, _, _, _, _, _, P7.out, OM.out, P8.out, OV.out, by rw [← OV.out.len]; exact List.length_take_le _ _, by rw [← OM.out.oa.len]; exact List.length_take_le _ _, by rw [← OM.out.ob.len]; exact List.length_take_le _ _⟩, HQ.out, by have := hszd.out; have := hsz0.out; have := hsz1.out; have := hsz2.out; have := hsz3.out; have := hsz4.out; have := hsz5.out; omega, by have := hszd.out; have := hsz0.out; have := hsz1.out; have := hsz2.out; have := hsz3.out; have := hsz4.out; have := hsz5.out; omega, ⟨fun y hy => HIN.out.1 y (List.mem_of_mem_take hy), HIN.out.2.1, fun v hv => HIN.out.2.2 v (List.mem_of_mem_take hv)⟩⟩⟩
              exact AllReadyH.nil
            exact AllReadyH.nil
          exact AllReadyH.nil
        exact AllReadyH.nil
      refine AllReadyH.cons (by simp only [List.getElem?_toArray, List.getElem?_cons_succ, List.getElem?_cons_zero]; rfl) (fun K hK => ?_) ?_
      · skip
        go_simp
        refine named_alloc ?_
        intro Wa4 hbk hb hsz
        have hsz1 := hid hsz
        replace P8 := hid (P8.out.step hb); replace HQ := hid (below_then HQ.out hb)
        have P7 := hid hbk
        clear hb hbk hsz
        refine hK.out _ _ ⟨(XPX.out.step HQ.out).cells3.1, (XPX.out.step HQ.out).cells3.2.1, (XPX.out.step HQ.out).cells3.2.2.1, (XPY.out.step HQ.out).cells6.1, (XPY.out.step HQ.out).cells6.2.1, (XPY.out.step HQ.out).cells6.2.2.1, (XPY.out.step HQ.out).cells6.2.2.2.1, (XPY.out.step HQ.out).cells6.2.2.2.2.1, (XPY.out.step HQ.out).cells6.2.2.2.2.2.1⟩ (fun hS' => ?_)
        clear hK K hS
        have hS := hS'
        clear hS'
        (try simp only [Act.put, List.setIfInBounds_toArray, List.set_cons_zero, List.set_cons_succ])
        refine wpAnyH_ready (rs := [1]) (by kernel_rfl) (by simp) ?_
        refine AllReadyH.cons (by simp only [List.getElem?_toArray, List.getElem?_cons_succ, List.getElem?_cons_zero]; rfl) (fun K hK => ?_) ?_
        · skip
          go_simp
          refine (lawown_any A n c B k d f xs ys _ (XX.out.step HQ.out) (XY.out.step HQ.out) hnc hkd).mono ?_
          rintro e ws1 ⟨A2, n2, c2, B2, k2, d2, rfl, om, hb⟩
          have hsz2 := hid (show Wa4.heap.size ≤ ws1.heap.size from hb.size)
          replace P8 := hid (P8.out.step hb); replace P7 := hid (P7.out.step hb); replace HQ := hid (below_then HQ.out hb)
          clear hb
          have OM := hid (om.mono (show w1.heap.size ≤ _ by have := hszd.out; have := hsz0.out; have := hsz1.out; omega))
          clear om
          go_wp2_with fail
          refine hK.out _ _ ⟨(XPX.out.step HQ.out).cells3.1, (XPX.out.step HQ.out).cells3.2.1, (XPX.out.step HQ.out).cells3.2.2.1, (XPY.out.step HQ.out).cells6.1, (XPY.out.step HQ.out).cells6.2.1, (XPY.out.step HQ.out).cells6.2.2.1, (XPY.out.step HQ.out).cells6.2.2.2.1, (XPY.out.step HQ.out).cells6.2.2.2.2.1, (XPY.out.step HQ.out).cells6.2.2.2.2.2.1⟩ (fun hS' => ?_)
          clear hK K hS
          have hS := hS'
          clear hS'
          (try simp only [Act.put, List.setIfInBounds_toArray, List.set_cons_zero, List.set_cons_succ])
          refine wpAnyH_ready (rs := [3]) (by kernel_rfl) (by simp) ?_
          refine AllReadyH.cons (by simp only [List.getElem?_toArray, List.getElem?_cons_succ, List.getElem?_cons_zero]; rfl) (fun K hK => ?_) ?_
          · skip
            go_simp
            refine (ownwrite_any s0 V vn vc _ (XV.out.step HQ.out) hvc).mono ?_
            rintro e ws3 ⟨V2, vn2, vc2, rfl, ov, hb⟩
            have hsz3 := hid (show ws1.heap.size ≤ ws3.heap.size from hb.size)
            replace P8 := hid (P8.out.step hb); replace P7 := hid (P7.out.step hb); replace OM := hid (OM.out.step hb); replace HQ := hid (below_then HQ.out hb)
            clear hb
            have OV := hid (ov.mono (show w1.heap.size ≤ _ by have := hszd.out; have := hsz0.out; have := hsz1.out; have := hsz2.out; omega))
            clear ov
            go_wp2_with fail
            refine hK.out _ _ ⟨(XPX.out.step HQ.out).cells3.1, (XPX.out.step HQ.out).cells3.2.1, (XPX.out.step HQ.out).cells3.2.2.1, (XPY.out.step HQ.out).cells6.1, (XPY.out.step HQ.out).cells6.2.1, (XPY.out.step HQ.out).cells6.2.2.1, (XPY.out.step HQ.out).cells6.2.2.2.1, (XPY.out.step HQ.out).cells6.2.2.2.2.1, (XPY.out.step HQ.out).cells6.2.2.2.2.2.1⟩ (fun hS' => ?_)
            clear hK K hS
            have hS := hS'
            clear hS'
            (try simp only [Act.put, List.setIfInBounds_toArray, List.set_cons_zero, List.set_cons_succ])
            refine wpAnyH_ready (rs := [6]) (by kernel_rfl) (by simp) ?_
            refine AllReadyH.cons (by simp only [List.getElem?_toArray, List.getElem?_cons_succ, List.getElem?_cons_zero]; rfl) (fun K hK => ?_) ?_
            · skip
              obtain ⟨y00, y01, y02, yf0⟩ := P7.out.cells3
              go_simp
              clear y00 y01 y02 yf0
              refine named_store3 P7.out ?_
              intro Ws6 hbk hgr hsz
              have hsz4 := hid hsz
              clear hsz
              replace P8 := hid (P8.out.grown hgr (fun e => P7.out.ne P8.out (by decide) (by simpa using e.symm)))
              replace OM := hid (mown_kept OM.out P7.out tm1 tm2 hgr)
              replace OV := hid (OV.out.keptG hgr (fun v hv e => OV.out.ne_blk P7.out tm1 v hv (by simpa using e)))
              replace HQ := hid (HQ.out.grown hgr HQ.out.size (fun r e => by cases e; have := hszd.out; have := hsz0.out; have := hsz1.out; have := hsz2.out; have := hsz3.out; have := hsz4.out; omega))
              replace P7 := hid hbk
              clear hbk hgr
              refine hK.out _ _ ⟨(XPX.out.step HQ.out).cells3.1, (XPX.out.step HQ.out).cells3.2.1, (XPX.out.step HQ.out).cells3.2.2.1, (XPY.out.step HQ.out).cells6.1, (XPY.out.step HQ.out).cells6.2.1, (XPY.out.step HQ.out).cells6.2.2.1, (XPY.out.step HQ.out).cells6.2.2.2.1, (XPY.out.step HQ.out).cells6.2.2.2.2.1, (XPY.out.step HQ.out).cells6.2.2.2.2.2.1⟩ (fun hS' => ?_)
              clear hK K hS
              have hS := hS'
              clear hS'
              (try simp only [Act.put, List.setIfInBounds_toArray, List.set_cons_zero, List.set_cons_succ])
              refine wpAnyH_ready (rs := [7]) (by kernel_rfl) (by simp) ?_
              refine AllReadyH.cons (by simp only [List.getElem?_toArray, List.getElem?_cons_succ, List.getElem?_cons_zero]; rfl) (fun K hK => ?_) ?_
              · skip
                obtain ⟨y00, y01, y02, y03, y04, y05, yf0⟩ := P8.out.cells6
                go_simp
                clear y00 y01 y02 y03 y04 y05 yf0
                refine named_store_6_6_0 P8.out ?_
                intro Ws7 hbk hgr hsz
                have hsz5 := hid hsz
                clear hsz
                replace P7 := hid (P7.out.grown hgr (fun e => P7.out.ne P8.out (by decide) (by simpa using e)))
                replace OM := hid (mown_kept OM.out P8.out tq1 tq2 hgr)
                replace OV := hid (OV.out.keptG hgr (fun v hv e => OV.out.ne_blk P8.out tq1 v hv (by simpa using e)))
                replace HQ := hid (HQ.out.grown hgr HQ.out.size (fun r e => by cases e; have := hszd.out; have := hsz0.out; have := hsz1.out; have := hsz2.out; have := hsz3.out; have := hsz4.out; have := hsz5.out; omega))
                replace P8 := hid hbk
                clear hbk hgr
                refine hK.out _ _ ⟨(XPX.out.step HQ.out).cells3.1, (XPX.out.step HQ.out).cells3.2.1, (XPX.out.step HQ.out).cells3.2.2.1, (XPY.out.step HQ.out).cells6.1, (XPY.out.step HQ.out).cells6.2.1, (XPY.out.step HQ.out).cells6.2.2.1, (XPY.out.step HQ.out).cells6.2.2.2.1, (XPY.out.step HQ.out).cells6.2.2.2.2.1, (XPY.out.step HQ.out).cells6.2.2.2.2.2.1⟩ (fun hS' => ?_)
                clear hK K hS
                have hS := hS'
                clear hS'
                (try simp only [Act.put, List.setIfInBounds_toArray, List.set_cons_zero, List.set_cons_succ])
                refine wpAnyH_done (by kernel_rfl) ?_ _
                refine NoPanic.normal ?_
                clear hS
                go_wp2_with fail
                go_meet
                exact ⟨_, _, rfl, rfl, ⟨⟨_, _, _, _, _, _, _, _, _, P7.out, OM.out, P8.out, OV.out, by rw [← OV.out.len]; exact List.length_take_le _ _, by rw [← OM.out.oa.len]; exact List.length_take_le _ _, by rw [← OM.out.ob.len]; exact List.length_take_le _ _⟩, HQ.out, by have := hszd.out; have := hsz0.out; have := hsz1.out; have := hsz2.out; have := hsz3.out; have := hsz4.out; have := hsz5.out; omega, by have := hszd.out; have := hsz0.out; have := hsz1.out; have := hsz2.out; have := hsz3.out; have := hsz4.out; have := hsz5.out; omega, ⟨fun y hy => HIN.out.1 y (List.mem_of_mem_take hy), HIN.out.2.1, fun v hv => HIN.out.2.2 v (List.mem_of_mem_take hv)⟩⟩⟩
              exact AllReadyH.nil
            exact AllReadyH.nil
          exact AllReadyH.nil
        exact AllReadyH.nil
      exact AllReadyH.nil
    exact AllReadyH.nil
  case rest =>
    obtain ⟨g7, g8, rfl, rfl, hmid⟩ := hcut
    rename World => W2
    clear HQ XX XY XV XPX XPY HX HY HV PX PY
    have hl7 := hid hmid.l7; have hl8 := hid hmid.l8; have hwb := hid HB.out.size
    have HM := hid hmid
    obtain ⟨⟨A0, n0, c0, B0, k0, d0, V0, vn0, vc0, _, _, h3, h4, hvn0, _⟩, h5, _, _, hinn⟩ := hmid
    have P8 := hid h3; have OV := hid h4; have HB2 := hid (below_then HB.out h5); have HI0 := hid hinn
    have H2 := hid (Below.refl W2.heap.size W2)
    clear h3 h4 h5 hinn
    obtain ⟨okb, hokb⟩ : ∃ b, b = decide (WrOk (cutW s0).a (cutW s0).f vn0 (cutW s0).ph (cutW s0).bg (cutW s0).wr) := ⟨_, rfl⟩
    have HOKB := hid hokb
    obtain ⟨eo, heo⟩ : ∃ x : Int, x = if okb = true then 0 else 160 := ⟨_, rfl⟩
    have HEO := hid heo
    clear hokb heo
    go_upto_region 4 with fail
    go_cut [7] (fun sx wx => sx = .int .i64 eo ∧ Below W2.heap.size W2 wx)
    case first =>
      obtain ⟨y00, y01, y02, y03, y04, y05, yf0⟩ := P8.out.cells6
      go_wp2_with fail
      clear y00 y01 y02 y03 y04 y05 yf0
      refine (scheckwrite_any (cutW s0).a (cutW s0).f V0 vn0 vc0 (cutW s0).ph (cutW s0).bg (cutW s0).wr (cutW s0).vs W2 (OV.out.sl.mono (Nat.zero_le _) (Nat.le_refl _)) (by omega)).mono ?_
      rw [← HOKB.out]
      rintro e W3 ⟨he, hb⟩
      rw [← HEO.out] at he
      subst he
      replace P8 := hid (P8.out.step hb); replace OV := hid (OV.out.step hb); replace HB2 := hid (below_then HB2.out hb); replace H2 := hid (below_then H2.out hb)
      clear hb
      go_wp2_with fail
      go_meet
      exact ⟨rfl, H2.out⟩
    case rest =>
      obtain ⟨rfl, hb⟩ := hcut
      rename World => W3
      have H23 := hid hb
      replace P8 := hid (P8.out.step hb); replace OV := hid (OV.out.step hb); replace HB2 := hid (below_then HB2.out hb); replace H2 := hid (below_then H2.out hb)
      clear hb H2
      go_upto_region 5 with fail
      have H2 := hid (Below.refl W3.heap.size W3)
      go_cut [35] (fun sx wx => sx = .bool false ∧ Below W3.heap.size W3 wx)
      case first =>
        obtain ⟨y00, y01, y02, y03, y04, y05, yf0⟩ := P8.out.cells6
        go_wp2_with fail
        clear y00 y01 y02 y03 y04 y05 yf0
        refine (rrightwrite_any (cutW s0).a (cutW s0).f V0 vn0 vc0 (cutW s0).ph (cutW s0).bg (cutW s0).wr _ HI0.out.2.1 (by omega)).mono ?_
        rw [← HOKB.out]
        rintro e W4 ⟨rfl, hb⟩
        replace P8 := hid (P8.out.step hb); replace OV := hid (OV.out.step hb); replace HB2 := hid (below_then HB2.out hb); replace H2 := hid (below_then H2.out hb)
        clear hb
        cases okb
        · obtain rfl : eo = 160 := HEO.out
          go_wp2_with fail
          go_meet
          exact ⟨rfl, H2.out⟩
        · obtain rfl : eo = 0 := HEO.out
          go_wp2_with fail
          go_meet
          exact ⟨rfl, H2.out⟩
      case rest =>
        obtain ⟨rfl, hb⟩ := hcut
        rename World => W4
        clear H2
        skip
        have HM4 := hid (HM.out.step (below_then H23.out hb))
        clear hb P8 OV HB2 HM HI0 HOKB
        go_wp2_with fail
        go_loopw [36] (fun i wr => ∃ j : Nat, j ≤ 6 ∧ i = .int .i64 j ∧ ∃ m s, QMw w1 wr g7 g8 m s) (fun i _ => 6 - (intOf i).toNat)
        case atStart => exact ⟨0, Nat.zero_le _, rfl, _, _, HM4.out⟩
        case round =>
          clear HM4
          obtain ⟨j, hj, rfl, m, s, hI⟩ := hrel
          obtain ⟨⟨A1, n1, c1, B1, k1, d1, V1, vn1, vc1, h1, h2, h3, h4, h5, h7, h8⟩, h6, _, _, h9⟩ := hI
          have P7 := hid h1; have OM := hid h2; have P8 := hid h3; have OV := hid h4; have hvn1 := hid h5; have HQ := hid h6; have HIN := hid h9; have hn48 := hid h7; have hk48 := hid h8
          replace HB := hid (below_then HB.out h6)
          clear h1 h2 h3 h4 h5 h6 h7 h8 h9
          by_cases hjn : j < 6
          rotate_left
          · obtain rfl : j = 6 := by omega
            go_wp2
            go_ret
            exact ⟨rfl, HB.out⟩
          have hji : (j : Int) < 6 := by omega
          obtain ⟨y00, y01, y02, yf0⟩ := P7.out.cells3
          obtain ⟨y10, y11, y12, y13, y14, y15, yf1⟩ := P8.out.cells6
          go_wp2_with fail
          clear y00 y01 y02 yf0 y10 y11 y12 y13 y14 y15 yf1
          obtain ⟨⟨co, m2, s2⟩, hr⟩ : ∃ x, x = swriteC m s := ⟨_, rfl⟩
          have HR := hid hr
          refine (apiwrite_any A1 n1 c1 B1 k1 d1 m s V1 vn1 vc1 _ OM.out.mem (OV.out.sl.mono (Nat.zero_le _) (Nat.le_refl _)) (by have := hvn1.out; omega)).mono ?_
          rw [← hr]
          rintro e w3 ⟨A3, n3, c3, B3, k3, d3, V3, vn3, vc3, rfl, om, ov, hfar, hb⟩
          dsimp only at om ov
          have hs3 := hid HQ.out.size
          have HFAR := hid hfar
          have HV3 := hid (show ∀ r, (Value.slice V3 vn3 vc3).ownBlock = some r → r < w3.heap.size from fun r hr => by obtain ⟨a, ha, hk⟩ := own_addr hr; obtain ⟨_, cs, hbb⟩ := ov.blk a ha; have := hbb.lt; omega)
          have h7s := hid (Nat.lt_of_lt_of_le P7.out.lt hb.size); have h8s := hid (Nat.lt_of_lt_of_le P8.out.lt hb.size)
          replace P7 := hid (P7.out.step hb); replace OM := hid (OM.out.step hb); replace P8 := hid (P8.out.step hb); replace OV := hid (OV.out.step hb); replace HB := hid (below_then HB.out hb); replace HQ := hid (below_then HQ.out hb)
          have OM3 := hid (om.mono (show w1.heap.size ≤ _ from hs3.out)); have OV3 := hid (ov.mono (show w1.heap.size ≤ _ from hs3.out))
          clear om ov hb hr hfar
          have bx := below_box w3 (.cells (mcs A3 n3 c3 B3 k3 d3 m2.2.2) 44)
          replace P7 := hid (P7.out.step bx); replace OM := hid (OM.out.step bx); replace P8 := hid (P8.out.step bx); replace OV := hid (OV.out.step bx); replace OM3 := hid (OM3.out.step bx); replace OV3 := hid (OV3.out.step bx); replace HB := hid (below_then HB.out bx); replace HQ := hid (below_then HQ.out bx)
          clear bx
          have PN := hid (Blk.new w3 44 (mcs A3 n3 c3 B3 k3 d3 m2.2.2))
          have bx := below_box (w3.alloc (.cells (mcs A3 n3 c3 B3 k3 d3 m2.2.2) 44)) (.cells (wrc s2.a s2.f V3 vn3 vc3 s2.ph s2.bg s2.wr) 34)
          replace P7 := hid (P7.out.step bx); replace OM := hid (OM.out.step bx); replace P8 := hid (P8.out.step bx); replace OV := hid (OV.out.step bx); replace OM3 := hid (OM3.out.step bx); replace OV3 := hid (OV3.out.step bx); replace PN := hid (PN.out.step bx); replace HB := hid (below_then HB.out bx); replace HQ := hid (below_then HQ.out bx)
          clear bx
          have PT := hid (Blk.new2 w3 34 (wrc s2.a s2.f V3 vn3 vc3 s2.ph s2.bg s2.wr) (.cells (mcs A3 n3 c3 B3 k3 d3 m2.2.2) 44))
          go_upto_region 10 with fail
          have hz4 := hid (show ((w3.alloc (.cells (mcs A3 n3 c3 B3 k3 d3 m2.2.2) 44)).alloc (.cells (wrc s2.a s2.f V3 vn3 vc3 s2.ph s2.bg s2.wr) 34)).heap.size = w3.heap.size + 2 by simp)
          generalize (w3.alloc (.cells (mcs A3 n3 c3 B3 k3 d3 m2.2.2) 44)).alloc (.cells (wrc s2.a s2.f V3 vn3 vc3 s2.ph s2.bg s2.wr) 34) = W4 at *
          have H4 := hid (Below.refl W4.heap.size W4)
          have XP7 := P7; have XOM := OM; have XP8 := P8; have XOV := OV; have XPN := PN; have XPT := PT; have XOM3 := OM3; have XOV3 := OV3; have XHB := HB; have XHQ := HQ
          have bx := below_box W4 (.cells (mcs none 0 0 none 0 0 false) 44)
          replace P7 := hid (P7.out.step bx); replace OM := hid (OM.out.step bx); replace P8 := hid (P8.out.step bx); replace OV := hid (OV.out.step bx); replace OM3 := hid (OM3.out.step bx); replace OV3 := hid (OV3.out.step bx); replace PN := hid (PN.out.step bx); replace PT := hid (PT.out.step bx); replace HB := hid (below_then HB.out bx); replace HQ := hid (below_then HQ.out bx); replace H4 := hid (below_then H4.out bx)
          clear bx
          have PW := hid (Blk.new W4 44 (mcs none 0 0 none 0 0 false))
          have bx := below_box (W4.alloc (.cells (mcs none 0 0 none 0 0 false) 44)) (.cells (wrc 0 0 none 0 0 0 0 0) 34)
          replace P7 := hid (P7.out.step bx); replace OM := hid (OM.out.step bx); replace P8 := hid (P8.out.step bx); replace OV := hid (OV.out.step bx); replace OM3 := hid (OM3.out.step bx); replace OV3 := hid (OV3.out.step bx); replace PN := hid (PN.out.step bx); replace PT := hid (PT.out.step bx); replace PW := hid (PW.out.step bx); replace HB := hid (below_then HB.out bx); replace HQ := hid (below_then HQ.out bx); replace H4 := hid (below_then H4.out bx)
          clear bx
          have PR := hid (Blk.new2 W4 34 (wrc 0 0 none 0 0 0 0 0) (.cells (mcs none 0 0 none 0 0 false) 44))
          go_upto_region 13 with fail
          have hz5 := hid (show ((W4.alloc (.cells (mcs none 0 0 none 0 0 false) 44)).alloc (.cells (wrc 0 0 none 0 0 0 0 0) 34)).heap.size = W4.heap.size + 2 by simp)
          generalize (W4.alloc (.cells (mcs none 0 0 none 0 0 false) 44)).alloc (.cells (wrc 0 0 none 0 0 0 0 0) 34) = W5 at *
          obtain ⟨mg, hmg⟩ : ∃ b, b = decide (MGood m.1 m.2.1) := ⟨_, rfl⟩
          have HMG := hid hmg
          clear hmg
          obtain ⟨y00, y01, y02, yf0⟩ := P7.out.cells3
          go_wp2_with fail
          clear y00 y01 y02 yf0
          refine (rright_any A1 n1 c1 B1 k1 d1 m.2.2 m.1 m.2.1 W5 OM.out.mem).mono ?_
          rw [← HMG.out]
          rintro e W6 ⟨rfl, hb⟩
          have hs6 := hid (show W4.heap.size + 2 ≤ W6.heap.size by have := hb.size; have := hz5.out; omega)
          replace P7 := hid (P7.out.step hb); replace OM := hid (OM.out.step hb); replace P8 := hid (P8.out.step hb); replace OV := hid (OV.out.step hb); replace OM3 := hid (OM3.out.step hb); replace OV3 := hid (OV3.out.step hb); replace PN := hid (PN.out.step hb); replace PT := hid (PT.out.step hb); replace PW := hid (PW.out.step hb); replace PR := hid (PR.out.step hb); replace HB := hid (below_then HB.out hb); replace HQ := hid (below_then HQ.out hb); replace H4 := hid (below_then H4.out hb)
          clear hb
          go_upto_if 46 with fail
          have HE := hid (show swriteC m s = if ¬ MGood m.1 m.2.1 then (120, ([], [], false), zWr) else if ¬ WrOkS s then (160, ([], [], false), zWr) else (0, swriteF m s) from rfl)
          go_cut [13] (fun sx wx => sx = .int .i64 co ∧ QRw W4 wx m2 s2)
          case first =>
            cases mg
            · obtain ⟨rfl, rfl, rfl⟩ : co = 120 ∧ m2 = ([], [], false) ∧ s2 = zWr := by
                have e := HR.out.trans HE.out
                rw [if_pos (of_decide_eq_false HMG.out.symm)] at e
                simp only [Prod.mk.injEq] at e
                exact e
              go_wp2_with fail
              go_meet
              exact ⟨rfl, ⟨⟨none, 0, 0, none, 0, 0, none, 0, 0, PW.out, (Mown.none _ 0).mem, PR.out, Sl.nil _ _ _ _, Nat.le_refl _, fun h => absurd h (by omega)⟩, H4.out⟩⟩
            obtain ⟨y00, y01, y02, y03, y04, y05, yf0⟩ := P8.out.cells6
            go_wp2_with fail
            clear y00 y01 y02 y03 y04 y05 yf0
            have hlv1 := hid OV.out.len
            refine (rrightwrite_any s.a s.f V1 vn1 vc1 s.ph s.bg s.wr _ HIN.out.2.1 (by have := hvn1.out; omega)).mono ?_
            by_cases hok : (WrOk s.a s.f vn1 s.ph s.bg s.wr)
            rotate_left
            · rw [decide_eq_false hok]
              rintro e W7 ⟨rfl, hb⟩
              obtain ⟨rfl, rfl, rfl⟩ : co = 160 ∧ m2 = ([], [], false) ∧ s2 = zWr := by
                have e := HR.out.trans HE.out
                rw [if_neg (not_not_intro (of_decide_eq_true HMG.out.symm)), if_pos (fun h => hok (by unfold WrOkS at h; rwa [hlv1.out] at h))] at e
                simp only [Prod.mk.injEq] at e
                exact e
              clear hok
              replace P7 := hid (P7.out.step hb); replace OM := hid (OM.out.step hb); replace P8 := hid (P8.out.step hb); replace OV := hid (OV.out.step hb); replace OM3 := hid (OM3.out.step hb); replace OV3 := hid (OV3.out.step hb); replace PN := hid (PN.out.step hb); replace PT := hid (PT.out.step hb); replace PW := hid (PW.out.step hb); replace PR := hid (PR.out.step hb); replace HB := hid (below_then HB.out hb); replace HQ := hid (below_then HQ.out hb); replace H4 := hid (below_then H4.out hb)
              clear hb
              go_wp2_with fail
              go_meet
              exact ⟨rfl, ⟨⟨none, 0, 0, none, 0, 0, none, 0, 0, PW.out, (Mown.none _ 0).mem, PR.out, Sl.nil _ _ _ _, Nat.le_refl _, fun h => absurd h (by omega)⟩, H4.out⟩⟩
            rw [decide_eq_true hok]
            rintro e W7 ⟨rfl, hb⟩
            have HOKS := hid (show WrOkS s by unfold WrOkS; rw [hlv1.out]; exact hok)
            obtain ⟨rfl, hr2⟩ : co = 0 ∧ (m2, s2) = swriteF m s := by
              have e := HR.out.trans HE.out
              rw [if_neg (not_not_intro (of_decide_eq_true HMG.out.symm)), if_neg (not_not_intro HOKS.out)] at e
              exact ⟨congrArg Prod.fst e, congrArg Prod.snd e⟩
            have HR2 := hid hr2
            have hkn := hid (show n1 = k1 by have h := (of_decide_eq_true HMG.out.symm : MGood m.1 m.2.1).1.2.2; rw [← OM.out.oa.len, ← OM.out.ob.len]; exact h.symm)
            clear hok hr2
            replace P7 := hid (P7.out.step hb); replace OM := hid (OM.out.step hb); replace P8 := hid (P8.out.step hb); replace OV := hid (OV.out.step hb); replace OM3 := hid (OM3.out.step hb); replace OV3 := hid (OV3.out.step hb); replace PN := hid (PN.out.step hb); replace PT := hid (PT.out.step hb); replace PW := hid (PW.out.step hb); replace PR := hid (PR.out.step hb); replace HB := hid (below_then HB.out hb); replace HQ := hid (below_then HQ.out hb); replace H4 := hid (below_then H4.out hb)
            clear hb
            go_upto_region 16 with fail
            have hs7 := hid (show W4.heap.size + 2 ≤ W7.heap.size by have := PR.out.lt; omega)
            have bx := (Below.refl W7.heap.size W7).drew
            replace P7 := hid (P7.out.step bx); replace OM := hid (OM.out.step bx); replace P8 := hid (P8.out.step bx); replace OV := hid (OV.out.step bx); replace PW := hid (PW.out.step bx); replace PR := hid (PR.out.step bx); replace H4 := hid (below_then H4.out bx)
            clear bx
            have hszd := hid (show W7.drew.heap.size = W7.heap.size from rfl)
            refine wp_region_noPanic ?_
            refine wp_region_held_drew (S := (fun W' : World => W'.cell? ⟨g7, 0, none⟩ = some (.slice A1 n1 c1) ∧ W'.cell? ⟨g7, 1, none⟩ = some (.slice B1 k1 d1) ∧ W'.cell? ⟨g7, 2, none⟩ = some (.bool m.2.2) ∧ W'.cell? ⟨g8, 0, none⟩ = some (.int .i64 s.a) ∧ W'.cell? ⟨g8, 1, none⟩ = some (.int .i64 s.f) ∧ W'.cell? ⟨g8, 2, none⟩ = some (.slice V1 vn1 vc1) ∧ W'.cell? ⟨g8, 3, none⟩ = some (.int .i64 s.ph) ∧ W'.cell? ⟨g8, 4, none⟩ = some (.int .u64 s.bg) ∧ W'.cell? ⟨g8, 5, none⟩ = some (.int .i64 s.wr))) (by kernel_rfl) ⟨P7.out.cells3.1, P7.out.cells3.2.1, P7.out.cells3.2.2.1, P8.out.cells6.1, P8.out.cells6.2.1, P8.out.cells6.2.2.1, P8.out.cells6.2.2.2.1, P8.out.cells6.2.2.2.2.1, P8.out.cells6.2.2.2.2.2.1⟩ (fun hS => ?_)
            generalize W7.drew = Wd at *
            refine wpAnyH_take (i := 0) (v := ?_) (by simp only [List.getElem?_toArray, List.getElem?_cons_succ, List.getElem?_cons_zero]; rfl) (by kernel_rfl) (by kernel_rfl) (by kernel_rfl) (fun _ _ _ h => h) (Or.inl ⟨by rfl, ?_⟩) hS ?_
            rotate_left
            · intro w' hSw; (try dsimp only at hSw); go_split_ands; go_simp; (try with_reducible rfl)
            (try simp only [Act.put, List.setIfInBounds_toArray, List.set_cons_zero, List.set_cons_succ])
            refine wpAnyH_take (i := 2) (v := ?_) (by simp only [List.getElem?_toArray, List.getElem?_cons_succ, List.getElem?_cons_zero]; rfl) (by kernel_rfl) (by kernel_rfl) (by kernel_rfl) (fun _ _ _ h => h) (Or.inl ⟨by rfl, ?_⟩) hS ?_
            rotate_left
            · intro w' hSw; (try dsimp only at hSw); go_split_ands; go_simp; (try with_reducible rfl)
            (try simp only [Act.put, List.setIfInBounds_toArray, List.set_cons_zero, List.set_cons_succ])
            refine wpAnyH_ready (rs := [1]) (by kernel_rfl) (by simp) ?_
            refine AllReadyH.cons (by simp only [List.getElem?_toArray, List.getElem?_cons_succ, List.getElem?_cons_zero]; rfl) (fun K hK => ?_) ?_
            · skip
              go_simp
              refine (lawown_any A1 n1 c1 B1 k1 d1 m.2.2 m.1 m.2.1 _ OM.out.mem.hx OM.out.mem.hy OM.out.mem.hnc OM.out.mem.hmd).mono ?_
              rintro e ws1 ⟨A6, n6, c6, B6, k6, d6, rfl, om, hb⟩
              have hsz0 := hid (show Wd.heap.size ≤ ws1.heap.size from hb.size)
              replace P7 := hid (P7.out.step hb); replace OM := hid (OM.out.step hb); replace P8 := hid (P8.out.step hb); replace OV := hid (OV.out.step hb); replace PW := hid (PW.out.step hb); replace PR := hid (PR.out.step hb); replace H4 := hid (below_then H4.out hb)
              clear hb
              rw [List.take_of_length_le (by rw [OM.out.oa.len]; exact hn48.out), List.take_of_length_le (by rw [OM.out.ob.len]; exact hk48.out)] at om
              obtain rfl : n1 = n6 := by rw [← om.oa.len, OM.out.oa.len]
              obtain rfl : n1 = k6 := by rw [← om.ob.len, OM.out.ob.len, hkn.out]
              have OM6 := hid (om.mono (show W4.heap.size + 2 ≤ Wd.heap.size by have := hszd.out; have := hs7.out; omega))
              clear om
              go_wp2_with fail
              refine hK.out _ _ ⟨P7.out.cells3.1, P7.out.cells3.2.1, P7.out.cells3.2.2.1, P8.out.cells6.1, P8.out.cells6.2.1, P8.out.cells6.2.2.1, P8.out.cells6.2.2.2.1, P8.out.cells6.2.2.2.2.1, P8.out.cells6.2.2.2.2.2.1⟩ (fun hS' => ?_)
              clear hK K hS
              have hS := hS'
              clear hS'
              (try simp only [Act.put, List.setIfInBounds_toArray, List.set_cons_zero, List.set_cons_succ])
              refine wpAnyH_ready (rs := [3]) (by kernel_rfl) (by simp) ?_
              refine AllReadyH.cons (by simp only [List.getElem?_toArray, List.getElem?_cons_succ, List.getElem?_cons_zero]; rfl) (fun K hK => ?_) ?_
              · skip
                go_simp
                refine (ownwrite_any s V1 vn1 vc1 _ (OV.out.sl.mono (Nat.zero_le _) (Nat.le_refl _)) OV.out.cap.1).mono ?_
                rintro e ws3 ⟨V6, vn6, vc6, rfl, ov, hb⟩
                have hsz1 := hid (show ws1.heap.size ≤ ws3.heap.size from hb.size)
                replace P7 := hid (P7.out.step hb); replace OM := hid (OM.out.step hb); replace P8 := hid (P8.out.step hb); replace OV := hid (OV.out.step hb); replace PW := hid (PW.out.step hb); replace PR := hid (PR.out.step hb); replace OM6 := hid (OM6.out.step hb); replace H4 := hid (below_then H4.out hb)
                clear hb
                rw [List.take_of_length_le (by rw [OV.out.len]; exact hvn1.out)] at ov
                rw [show cutW s = s from by unfold cutW; rw [List.take_of_length_le (by rw [OV.out.len]; exact hvn1.out)]]
                obtain rfl : vn1 = vn6 := by rw [← ov.len, OV.out.len]
                have OV6 := hid ov
                have HL6 := hid (show W4.heap.size + 2 ≤ ws1.heap.size by have := hszd.out; have := hsz0.out; have := hs7.out; omega)
                clear ov
                go_wp2_with fail
                refine hK.out _ _ ⟨P7.out.cells3.1, P7.out.cells3.2.1, P7.out.cells3.2.2.1, P8.out.cells6.1, P8.out.cells6.2.1, P8.out.cells6.2.2.1, P8.out.cells6.2.2.2.1, P8.out.cells6.2.2.2.2.1, P8.out.cells6.2.2.2.2.2.1⟩ (fun hS' => ?_)
                clear hK K hS
                have hS := hS'
                clear hS'
                (try simp only [Act.put, List.setIfInBounds_toArray, List.set_cons_zero, List.set_cons_succ])
                refine wpAnyH_ready (rs := [4]) (by kernel_rfl) (by simp) ?_
                refine AllReadyH.cons (by simp only [List.getElem?_toArray, List.getElem?_cons_succ, List.getElem?_cons_zero]; rfl) (fun K hK => ?_) ?_
                · skip
                  go_simp
                  refine (rswrite_any A6 n1 c6 B6 d6 m.2.2 m.1 m.2.1 s V6 vn1 vc6 (W4.heap.size + 2) _ OM6.out.mem (OV6.out.sl.mono HL6.out (Nat.le_refl _)) (by have := hszd.out; have := hsz0.out; have := hsz1.out; have := hs7.out; omega) OV6.out.cap.1 HOKS.out).mono ?_
                  rintro e ws4 ⟨A9, c9, B9, d9, V9, vn9, vc9, rfl, mr, vr, hvc9, hb, htr⟩
                  have hsz2 := hid (show ws3.heap.size ≤ ws4.heap.size from hb.size)
                  replace P7 := hid (P7.out.step hb); replace OM := hid (OM.out.step hb); replace P8 := hid (P8.out.step hb); replace OV := hid (OV.out.step hb); replace PW := hid (PW.out.step hb); replace PR := hid (PR.out.step hb); replace OM6 := hid (OM6.out.step hb); replace OV6 := hid (OV6.out.step hb); replace H4 := hid (below_then H4.out hb)
                  clear hb
                  rw [← HR2.out] at mr vr ⊢
                  dsimp only at mr vr ⊢
                  have MR := hid mr; have VR := hid vr; have HVC := hid hvc9
                  have FW := hid (show FarM n1 A9 B9 W4.heap.size ∧ FarM n1 A9 B9 (W4.heap.size + 1) from ⟨htr _ (by have := hszd.out; have := hsz0.out; have := hsz1.out; have := hs7.out; omega) (OM6.out.far (by omega)), htr _ (by have := hszd.out; have := hsz0.out; have := hsz1.out; have := hs7.out; omega) (OM6.out.far (by omega))⟩)
                  clear mr vr hvc9 htr
                  go_wp2_with fail
                  refine hK.out _ _ ⟨P7.out.cells3.1, P7.out.cells3.2.1, P7.out.cells3.2.2.1, P8.out.cells6.1, P8.out.cells6.2.1, P8.out.cells6.2.2.1, P8.out.cells6.2.2.2.1, P8.out.cells6.2.2.2.2.1, P8.out.cells6.2.2.2.2.2.1⟩ (fun hS' => ?_)
                  clear hK K hS
                  have hS := hS'
                  clear hS'
                  (try simp only [Act.put, List.setIfInBounds_toArray, List.set_cons_zero, List.set_cons_succ])
                  refine wpAnyH_take (i := 5) (v := ?_) (by simp only [List.getElem?_toArray, List.getElem?_cons_succ, List.getElem?_cons_zero]; rfl) (by kernel_rfl) (by kernel_rfl) (by kernel_rfl) (fun _ _ _ h => h) (Or.inl ⟨by rfl, ?_⟩) hS ?_
                  rotate_left
                  · intro w' hSw; (try dsimp only at hSw); go_split_ands; go_simp; (try with_reducible rfl)
                  (try simp only [Act.put, List.setIfInBounds_toArray, List.set_cons_zero, List.set_cons_succ])
                  refine wpAnyH_take (i := 6) (v := ?_) (by simp only [List.getElem?_toArray, List.getElem?_cons_succ, List.getElem?_cons_zero]; rfl) (by kernel_rfl) (by kernel_rfl) (by kernel_rfl) (fun _ _ _ h => h) (Or.inl ⟨by rfl, ?_⟩) hS ?_
                  rotate_left
                  · intro w' hSw; (try dsimp only at hSw); go_split_ands; go_simp; (try with_reducible rfl)
                  (try simp only [Act.put, List.setIfInBounds_toArray, List.set_cons_zero, List.set_cons_succ])
                  refine wpAnyH_take (i := 7) (v := ?_) (by simp only [List.getElem?_toArray, List.getElem?_cons_succ, List.getElem?_cons_zero]; rfl) (by kernel_rfl) (by kernel_rfl) (by kernel_rfl) (fun _ _ _ h => h) (Or.inl ⟨by rfl, ?_⟩) hS ?_
                  rotate_left
                  · intro w' hSw; (try dsimp only at hSw); go_split_ands; go_simp; (try with_reducible rfl)
                  (try simp only [Act.put, List.setIfInBounds_toArray, List.set_cons_zero, List.set_cons_succ])
                  refine wpAnyH_ready (rs := [8]) (by kernel_rfl) (by simp) ?_
                  refine AllReadyH.cons (by simp only [List.getElem?_toArray, List.getElem?_cons_succ, List.getElem?_cons_zero]; rfl) (fun K hK => ?_) ?_
                  · skip
                    obtain ⟨y00, y01, y02, yf0⟩ := PW.out.cells3
                    go_simp
                    clear y00 y01 y02 yf0
                    refine named_store3 PW.out ?_
                    intro Ws8 hbk hgr hsz
                    have hsz3 := hid hsz
                    clear hsz
                    replace PR := hid (PR.out.grown hgr (by simp <;> omega))
                    replace P7 := hid (P7.out.grown hgr (by have := h7s.out; have := hz4.out; simp; omega))
                    replace P8 := hid (P8.out.grown hgr (by have := h8s.out; have := hz4.out; simp; omega))
                    replace MR := hid (mem_kept MR.out FW.out.1 hgr)
                    replace VR := hid (sl_kept VR.out hgr (by omega))
                    replace H4 := hid (H4.out.grown hgr H4.out.size (fun r e => by cases e; omega))
                    replace PW := hid hbk
                    clear hbk hgr
                    refine hK.out _ _ ⟨P7.out.cells3.1, P7.out.cells3.2.1, P7.out.cells3.2.2.1, P8.out.cells6.1, P8.out.cells6.2.1, P8.out.cells6.2.2.1, P8.out.cells6.2.2.2.1, P8.out.cells6.2.2.2.2.1, P8.out.cells6.2.2.2.2.2.1⟩ (fun hS' => ?_)
                    clear hK K hS
                    have hS := hS'
                    clear hS'
                    (try simp only [Act.put, List.setIfInBounds_toArray, List.set_cons_zero, List.set_cons_succ])
                    refine wpAnyH_ready (rs := [9]) (by kernel_rfl) (by simp) ?_
                    refine AllReadyH.cons (by simp only [List.getElem?_toArray, List.getElem?_cons_succ, List.getElem?_cons_zero]; rfl) (fun K hK => ?_) ?_
                    · skip
                      obtain ⟨y00, y01, y02, y03, y04, y05, yf0⟩ := PR.out.cells6
                      go_simp
                      clear y00 y01 y02 y03 y04 y05 yf0
                      refine named_store_6_6_0 PR.out ?_
                      intro Ws9 hbk hgr hsz
                      have hsz4 := hid hsz
                      clear hsz
                      replace PW := hid (PW.out.grown hgr (by simp <;> omega))
                      replace P7 := hid (P7.out.grown hgr (by have := h7s.out; have := hz4.out; simp; omega))
                      replace P8 := hid (P8.out.grown hgr (by have := h8s.out; have := hz4.out; simp; omega))
                      replace MR := hid (mem_kept MR.out FW.out.2 hgr)
                      replace VR := hid (sl_kept VR.out hgr (by omega))
                      replace H4 := hid (H4.out.grown hgr H4.out.size (fun r e => by cases e; omega))
                      replace PR := hid hbk
                      clear hbk hgr
                      refine hK.out _ _ ⟨P7.out.cells3.1, P7.out.cells3.2.1, P7.out.cells3.2.2.1, P8.out.cells6.1, P8.out.cells6.2.1, P8.out.cells6.2.2.1, P8.out.cells6.2.2.2.1, P8.out.cells6.2.2.2.2.1, P8.out.cells6.2.2.2.2.2.1⟩ (fun hS' => ?_)
                      clear hK K hS
                      have hS := hS'
                      clear hS'
                      (try simp only [Act.put, List.setIfInBounds_toArray, List.set_cons_zero, List.set_cons_succ])
                      refine wpAnyH_done (by kernel_rfl) ?_ _
                      refine NoPanic.normal ?_
                      clear hS
                      go_wp2_with fail
                      go_meet
                      exact ⟨rfl, ⟨⟨_, _, _, _, _, _, _, _, _, PW.out, MR.out, PR.out, VR.out, HVC.out, FW.out.1⟩, H4.out⟩⟩
                    exact AllReadyH.nil
                  exact AllReadyH.nil
                exact AllReadyH.nil
              exact AllReadyH.nil
            exact AllReadyH.nil
          case rest =>
            obtain ⟨rfl, hI⟩ := hcut
            rename World => W8
            obtain ⟨⟨A4, n4, c4, B4, k4, d4, V4, vn4, vc4, h1, h2, h3, h4, h5, h6⟩, hb⟩ := hI
            replace PW := hid h1; replace PR := hid h3
            have MR := hid h2; have VR := hid h4; have HVC := hid h5
            clear h1 h2 h3 h4 h5 h6 HE HMG
            have hcc : (co != co) = false := by simp
            have hv16 := hid (show s2.vs.length ≤ 16 by have h := swriteC_len m s; rw [← HR.out] at h; exact h)
            replace P7 := hid (XP7.out.step hb); replace OM := hid (XOM.out.step hb); replace P8 := hid (XP8.out.step hb); replace OV := hid (XOV.out.step hb); replace PN := hid (XPN.out.step hb); replace PT := hid (XPT.out.step hb); replace OM3 := hid (XOM3.out.step hb); replace OV3 := hid (XOV3.out.step hb); replace HB := hid (below_then XHB.out hb); replace HQ := hid (below_then XHQ.out hb)
            have H48 := hid hb
            clear hb H4 XP7 XOM XP8 XOV XPN XPT XOM3 XOV3 XHB XHQ
            have hvn3 := hid (show vn3 ≤ 16 by rw [← OV3.out.len]; exact hv16.out)
            go_upto_region 18 with fail
            obtain ⟨y00, y01, y02, yf0⟩ := PN.out.cells3
            obtain ⟨y10, y11, y12, yf1⟩ := PW.out.cells3
            go_wp2_with fail
            clear y00 y01 y02 yf0 y10 y11 y12 yf1
            refine (rmsame_any A3 n3 c3 B3 k3 d3 m2.2.2 m2.1 m2.2.1 A4 n4 c4 B4 k4 d4 m2.2.2 m2.1 m2.2.1 _ OM3.out.mem MR.out).mono ?_
            rintro e W9 ⟨rfl, hb⟩
            replace P7 := hid (P7.out.step hb); replace P8 := hid (P8.out.step hb); replace PN := hid (PN.out.step hb); replace PT := hid (PT.out.step hb); replace OM3 := hid (OM3.out.step hb); replace OV3 := hid (OV3.out.step hb); replace PW := hid (PW.out.step hb); replace PR := hid (PR.out.step hb); replace MR := hid (MR.out.step hb); replace VR := hid (VR.out.step hb); replace HB := hid (below_then HB.out hb); replace HQ := hid (below_then HQ.out hb)
            clear hb
            rw [show sameM (m2.1, m2.2.1, m2.2.2) (m2.1, m2.2.1, m2.2.2) = true from decide_eq_true ⟨rfl, rfl, rfl⟩]
            obtain ⟨y00, y01, y02, y03, y04, y05, yf0⟩ := PT.out.cells6
            obtain ⟨y10, y11, y12, y13, y14, y15, yf1⟩ := PR.out.cells6
            go_wp2_with fail
            clear y00 y01 y02 y03 y04 y05 yf0 y10 y11 y12 y13 y14 y15 yf1
            refine (samewrite_any s2 s2 V3 vn3 vc3 V4 vn4 vc4 _ (OV3.out.sl.mono (Nat.zero_le _) (Nat.le_refl _)) (VR.out.mono (Nat.zero_le _) (Nat.le_refl _)) (by have := hvn3.out; omega)).mono ?_
            rintro e W10 ⟨rfl, hb⟩
            replace P7 := hid (P7.out.step hb); replace P8 := hid (P8.out.step hb); replace PN := hid (PN.out.step hb); replace PT := hid (PT.out.step hb); replace OM3 := hid (OM3.out.step hb); replace OV3 := hid (OV3.out.step hb); replace PW := hid (PW.out.step hb); replace PR := hid (PR.out.step hb); replace MR := hid (MR.out.step hb); replace VR := hid (VR.out.step hb); replace HB := hid (below_then HB.out hb); replace HQ := hid (below_then HQ.out hb)
            clear hb
            rw [decide_eq_true rfl]
            by_cases hco : co = 0
            rotate_left
            · have hc0 : (co != 0) = true := by simpa using hco
              go_wp2
              go_ret
              exact ⟨rfl, HB.out⟩
            have hc0 : (co != 0) = false := by simpa using hco
            obtain ⟨y00, y01, y02, y03, y04, y05, yf0⟩ := PT.out.cells6
            go_wp2_with fail
            clear y00 y01 y02 y03 y04 y05 yf0
            have hG0 := hid (World.grownBy.refl W10 (Value.slice V3 vn3 vc3).ownBlock)
            go_loopw [77] (fun i wr => ∃ k : Nat, k ≤ vn3 ∧ i = .int .i64 k ∧ W10.grownBy wr (Value.slice V3 vn3 vc3).ownBlock ∧ ∃ vs', Ow u64v wr w1.heap.size 27 V3 vn3 vc3 vs') (fun i _ => vn3 - (intOf i).toNat)
            case atStart => exact ⟨0, Nat.zero_le _, rfl, hG0.out, _, OV3.out⟩
            case round =>
              clear hG0
              obtain ⟨k, hk, rfl, hgr, vs', ho⟩ := hrel
              rename World => W11
              have HGR := hid hgr; have OV5 := hid ho
              clear hgr ho
              by_cases hkn : k < vn3
              · skip
                obtain ⟨gv, rfl, hg1, hg2, hc, hfz⟩ := OV5.out.at_ 0 hkn
                obtain ⟨x, hX⟩ : ∃ x, x = vs'[k]?.getD 0 := ⟨_, rfl⟩
                rw [← hX] at hc
                clear hX
                have PT5 := hid (PT.out.keptO OV3.out (by decide) HGR.out)
                have hki : (k : Int) < (vn3 : Int) := by omega
                have hwk : IntKind.i64.wrap ((k : Int) + 1) = (k : Int) + 1 := by have := hvn3.out; rw [IntKind.wrap_i64]; omega
                obtain ⟨y00, y01, y02, y03, y04, y05, yf0⟩ := PT5.out.cells6
                go_wp2
                go_roundw
                case rel => exact ⟨k + 1, by omega, by go_num, grown_set HGR.out _ _, _, OV5.out.stored k _⟩
                case measure => simp [intOf]; omega
              obtain rfl : k = vn3 := by omega
              have hnn : ¬ ((k : Int) < (k : Int)) := by omega
              have hgr := HGR.out
              replace PN := hid (PN.out.keptO OV3.out (by decide) hgr)
              replace PR := hid (PR.out.keptO OV3.out (by decide) hgr)
              replace P7 := hid (P7.out.keptO OV3.out (by decide) hgr)
              replace P8 := hid (P8.out.keptO OV3.out (by decide) hgr)
              replace OM3 := hid (show Mown W11 w1.heap.size A3 n3 c3 B3 k3 d3 m2.1 m2.2.1 from ⟨OM3.out.oa.keptG hgr (fun a ha e => by obtain ⟨v, hv, e2⟩ := own_addr e.symm; exact HFAR.out a v ha hv e2.symm), OM3.out.ob.keptO OV3.out (by decide) hgr, OM3.out.apart, OM3.out.hn, OM3.out.hm⟩)
              have hvlt := hid (show ∀ r, (Value.slice V3 k vc3).ownBlock = some r → r < W4.heap.size + 2 from fun r hr => by have := HV3.out r hr; have := hz4.out; omega)
              replace VR := hid (show Sl u64v 0 W11 (W4.heap.size + 2) W11.heap.size V4 vn4 s2.vs from (VR.out.keep fun b o hb hb2 => World.cell?_of_block (a := ⟨b, o, none⟩) (hgr.block b hb2 (fun e => by have := hvlt.out b e.symm; omega))).mono (Nat.le_refl _) hgr.size)
              replace HB := hid (HB.out.grown hgr HB.out.size (fun r e => by have := OV3.out.row_ge r e; have := hwb.out; omega))
              replace HQ := hid (HQ.out.grown hgr HQ.out.size (fun r e => OV3.out.row_ge r e))
              clear hgr HGR MR PW PT
              go_upto_region 26 with fail
              have HI2 := hid (swriteC_in (m := m) (s := s) (m2 := m2) (s2 := s2) (by rw [← hco]; exact HR.out) HIN.out)
              have HB11 := hid HQ.out.size
              have hPN := hid PN.out.lt; have hPR := hid PR.out.lt
              have XPN := PN; have XPR := PR; have H11 := hid (Below.refl W11.heap.size W11)
              clear PN PR
              have XN := XPN; have XR := XPR
              clear XPN XPR H11
              have bx := (Below.refl W11.heap.size W11).drew
              replace P7 := hid (P7.out.step bx); replace P8 := hid (P8.out.step bx); replace OM3 := hid (OM3.out.step bx); replace VR := hid (VR.out.step bx); replace XN := hid (XN.out.step bx); replace XR := hid (XR.out.step bx); replace HB := hid (below_then HB.out bx); replace HQ := hid (below_then HQ.out bx)
              clear bx
              have hszd := hid (show W11.drew.heap.size = W11.heap.size from rfl)
              refine wp_region_noPanic ?_
              refine wp_region_held_drew (S := (fun W' : World => W'.cell? ⟨w3.heap.size, 0, none⟩ = some (.slice A3 n3 c3) ∧ W'.cell? ⟨w3.heap.size, 1, none⟩ = some (.slice B3 k3 d3) ∧ W'.cell? ⟨w3.heap.size, 2, none⟩ = some (.bool m2.2.2) ∧ W'.cell? ⟨(W4.heap.size + 1), 0, none⟩ = some (.int .i64 s2.a) ∧ W'.cell? ⟨(W4.heap.size + 1), 1, none⟩ = some (.int .i64 s2.f) ∧ W'.cell? ⟨(W4.heap.size + 1), 2, none⟩ = some (.slice V4 vn4 vc4) ∧ W'.cell? ⟨(W4.heap.size + 1), 3, none⟩ = some (.int .i64 s2.ph) ∧ W'.cell? ⟨(W4.heap.size + 1), 4, none⟩ = some (.int .u64 s2.bg) ∧ W'.cell? ⟨(W4.heap.size + 1), 5, none⟩ = some (.int .i64 s2.wr))) (by kernel_rfl) ⟨XN.out.cells3.1, XN.out.cells3.2.1, XN.out.cells3.2.2.1, XR.out.cells6.1, XR.out.cells6.2.1, XR.out.cells6.2.2.1, XR.out.cells6.2.2.2.1, XR.out.cells6.2.2.2.2.1, XR.out.cells6.2.2.2.2.2.1⟩ (fun hS => ?_)
              generalize W11.drew = Wd at *
              refine wpAnyH_take (i := 0) (v := ?_) (by simp only [List.getElem?_toArray, List.getElem?_cons_succ, List.getElem?_cons_zero]; rfl) (by kernel_rfl) (by kernel_rfl) (by kernel_rfl) (fun _ _ _ h => h) (Or.inl ⟨by rfl, ?_⟩) hS ?_
              rotate_left
              · intro w' hSw; (try dsimp only at hSw); go_split_ands; go_simp; (try with_reducible rfl)
              (try simp only [Act.put, List.setIfInBounds_toArray, List.set_cons_zero, List.set_cons_succ])
              refine wpAnyH_take (i := 2) (v := ?_) (by simp only [List.getElem?_toArray, List.getElem?_cons_succ, List.getElem?_cons_zero]; rfl) (by kernel_rfl) (by kernel_rfl) (by kernel_rfl) (fun _ _ _ h => h) (Or.inl ⟨by rfl, ?_⟩) hS ?_
              rotate_left
              · intro w' hSw; (try dsimp only at hSw); go_split_ands; go_simp; (try with_reducible rfl)
              (try simp only [Act.put, List.setIfInBounds_toArray, List.set_cons_zero, List.set_cons_succ])
              refine wpAnyH_ready (rs := [1]) (by kernel_rfl) (by simp) ?_
              refine AllReadyH.cons (by simp only [List.getElem?_toArray, List.getElem?_cons_succ, List.getElem?_cons_zero]; rfl) (fun K hK => ?_) ?_
              · skip
                go_simp
                refine (lawown_any A3 n3 c3 B3 k3 d3 m2.2.2 m2.1 m2.2.1 _ OM3.out.mem.hx OM3.out.mem.hy OM3.out.mem.hnc OM3.out.mem.hmd).mono ?_
                rintro e ws1 ⟨A9, n9, c9, B9, k9, d9, rfl, om, hb⟩
                have hsz0 := hid (show Wd.heap.size ≤ ws1.heap.size from hb.size)
                replace P7 := hid (P7.out.step hb); replace P8 := hid (P8.out.step hb); replace OM3 := hid (OM3.out.step hb); replace VR := hid (VR.out.step hb); replace XN := hid (XN.out.step hb); replace XR := hid (XR.out.step hb); replace HB := hid (below_then HB.out hb); replace HQ := hid (below_then HQ.out hb)
                clear hb
                have OM9 := hid (om.mono (show w1.heap.size ≤ Wd.heap.size by have := HB11.out; have := hszd.out; omega))
                clear om
                go_wp2_with fail
                refine hK.out _ _ ⟨XN.out.cells3.1, XN.out.cells3.2.1, XN.out.cells3.2.2.1, XR.out.cells6.1, XR.out.cells6.2.1, XR.out.cells6.2.2.1, XR.out.cells6.2.2.2.1, XR.out.cells6.2.2.2.2.1, XR.out.cells6.2.2.2.2.2.1⟩ (fun hS' => ?_)
                clear hK K hS
                have hS := hS'
                clear hS'
                (try simp only [Act.put, List.setIfInBounds_toArray, List.set_cons_zero, List.set_cons_succ])
                refine wpAnyH_ready (rs := [3]) (by kernel_rfl) (by simp) ?_
                refine AllReadyH.cons (by simp only [List.getElem?_toArray, List.getElem?_cons_succ, List.getElem?_cons_zero]; rfl) (fun K hK => ?_) ?_
                · skip
                  go_simp
                  refine (ownwrite_any s2 V4 vn4 vc4 _ (VR.out.mono (Nat.zero_le _) (Nat.le_refl _)) HVC.out).mono ?_
                  rintro e ws3 ⟨V9, vn9, vc9, rfl, ov, hb⟩
                  have hsz1 := hid (show ws1.heap.size ≤ ws3.heap.size from hb.size)
                  replace P7 := hid (P7.out.step hb); replace P8 := hid (P8.out.step hb); replace OM3 := hid (OM3.out.step hb); replace VR := hid (VR.out.step hb); replace XN := hid (XN.out.step hb); replace XR := hid (XR.out.step hb); replace OM9 := hid (OM9.out.step hb); replace HB := hid (below_then HB.out hb); replace HQ := hid (below_then HQ.out hb)
                  clear hb
                  have OV9 := hid (ov.mono (show w1.heap.size ≤ ws1.heap.size by have := HB11.out; have := hszd.out; have := hsz0.out; omega))
                  clear ov VR
                  go_wp2_with fail
                  refine hK.out _ _ ⟨XN.out.cells3.1, XN.out.cells3.2.1, XN.out.cells3.2.2.1, XR.out.cells6.1, XR.out.cells6.2.1, XR.out.cells6.2.2.1, XR.out.cells6.2.2.2.1, XR.out.cells6.2.2.2.2.1, XR.out.cells6.2.2.2.2.2.1⟩ (fun hS' => ?_)
                  clear hK K hS
                  have hS := hS'
                  clear hS'
                  (try simp only [Act.put, List.setIfInBounds_toArray, List.set_cons_zero, List.set_cons_succ])
                  refine wpAnyH_ready (rs := [4]) (by kernel_rfl) (by simp) ?_
                  refine AllReadyH.cons (by simp only [List.getElem?_toArray, List.getElem?_cons_succ, List.getElem?_cons_zero]; rfl) (fun K hK => ?_) ?_
                  · skip
                    obtain ⟨y00, y01, y02, yf0⟩ := P7.out.cells3
                    go_simp
                    clear y00 y01 y02 yf0
                    refine named_store3 P7.out ?_
                    intro Ws4 hbk hgr hsz
                    have hsz2 := hid hsz
                    clear hsz
                    replace P8 := hid (P8.out.grown hgr (fun e => P7.out.ne P8.out (by decide) (by simpa using e.symm)))
                    replace OM9 := hid (mown_kept OM9.out P7.out tm1 tm2 hgr)
                    replace OV9 := hid (OV9.out.keptG hgr (fun v hv e => OV9.out.ne_blk P7.out tm1 v hv (by simpa using e)))
                    replace HB := hid (HB.out.grown hgr HB.out.size (fun r e => by cases e; have := hl7.out; have := hl8.out; have := hwb.out; omega))
                    replace HQ := hid (HQ.out.grown hgr HQ.out.size (fun r e => by cases e; have := hl7.out; have := hl8.out; omega))
                    replace XN := hid (XN.out.grown hgr (by have := h7s.out; have := h8s.out; simp; omega))
                    replace XR := hid (XR.out.grown hgr (by have := h7s.out; have := h8s.out; have := hz4.out; simp; omega))
                    replace P7 := hid hbk
                    clear hbk hgr
                    refine hK.out _ _ ⟨XN.out.cells3.1, XN.out.cells3.2.1, XN.out.cells3.2.2.1, XR.out.cells6.1, XR.out.cells6.2.1, XR.out.cells6.2.2.1, XR.out.cells6.2.2.2.1, XR.out.cells6.2.2.2.2.1, XR.out.cells6.2.2.2.2.2.1⟩ (fun hS' => ?_)
                    clear hK K hS
                    have hS := hS'
                    clear hS'
                    (try simp only [Act.put, List.setIfInBounds_toArray, List.set_cons_zero, List.set_cons_succ])
                    refine wpAnyH_ready (rs := [5]) (by kernel_rfl) (by simp) ?_
                    refine AllReadyH.cons (by simp only [List.getElem?_toArray, List.getElem?_cons_succ, List.getElem?_cons_zero]; rfl) (fun K hK => ?_) ?_
                    · skip
                      obtain ⟨y00, y01, y02, y03, y04, y05, yf0⟩ := P8.out.cells6
                      go_simp
                      clear y00 y01 y02 y03 y04 y05 yf0
                      refine named_store_6_6_0 P8.out ?_
                      intro Ws5 hbk hgr hsz
                      have hsz3 := hid hsz
                      clear hsz
                      replace P7 := hid (P7.out.grown hgr (fun e => P7.out.ne P8.out (by decide) (by simpa using e)))
                      replace OM9 := hid (mown_kept OM9.out P8.out tq1 tq2 hgr)
                      replace OV9 := hid (OV9.out.keptG hgr (fun v hv e => OV9.out.ne_blk P8.out tq1 v hv (by simpa using e)))
                      replace HB := hid (HB.out.grown hgr HB.out.size (fun r e => by cases e; have := hl7.out; have := hl8.out; have := hwb.out; omega))
                      replace HQ := hid (HQ.out.grown hgr HQ.out.size (fun r e => by cases e; have := hl7.out; have := hl8.out; omega))
                      replace XN := hid (XN.out.grown hgr (by have := h7s.out; have := h8s.out; simp; omega))
                      replace XR := hid (XR.out.grown hgr (by have := h7s.out; have := h8s.out; have := hz4.out; simp; omega))
                      replace P8 := hid hbk
                      clear hbk hgr
                      refine hK.out _ _ ⟨XN.out.cells3.1, XN.out.cells3.2.1, XN.out.cells3.2.2.1, XR.out.cells6.1, XR.out.cells6.2.1, XR.out.cells6.2.2.1, XR.out.cells6.2.2.2.1, XR.out.cells6.2.2.2.2.1, XR.out.cells6.2.2.2.2.2.1⟩ (fun hS' => ?_)
                      clear hK K hS
                      have hS := hS'
                      clear hS'
                      (try simp only [Act.put, List.setIfInBounds_toArray, List.set_cons_zero, List.set_cons_succ])
                      refine wpAnyH_done (by kernel_rfl) ?_ _
                      refine NoPanic.normal ?_
                      clear hS
                      have hwj : IntKind.i64.wrap ((j : Int) + 1) = (j : Int) + 1 := by rw [IntKind.wrap_i64]; omega
                      go_wp2_with fail
                      go_roundw
                      case rel => exact ⟨j + 1, by omega, by go_num, (m2.1.take 48, m2.2.1.take 48, m2.2.2), cutW s2, ⟨⟨_, _, _, _, _, _, _, _, _, P7.out, OM9.out, P8.out, OV9.out, by rw [← OV9.out.len]; exact List.length_take_le _ _, by rw [← OM9.out.oa.len]; exact List.length_take_le _ _, by rw [← OM9.out.ob.len]; exact List.length_take_le _ _⟩, HQ.out, hl7.out, hl8.out, ⟨fun y hy => HI2.out.1 y (List.mem_of_mem_take hy), HI2.out.2.1, fun v hv => HI2.out.2.2 v (List.mem_of_mem_take hv)⟩⟩⟩
                      case measure => simp [intOf]; omega
                    exact AllReadyH.nil
                  exact AllReadyH.nil
                exact AllReadyH.nil
              exact AllReadyH.nil
end Go.Proofs.Ytnkaajkdjbdpaaa
