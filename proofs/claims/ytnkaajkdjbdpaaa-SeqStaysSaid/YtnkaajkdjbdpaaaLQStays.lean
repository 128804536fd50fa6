/- afterglowlaw06.SeqStays returns true at every memory, read, and number of steps, and turns nothing old. No condition but the sizes of memory. -/
import Derived.Test.YtnkaajkdjbdpaaaSq17
namespace Go.Proofs.Ytnkaajkdjbdpaaa
open Go.RowKit
/-- behind the cutting out: a memory and a read, boxed -/
structure QMid (w0 W : World) (g7 g8 : Nat) (m : MSt) (s : Srd) : Prop where
  out : ∃ A n c B k d V vn vc, Blk W g7 44 (mcs A n c B k d m.2.2) ∧ Mown W w0.heap.size A n c B k d m.1 m.2.1 ∧ Blk W g8 29 (rdc s.a s.f s.m s.ph s.bg V vn vc s.tr) ∧ Ow u64v W w0.heap.size 27 V vn vc s.vs ∧ vn ≤ 100000
  be : Below w0.heap.size w0 W
  l7 : w0.heap.size ≤ g7
  l8 : w0.heap.size ≤ g8
set_option maxRecDepth 100000 in
set_option maxHeartbeats 8000000 in
theorem sqstays_any (A : Option Addr) (n c : Nat) (B : Option Addr) (k d : Nat) (f : Bool) (xs : List Int) (ys : List Bool) (s0 : Srd) (V : Option Addr) (vn vc : Nat) (steps : Int) (w : World) (hx : Sl u64v 0 w 0 w.heap.size A n xs) (hy : Sl blv false w 0 w.heap.size B k ys) (hnc : n ≤ c) (hkd : k ≤ d) (hv : Sl u64v 0 w 0 w.heap.size V vn s0.vs) (hvc : vn ≤ vc) :
    Calls Try.prog 8 #[mv A n c B k d f, rdV s0 V vn vc, .int .i64 steps] w fun e w' => e = .returned (.bool true) ∧ Below w.heap.size w w' := by
  obtain ⟨N, hN, hN20⟩ : ∃ N : Nat, wrap64 ((IntKind.u64.wrap steps).tmod 20) = (N : Int) ∧ N < 20 := by
    have h0 : 0 ≤ IntKind.u64.wrap steps := by rw [IntKind.wrap_u64]; omega
    refine ⟨((IntKind.u64.wrap steps).tmod 20).toNat, ?_, ?_⟩
    · rw [Int.tmod_eq_emod_of_nonneg h0]; unfold wrap64; omega
    · rw [Int.tmod_eq_emod_of_nonneg h0]; omega
  have HX := hid hx; have HY := hid hy; have HV := hid hv; have HB := hid (Below.refl w.heap.size w)
  clear hx hy hv
  have bx := below_box w (.cells (mcs A n c B k d f) 44)
  replace HX := hid (HX.out.step bx); replace HY := hid (HY.out.step bx); replace HV := hid (HV.out.step bx); replace HB := hid (below_then HB.out bx)
  clear bx
  have PX := hid (Blk.new w 44 (mcs A n c B k d f))
  have bx := below_box (w.alloc (.cells (mcs A n c B k d f) 44)) (.cells (rdc s0.a s0.f s0.m s0.ph s0.bg V vn vc s0.tr) 29)
  replace HX := hid (HX.out.step bx); replace HY := hid (HY.out.step bx); replace HV := hid (HV.out.step bx); replace PX := hid (PX.out.step bx); replace HB := hid (below_then HB.out bx)
  clear bx
  have PY := hid (Blk.new2 w 29 (rdc s0.a s0.f s0.m s0.ph s0.bg V vn vc s0.tr) (.cells (mcs A n c B k d f) 44))
  go_enter Try.func8, Try.ntmps8
  go_wp2_with fail
  generalize (w.alloc (.cells (mcs A n c B k d f) 44)).alloc (.cells (rdc s0.a s0.f s0.m s0.ph s0.bg V vn vc s0.tr) 29) = W0 at *
  refine (sqwakes_any W0).mono ?_
  rintro e w1 ⟨rfl, hb⟩
  replace HX := hid (HX.out.step hb); replace HY := hid (HY.out.step hb); replace HV := hid (HV.out.step hb); replace PX := hid (PX.out.step hb); replace PY := hid (PY.out.step hb); replace HB := hid (below_then HB.out hb)
  clear hb
  go_upto_region 3 with fail
  have XX := HX; have XY := HY; have XV := HV; have XPX := PX; have XPY := PY; have HQ := hid (Below.refl w1.heap.size w1)
  go_cut [7, 8] (fun s7 s8 wx => ∃ g7 g8, s7 = .pointer (some ⟨g7, 0, none⟩) ∧ s8 = .pointer (some ⟨g8, 0, none⟩) ∧ QMid w1 wx g7 g8 (xs.take 48, ys.take 48, f) (cutR s0))
  case first =>
    have bx := (Below.refl w1.heap.size w1).drew
    replace HQ := hid (below_then HQ.out bx)
    clear bx
    have hszd := hid (show w1.drew.heap.size = w1.heap.size from rfl)
    refine wp_region_noPanic ?_
    refine wp_region_held_drew (S := (fun W' : World => W'.cell? ⟨w.heap.size, 0, none⟩ = some (.slice A n c) ∧ W'.cell? ⟨w.heap.size, 1, none⟩ = some (.slice B k d) ∧ W'.cell? ⟨w.heap.size, 2, none⟩ = some (.bool f) ∧ W'.cell? ⟨w.heap.size + 1, 0, none⟩ = some (.int .i64 s0.a) ∧ W'.cell? ⟨w.heap.size + 1, 1, none⟩ = some (.int .i64 s0.f) ∧ W'.cell? ⟨w.heap.size + 1, 2, none⟩ = some (.int .i64 s0.m) ∧ W'.cell? ⟨w.heap.size + 1, 3, none⟩ = some (.int .i64 s0.ph) ∧ W'.cell? ⟨w.heap.size + 1, 4, none⟩ = some (.int .u64 s0.bg) ∧ W'.cell? ⟨w.heap.size + 1, 5, none⟩ = some (.slice V vn vc) ∧ W'.cell? ⟨w.heap.size + 1, 6, none⟩ = some (.int .i64 s0.tr))) (by kernel_rfl) ⟨(XPX.out.step HQ.out).cells3.1, (XPX.out.step HQ.out).cells3.2.1, (XPX.out.step HQ.out).cells3.2.2.1, (XPY.out.step HQ.out).cells7.1, (XPY.out.step HQ.out).cells7.2.1, (XPY.out.step HQ.out).cells7.2.2.1, (XPY.out.step HQ.out).cells7.2.2.2.1, (XPY.out.step HQ.out).cells7.2.2.2.2.1, (XPY.out.step HQ.out).cells7.2.2.2.2.2.1, (XPY.out.step HQ.out).cells7.2.2.2.2.2.2.1⟩ (fun hS => ?_)
    generalize w1.drew = Wd at *
    refine wpAnyH_take (i := 0) (v := ?_) (by simp only [List.getElem?_toArray, List.getElem?_cons_succ, List.getElem?_cons_zero]; rfl) (by kernel_rfl) (by kernel_rfl) (by kernel_rfl) (fun _ _ _ h => h) (Or.inl ⟨by rfl, ?_⟩) hS ?_
    rotate_left
    · intro w' hSw; (try dsimp only at hSw); go_split_ands; go_simp; (try with_reducible rfl)
    (try simp only [Act.put, List.setIfInBounds_toArray, List.set_cons_zero, List.set_cons_succ])
    refine wpAnyH_take (i := 2) (v := ?_) (by simp only [List.getElem?_toArray, List.getElem?_cons_succ, List.getElem?_cons_zero]; rfl) (by kernel_rfl) (by kernel_rfl) (by kernel_rfl) (fun _ _ _ h => h) (Or.inl ⟨by rfl, ?_⟩) hS ?_
    rotate_left
    · intro w' hSw; (try dsimp only at hSw); go_split_ands; go_simp; (try with_reducible rfl)
    (try simp only [Act.put, List.setIfInBounds_toArray, List.set_cons_zero, List.set_cons_succ])
    refine wpAnyH_ready (rs := [1, 4, 5]) (by kernel_rfl) (by simp) ?_
    refine AllReadyH.cons (by simp only [List.getElem?_toArray, List.getElem?_cons_succ, List.getElem?_cons_zero]; rfl) (fun K hK => ?_) ?_
    · skip
      go_simp
      refine (lawown_any A n c B k d f xs ys _ (XX.out.step HQ.out) (XY.out.step HQ.out) hnc hkd).mono ?_
      rintro e ws1 ⟨A2, n2, c2, B2, k2, d2, rfl, om, hb⟩
      have hsz0 := hid (show Wd.heap.size ≤ ws1.heap.size from hb.size)
      replace HQ := hid (below_then HQ.out hb)
      clear hb
      have OM := hid (om.mono (show w1.heap.size ≤ _ by have := hszd.out; omega))
      clear om
      go_wp2_with fail
      refine hK.out _ _ ⟨(XPX.out.step HQ.out).cells3.1, (XPX.out.step HQ.out).cells3.2.1, (XPX.out.step HQ.out).cells3.2.2.1, (XPY.out.step HQ.out).cells7.1, (XPY.out.step HQ.out).cells7.2.1, (XPY.out.step HQ.out).cells7.2.2.1, (XPY.out.step HQ.out).cells7.2.2.2.1, (XPY.out.step HQ.out).cells7.2.2.2.2.1, (XPY.out.step HQ.out).cells7.2.2.2.2.2.1, (XPY.out.step HQ.out).cells7.2.2.2.2.2.2.1⟩ (fun hS' => ?_)
      clear hK K hS
      have hS := hS'
      clear hS'
      (try simp only [Act.put, List.setIfInBounds_toArray, List.set_cons_zero, List.set_cons_succ])
      refine wpAnyH_ready (rs := [3, 4, 5]) (by kernel_rfl) (by simp) ?_
      refine AllReadyH.cons (by simp only [List.getElem?_toArray, List.getElem?_cons_succ, List.getElem?_cons_zero]; rfl) (fun K hK => ?_) ?_
      · skip
        go_simp
        refine (ownread_any s0 V vn vc _ (XV.out.step HQ.out) hvc).mono ?_
        rintro e ws3 ⟨V2, vn2, vc2, rfl, ov, hb⟩
        have hsz1 := hid (show ws1.heap.size ≤ ws3.heap.size from hb.size)
        replace OM := hid (OM.out.step hb); replace HQ := hid (below_then HQ.out hb)
        clear hb
        have OV := hid (ov.mono (show w1.heap.size ≤ _ by have := hszd.out; have := hsz0.out; omega))
        clear ov
        go_wp2_with fail
        refine hK.out _ _ ⟨(XPX.out.step HQ.out).cells3.1, (XPX.out.step HQ.out).cells3.2.1, (XPX.out.step HQ.out).cells3.2.2.1, (XPY.out.step HQ.out).cells7.1, (XPY.out.step HQ.out).cells7.2.1, (XPY.out.step HQ.out).cells7.2.2.1, (XPY.out.step HQ.out).cells7.2.2.2.1, (XPY.out.step HQ.out).cells7.2.2.2.2.1, (XPY.out.step HQ.out).cells7.2.2.2.2.2.1, (XPY.out.step HQ.out).cells7.2.2.2.2.2.2.1⟩ (fun hS' => ?_)
        clear hK K hS
        have hS := hS'
        clear hS'
        (try simp only [Act.put, List.setIfInBounds_toArray, List.set_cons_zero, List.set_cons_succ])
        refine wpAnyH_ready (rs := [4, 5]) (by kernel_rfl) (by simp) ?_
        refine AllReadyH.cons (by simp only [List.getElem?_toArray, List.getElem?_cons_succ, List.getElem?_cons_zero]; rfl) (fun K hK => ?_) ?_
        · skip
          go_simp
          refine named_alloc ?_
          intro Wa4 hbk hb hsz
          have hsz2 := hid hsz
          replace OM := hid (OM.out.step hb); replace OV := hid (OV.out.step hb); replace HQ := hid (below_then HQ.out hb)
          have P7 := hid hbk
          clear hb hbk hsz
          refine hK.out _ _ ⟨(XPX.out.step HQ.out).cells3.1, (XPX.out.step HQ.out).cells3.2.1, (XPX.out.step HQ.out).cells3.2.2.1, (XPY.out.step HQ.out).cells7.1, (XPY.out.step HQ.out).cells7.2.1, (XPY.out.step HQ.out).cells7.2.2.1, (XPY.out.step HQ.out).cells7.2.2.2.1, (XPY.out.step HQ.out).cells7.2.2.2.2.1, (XPY.out.step HQ.out).cells7.2.2.2.2.2.1, (XPY.out.step HQ.out).cells7.2.2.2.2.2.2.1⟩ (fun hS' => ?_)
          clear hK K hS
          have hS := hS'
          clear hS'
          (try simp only [Act.put, List.setIfInBounds_toArray, List.set_cons_zero, List.set_cons_succ])
          refine wpAnyH_ready (rs := [5]) (by kernel_rfl) (by simp) ?_
          refine AllReadyH.cons (by simp only [List.getElem?_toArray, List.getElem?_cons_succ, List.getElem?_cons_zero]; rfl) (fun K hK => ?_) ?_
          · skip
            go_simp
            refine named_alloc ?_
            intro Wa5 hbk hb hsz
            have hsz3 := hid hsz
            replace OM := hid (OM.out.step hb); replace OV := hid (OV.out.step hb); replace P7 := hid (P7.out.step hb); replace HQ := hid (below_then HQ.out hb)
            have P8 := hid hbk
            clear hb hbk hsz
            refine hK.out _ _ ⟨(XPX.out.step HQ.out).cells3.1, (XPX.out.step HQ.out).cells3.2.1, (XPX.out.step HQ.out).cells3.2.2.1, (XPY.out.step HQ.out).cells7.1, (XPY.out.step HQ.out).cells7.2.1, (XPY.out.step HQ.out).cells7.2.2.1, (XPY.out.step HQ.out).cells7.2.2.2.1, (XPY.out.step HQ.out).cells7.2.2.2.2.1, (XPY.out.step HQ.out).cells7.2.2.2.2.2.1, (XPY.out.step HQ.out).cells7.2.2.2.2.2.2.1⟩ (fun hS' => ?_)
            clear hK K hS
            have hS := hS'
            clear hS'
            (try simp only [Act.put, List.setIfInBounds_toArray, List.set_cons_zero, List.set_cons_succ])
            refine wpAnyH_ready (rs := [6]) (by kernel_rfl) (by simp) ?_
            refine AllReadyH.cons (by simp only [List.getElem?_toArray, List.getElem?_cons_succ, List.getElem?_cons_zero]; rfl) (fun K hK => ?_) ?_
            · skip
              obtain ⟨y00, y01, y02, yf0⟩ := P7.out.cells3
              go_simp
              clear y00 y01 y02 yf0
              refine named_store3 P7.out ?_
              intro Ws6 hbk hgr hsz
              have hsz4 := hid hsz
              clear hsz
              replace P8 := hid (P8.out.grown hgr (fun e => P7.out.ne P8.out (by decide) (by simpa using e.symm)))
              replace OM := hid (mown_kept OM.out P7.out tm1 tm2 hgr)
              replace OV := hid (OV.out.keptG hgr (fun v hv e => OV.out.ne_blk P7.out tm1 v hv (by simpa using e)))
              replace HQ := hid (HQ.out.grown hgr HQ.out.size (fun r e => by cases e; have := hszd.out; have := hsz0.out; have := hsz1.out; have := hsz2.out; have := hsz3.out; have := hsz4.out; omega))
              replace P7 := hid hbk
              clear hbk hgr
              refine hK.out _ _ ⟨(XPX.out.step HQ.out).cells3.1, (XPX.out.step HQ.out).cells3.2.1, (XPX.out.step HQ.out).cells3.2.2.1, (XPY.out.step HQ.out).cells7.1, (XPY.out.step HQ.out).cells7.2.1, (XPY.out.step HQ.out).cells7.2.2.1, (XPY.out.step HQ.out).cells7.2.2.2.1, (XPY.out.step HQ.out).cells7.2.2.2.2.1, (XPY.out.step HQ.out).cells7.2.2.2.2.2.1, (XPY.out.step HQ.out).cells7.2.2.2.2.2.2.1⟩ (fun hS' => ?_)
              clear hK K hS
              have hS := hS'
              clear hS'
              (try simp only [Act.put, List.setIfInBounds_toArray, List.set_cons_zero, List.set_cons_succ])
              refine wpAnyH_ready (rs := [7]) (by kernel_rfl) (by simp) ?_
              refine AllReadyH.cons (by simp only [List.getElem?_toArray, List.getElem?_cons_succ, List.getElem?_cons_zero]; rfl) (fun K hK => ?_) ?_
              · skip
                obtain ⟨y00, y01, y02, y03, y04, y05, y06, yf0⟩ := P8.out.cells7
                go_simp
                clear y00 y01 y02 y03 y04 y05 y06 yf0
                refine named_store_7_7_0 P8.out ?_
                intro Ws7 hbk hgr hsz
                have hsz5 := hid hsz
                clear hsz
                replace P7 := hid (P7.out.grown hgr (fun e => P7.out.ne P8.out (by decide) (by simpa using e)))
                replace OM := hid (mown_kept OM.out P8.out ts1 ts2 hgr)
                replace OV := hid (OV.out.keptG hgr (fun v hv e => OV.out.ne_blk P8.out ts1 v hv (by simpa using e)))
                replace HQ := hid (HQ.out.grown hgr HQ.out.size (fun r e => by cases e; have := hszd.out; have := hsz0.out; have := hsz1.out; have := hsz2.out; have := hsz3.out; have := hsz4.out; have := hsz5.out; omega))
                replace P8 := hid hbk
                clear hbk hgr
                refine hK.out _ _ ⟨(XPX.out.step HQ.out).cells3.1, (XPX.out.step HQ.out).cells3.2.1, (XPX.out.step HQ.out).cells3.2.2.1, (XPY.out.step HQ.out).cells7.1, (XPY.out.step HQ.out).cells7.2.1, (XPY.out.step HQ.out).cells7.2.2.1, (XPY.out.step HQ.out).cells7.2.2.2.1, (XPY.out.step HQ.out).cells7.2.2.2.2.1, (XPY.out.step HQ.out).cells7.2.2.2.2.2.1, (XPY.out.step HQ.out).cells7.2.2.2.2.2.2.1⟩ (fun hS' => ?_)
                clear hK K hS
                have hS := hS'
                clear hS'
                (try simp only [Act.put, List.setIfInBounds_toArray, List.set_cons_zero, List.set_cons_succ])
                refine wpAnyH_done (by kernel_rfl) ?_ _
                refine NoPanic.normal ?_
                clear hS
                go_wp2_with fail
                go_meet
                exact ⟨_, _, rfl, rfl, ⟨⟨_, _, _, _, _, _, _, _, _, P7.out, OM.out, P8.out, OV.out, by rw [← OV.out.len]; exact Nat.le_trans (List.length_take_le _ _) (by decide)⟩, HQ.out, by have := hszd.out; have := hsz0.out; have := hsz1.out; have := hsz2.out; have := hsz3.out; have := hsz4.out; have := hsz5.out; omega, by have := hszd.out; have := hsz0.out; have := hsz1.out; have := hsz2.out; have := hsz3.out; have := hsz4.out; have := hsz5.out; omega⟩⟩
              exact AllReadyH.nil
            exact AllReadyH.nil
          exact AllReadyH.nil
        refine AllReadyH.cons (by simp only [List.getElem?_toArray, List.getElem?_cons_succ, List.getElem?_cons_zero]; rfl) (fun K hK => ?_) ?_
        · skip
          go_simp
          refine named_alloc ?_
          intro Wa5 hbk hb hsz
          have hsz2 := hid hsz
          replace OM := hid (OM.out.step hb); replace OV := hid (OV.out.step hb); replace HQ := hid (below_then HQ.out hb)
          have P8 := hid hbk
          clear hb hbk hsz
          refine hK.out _ _ ⟨(XPX.out.step HQ.out).cells3.1, (XPX.out.step HQ.out).cells3.2.1, (XPX.out.step HQ.out).cells3.2.2.1, (XPY.out.step HQ.out).cells7.1, (XPY.out.step HQ.out).cells7.2.1, (XPY.out.step HQ.out).cells7.2.2.1, (XPY.out.step HQ.out).cells7.2.2.2.1, (XPY.out.step HQ.out).cells7.2.2.2.2.1, (XPY.out.step HQ.out).cells7.2.2.2.2.2.1, (XPY.out.step HQ.out).cells7.2.2.2.2.2.2.1⟩ (fun hS' => ?_)
          clear hK K hS
          have hS := hS'
          clear hS'
          (try simp only [Act.put, List.setIfInBounds_toArray, List.set_cons_zero, List.set_cons_succ])
          refine wpAnyH_ready (rs := [4]) (by kernel_rfl) (by simp) ?_
          refine AllReadyH.cons (by simp only [List.getElem?_toArray, List.getElem?_cons_succ, List.getElem?_cons_zero]; rfl) (fun K hK => ?_) ?_
          · skip
            go_simp
            refine named_alloc ?_
            intro Wa4 hbk hb hsz
            have hsz3 := hid hsz
            replace OM := hid (OM.out.step hb); replace OV := hid (OV.out.step hb); replace P8 := hid (P8.out.step hb); replace HQ := hid (below_then HQ.out hb)
            have P7 := hid hbk
            clear hb hbk hsz
            refine hK.out _ _ ⟨(XPX.out.step HQ.out).cells3.1, (XPX.out.step HQ.out).cells3.2.1, (XPX.out.step HQ.out).cells3.2.2.1, (XPY.out.step HQ.out).cells7.1, (XPY.out.step HQ.out).cells7.2.1, (XPY.out.step HQ.out).cells7.2.2.1, (XPY.out.step HQ.out).cells7.2.2.2.1, (XPY.out.step HQ.out).cells7.2.2.2.2.1, (XPY.out.step HQ.out).cells7.2.2.2.2.2.1, (XPY.out.step HQ.out).cells7.2.2.2.2.2.2.1⟩ (fun hS' => ?_)
            clear hK K hS
            have hS := hS'
            clear hS'
            (try simp only [Act.put, List.setIfInBounds_toArray, List.set_cons_zero, List.set_cons_succ])
            refine wpAnyH_ready (rs := [6]) (by kernel_rfl) (by simp) ?_
            refine AllReadyH.cons (by simp only [List.getElem?_toArray, List.getElem?_cons_succ, List.getElem?_cons_zero]; rfl) (fun K hK => ?_) ?_
            · skip
              obtain ⟨y00, y01, y02, yf0⟩ := P7.out.cells3
              go_simp
              clear y00 y01 y02 yf0
              refine named_store3 P7.out ?_
              intro Ws6 hbk hgr hsz
              have hsz4 := hid hsz
              clear hsz
              replace P8 := hid (P8.out.grown hgr (fun e => P7.out.ne P8.out (by decide) (by simpa using e.symm)))
              replace OM := hid (mown_kept OM.out P7.out tm1 tm2 hgr)
              replace OV := hid (OV.out.keptG hgr (fun v hv e => OV.out.ne_blk P7.out tm1 v hv (by simpa using e)))
              replace HQ := hid (HQ.out.grown hgr HQ.out.size (fun r e => by cases e; have := hszd.out; have := hsz0.out; have := hsz1.out; have := hsz2.out; have := hsz3.out; have := hsz4.out; omega))
              replace P7 := hid hbk
              clear hbk hgr
              refine hK.out _ _ ⟨(XPX.out.step HQ.out).cells3.1, (XPX.out.step HQ.out).cells3.2.1, (XPX.out.step HQ.out).cells3.2.2.1, (XPY.out.step HQ.out).cells7.1, (XPY.out.step HQ.out).cells7.2.1, (XPY.out.step HQ.out).cells7.2.2.1, (XPY.out.step HQ.out).cells7.2.2.2.1, (XPY.out.step HQ.out).cells7.2.2.2.2.1, (XPY.out.step HQ.out).cells7.2.2.2.2.2.1, (XPY.out.step HQ.out).cells7.2.2.2.2.2.2.1⟩ (fun hS' => ?_)
              clear hK K hS
              have hS := hS'
              clear hS'
              (try simp only [Act.put, List.setIfInBounds_toArray, List.set_cons_zero, List.set_cons_succ])
              refine wpAnyH_ready (rs := [7]) (by kernel_rfl) (by simp) ?_
              refine AllReadyH.cons (by simp only [List.getElem?_toArray, List.getElem?_cons_succ, List.getElem?_cons_zero]; rfl) (fun K hK => ?_) ?_
              · skip
                obtain ⟨y00, y01, y02, y03, y04, y05, y06, yf0⟩ := P8.out.cells7
                go_simp
                clear y00 y01 y02 y03 y04 y05 y06 yf0
                refine named_store_7_7_0 P8.out ?_
                intro Ws7 hbk hgr hsz
                have hsz5 := hid hsz
                clear hsz
                replace P7 := hid (P7.out.grown hgr (fun e => P7.out.ne P8.out (by decide) (by simpa using e)))
                replace OM := hid (mown_kept OM.out P8.out ts1 ts2 hgr)
                replace OV := hid (OV.out.keptG hgr (fun v hv e => OV.out.ne_blk P8.out ts1 v hv (by simpa using e)))
                replace HQ := hid (HQ.out.grown hgr HQ.out.size (fun r e => by cases e; have := hszd.out; have := hsz0.out; have := hsz1.out; have := hsz2.out; have := hsz3.out; have := hsz4.out; have := hsz5.out; omega))
                replace P8 := hid hbk
                clear hbk hgr
                refine hK.out _ _ ⟨(XPX.out.step HQ.out).cells3.1, (XPX.out.step HQ.out).cells3.2.1, (XPX.out.step HQ.out).cells3.2.2.1, (XPY.out.step HQ.out).cells7.1, (XPY.out.step HQ.out).cells7.2.1, (XPY.out.step HQ.out).cells7.2.2.1, (XPY.out.step HQ.out).cells7.2.2.2.1, (XPY.out.step HQ.out).cells7.2.2.2.2.1, (XPY.out.step HQ.out).cells7.2.2.2.2.2.1, (XPY.out.step HQ.out).cells7.2.2.2.2.2.2.1⟩ (fun hS' => ?_)
                clear hK K hS
                have hS := hS'
                clear hS'
                (try simp only [Act.put, List.setIfInBounds_toArray, List.set_cons_zero, List.set_cons_succ])
                refine wpAnyH_done (by kernel_rfl) ?_ _
                refine NoPanic.normal ?_
                clear hS
                go_wp2_with fail
                go_meet
                exact ⟨_, _, rfl, rfl, ⟨⟨_, _, _, _, _, _, _, _, _, P7.out, OM.out, P8.out, OV.out, by rw [← OV.out.len]; exact Nat.le_trans (List.length_take_le _ _) (by decide)⟩, HQ.out, by have := hszd.out; have := hsz0.out; have := hsz1.out; have := hsz2.out; have := hsz3.out; have := hsz4.out; have := hsz5.out; omega, by have := hszd.out; have := hsz0.out; have := hsz1.out; have := hsz2.out; have := hsz3.out; have := hsz4.out; have := hsz5.out; omega⟩⟩
              exact AllReadyH.nil
            exact AllReadyH.nil
          exact AllReadyH.nil
        exact AllReadyH.nil
      refine AllReadyH.cons (by simp only [List.getElem?_toArray, List.getElem?_cons_succ, List.getElem?_cons_zero]; rfl) (fun K hK => ?_) ?_
      · skip
        go_simp
        refine named_alloc ?_
        intro Wa4 hbk hb hsz
        have hsz1 := hid hsz
        replace OM := hid (OM.out.step hb); replace HQ := hid (below_then HQ.out hb)
        have P7 := hid hbk
        clear hb hbk hsz
        refine hK.out _ _ ⟨(XPX.out.step HQ.out).cells3.1, (XPX.out.step HQ.out).cells3.2.1, (XPX.out.step HQ.out).cells3.2.2.1, (XPY.out.step HQ.out).cells7.1, (XPY.out.step HQ.out).cells7.2.1, (XPY.out.step HQ.out).cells7.2.2.1, (XPY.out.step HQ.out).cells7.2.2.2.1, (XPY.out.step HQ.out).cells7.2.2.2.2.1, (XPY.out.step HQ.out).cells7.2.2.2.2.2.1, (XPY.out.step HQ.out).cells7.2.2.2.2.2.2.1⟩ (fun hS' => ?_)
        clear hK K hS
        have hS := hS'
        clear hS'
        (try simp only [Act.put, List.setIfInBounds_toArray, List.set_cons_zero, List.set_cons_succ])
        refine wpAnyH_ready (rs := [3, 5]) (by kernel_rfl) (by simp) ?_
        refine AllReadyH.cons (by simp only [List.getElem?_toArray, List.getElem?_cons_succ, List.getElem?_cons_zero]; rfl) (fun K hK => ?_) ?_
        · skip
          go_simp
          refine (ownread_any s0 V vn vc _ (XV.out.step HQ.out) hvc).mono ?_
          rintro e ws3 ⟨V2, vn2, vc2, rfl, ov, hb⟩
          have hsz2 := hid (show Wa4.heap.size ≤ ws3.heap.size from hb.size)
          replace OM := hid (OM.out.step hb); replace P7 := hid (P7.out.step hb); replace HQ := hid (below_then HQ.out hb)
          clear hb
          have OV := hid (ov.mono (show w1.heap.size ≤ _ by have := hszd.out; have := hsz0.out; have := hsz1.out; omega))
          clear ov
          go_wp2_with fail
          refine hK.out _ _ ⟨(XPX.out.step HQ.out).cells3.1, (XPX.out.step HQ.out).cells3.2.1, (XPX.out.step HQ.out).cells3.2.2.1, (XPY.out.step HQ.out).cells7.1, (XPY.out.step HQ.out).cells7.2.1, (XPY.out.step HQ.out).cells7.2.2.1, (XPY.out.step HQ.out).cells7.2.2.2.1, (XPY.out.step HQ.out).cells7.2.2.2.2.1, (XPY.out.step HQ.out).cells7.2.2.2.2.2.1, (XPY.out.step HQ.out).cells7.2.2.2.2.2.2.1⟩ (fun hS' => ?_)
          clear hK K hS
          have hS := hS'
          clear hS'
          (try simp only [Act.put, List.setIfInBounds_toArray, List.set_cons_zero, List.set_cons_succ])
          refine wpAnyH_ready (rs := [5]) (by kernel_rfl) (by simp) ?_
          refine AllReadyH.cons (by simp only [List.getElem?_toArray, List.getElem?_cons_succ, List.getElem?_cons_zero]; rfl) (fun K hK => ?_) ?_
          · skip
            go_simp
            refine named_alloc ?_
            intro Wa5 hbk hb hsz
            have hsz3 := hid hsz
            replace OM := hid (OM.out.step hb); replace P7 := hid (P7.out.step hb); replace OV := hid (OV.out.step hb); replace HQ := hid (below_then HQ.out hb)
            have P8 := hid hbk
            clear hb hbk hsz
            refine hK.out _ _ ⟨(XPX.out.step HQ.out).cells3.1, (XPX.out.step HQ.out).cells3.2.1, (XPX.out.step HQ.out).cells3.2.2.1, (XPY.out.step HQ.out).cells7.1, (XPY.out.step HQ.out).cells7.2.1, (XPY.out.step HQ.out).cells7.2.2.1, (XPY.out.step HQ.out).cells7.2.2.2.1, (XPY.out.step HQ.out).cells7.2.2.2.2.1, (XPY.out.step HQ.out).cells7.2.2.2.2.2.1, (XPY.out.step HQ.out).cells7.2.2.2.2.2.2.1⟩ (fun hS' => ?_)
            clear hK K hS
            have hS := hS'
            clear hS'
            (try simp only [Act.put, List.setIfInBounds_toArray, List.set_cons_zero, List.set_cons_succ])
            refine wpAnyH_ready (rs := [6]) (by kernel_rfl) (by simp) ?_
            refine AllReadyH.cons (by simp only [List.getElem?_toArray, List.getElem?_cons_succ, List.getElem?_cons_zero]; rfl) (fun K hK => ?_) ?_
            · skip
              obtain ⟨y00, y01, y02, yf0⟩ := P7.out.cells3
              go_simp
              clear y00 y01 y02 yf0
              refine named_store3 P7.out ?_
              intro Ws6 hbk hgr hsz
              have hsz4 := hid hsz
              clear hsz
              replace P8 := hid (P8.out.grown hgr (fun e => P7.out.ne P8.out (by decide) (by simpa using e.symm)))
              replace OM := hid (mown_kept OM.out P7.out tm1 tm2 hgr)
              replace OV := hid (OV.out.keptG hgr (fun v hv e => OV.out.ne_blk P7.out tm1 v hv (by simpa using e)))
              replace HQ := hid (HQ.out.grown hgr HQ.out.size (fun r e => by cases e; have := hszd.out; have := hsz0.out; have := hsz1.out; have := hsz2.out; have := hsz3.out; have := hsz4.out; omega))
              replace P7 := hid hbk
              clear hbk hgr
              refine hK.out _ _ ⟨(XPX.out.step HQ.out).cells3.1, (XPX.out.step HQ.out).cells3.2.1, (XPX.out.step HQ.out).cells3.2.2.1, (XPY.out.step HQ.out).cells7.1, (XPY.out.step HQ.out).cells7.2.1, (XPY.out.step HQ.out).cells7.2.2.1, (XPY.out.step HQ.out).cells7.2.2.2.1, (XPY.out.step HQ.out).cells7.2.2.2.2.1, (XPY.out.step HQ.out).cells7.2.2.2.2.2.1, (XPY.out.step HQ.out).cells7.2.2.2.2.2.2.1⟩ (fun hS' => ?_)
              clear hK K hS
              have hS := hS'
              clear hS'
              (try simp only [Act.put, List.setIfInBounds_toArray, List.set_cons_zero, List.set_cons_succ])
              refine wpAnyH_ready (rs := [7]) (by kernel_rfl) (by simp) ?_
              refine AllReadyH.cons (by simp only [List.getElem?_toArray, List.getElem?_cons_succ, List.getElem?_cons_zero]; rfl) (fun K hK => ?_) ?_
              · skip
                obtain ⟨y00, y01, y02, y03, y04, y05, y06, yf0⟩ := P8.out.cells7
                go_simp
                clear y00 y01 y02 y03 y04 y05 y06 yf0
                refine named_store_7_7_0 P8.out ?_
                intro Ws7 hbk hgr hsz
                have hsz5 := hid hsz
                clear hsz
                replace P7 := hid (P7.out.grown hgr (fun e => P7.out.ne P8.out (by decide) (by simpa using e)))
                replace OM := hid (mown_kept OM.out P8.out ts1 ts2 hgr)
                replace OV := hid (OV.out.keptG hgr (fun v hv e => OV.out.ne_blk P8.out ts1 v hv (by simpa using e)))
                replace HQ := hid (HQ.out.grown hgr HQ.out.size (fun r e => by cases e; have := hszd.out; have := hsz0.out; have := hsz1.out; have := hsz2.out; have := hsz3.out; have := hsz4.out; have := hsz5.out; omega))
                replace P8 := hid hbk
                clear hbk hgr
                refine hK.out _ _ ⟨(XPX.out.step HQ.out).cells3.1, (XPX.out.step HQ.out).cells3.2.1, (XPX.out.step HQ.out).cells3.2.2.1, (XPY.out.step HQ.out).cells7.1, (XPY.out.step HQ.out).cells7.2.1, (XPY.out.step HQ.out).cells7.2.2.1, (XPY.out.step HQ.out).cells7.2.2.2.1, (XPY.out.step HQ.out).cells7.2.2.2.2.1, (XPY.out.step HQ.out).cells7.2.2.2.2.2.1, (XPY.out.step HQ.out).cells7.2.2.2.2.2.2.1⟩ (fun hS' => ?_)
                clear hK K hS
                have hS := hS'
                clear hS'
                (try simp only [Act.put, List.setIfInBounds_toArray, List.set_cons_zero, List.set_cons_succ])
                refine wpAnyH_done (by kernel_rfl) ?_ _
                refine NoPanic.normal ?_
                clear hS
                go_wp2_with fail
                go_meet
                exact ⟨_, _, rfl, rfl, ⟨⟨_, _, _, _, _, _, _, _, _, P7.out, OM.out, P8.out, OV.out, by rw [← OV.out.len]; exact Nat.le_trans (List.length_take_le _ _) (by decide)⟩, HQ.out, by have := hszd.out; have := hsz0.out; have := hsz1.out; have := hsz2.out; have := hsz3.out; have := hsz4.out; have := hsz5.out; omega, by have := hszd.out; have := hsz0.out; have := hsz1.out; have := hsz2.out; have := hsz3.out; have := hsz4.out; have := hsz5.out; omega⟩⟩
              exact AllReadyH.nil
            exact AllReadyH.nil
          exact AllReadyH.nil
        refine AllReadyH.cons (by simp only [List.getElem?_toArray, List.getElem?_cons_succ, List.getElem?_cons_zero]; rfl) (fun K hK => ?_) ?_
        · skip
          go_simp
          refine named_alloc ?_
          intro Wa5 hbk hb hsz
          have hsz2 := hid hsz
          replace OM := hid (OM.out.step hb); replace P7 := hid (P7.out.step hb); replace HQ := hid (below_then HQ.out hb)
          have P8 := hid hbk
          clear hb hbk hsz
          refine hK.out _ _ ⟨(XPX.out.step HQ.out).cells3.1, (XPX.out.step HQ.out).cells3.2.1, (XPX.out.step HQ.out).cells3.2.2.1, (XPY.out.step HQ.out).cells7.1, (XPY.out.step HQ.out).cells7.2.1, (XPY.out.step HQ.out).cells7.2.2.1, (XPY.out.step HQ.out).cells7.2.2.2.1, (XPY.out.step HQ.out).cells7.2.2.2.2.1, (XPY.out.step HQ.out).cells7.2.2.2.2.2.1, (XPY.out.step HQ.out).cells7.2.2.2.2.2.2.1⟩ (fun hS' => ?_)
          clear hK K hS
          have hS := hS'
          clear hS'
          (try simp only [Act.put, List.setIfInBounds_toArray, List.set_cons_zero, List.set_cons_succ])
          refine wpAnyH_ready (rs := [3]) (by kernel_rfl) (by simp) ?_
          refine AllReadyH.cons (by simp only [List.getElem?_toArray, List.getElem?_cons_succ, List.getElem?_cons_zero]; rfl) (fun K hK => ?_) ?_
          · skip
            go_simp
            refine (ownread_any s0 V vn vc _ (XV.out.step HQ.out) hvc).mono ?_
            rintro e ws3 ⟨V2, vn2, vc2, rfl, ov, hb⟩
            have hsz3 := hid (show Wa5.heap.size ≤ ws3.heap.size from hb.size)
            replace OM := hid (OM.out.step hb); replace P7 := hid (P7.out.step hb); replace P8 := hid (P8.out.step hb); replace HQ := hid (below_then HQ.out hb)
            clear hb
            have OV := hid (ov.mono (show w1.heap.size ≤ _ by have := hszd.out; have := hsz0.out; have := hsz1.out; have := hsz2.out; omega))
            clear ov
            go_wp2_with fail
            refine hK.out _ _ ⟨(XPX.out.step HQ.out).cells3.1, (XPX.out.step HQ.out).cells3.2.1, (XPX.out.step HQ.out).cells3.2.2.1, (XPY.out.step HQ.out).cells7.1, (XPY.out.step HQ.out).cells7.2.1, (XPY.out.step HQ.out).cells7.2.2.1, (XPY.out.step HQ.out).cells7.2.2.2.1, (XPY.out.step HQ.out).cells7.2.2.2.2.1, (XPY.out.step HQ.out).cells7.2.2.2.2.2.1, (XPY.out.step HQ.out).cells7.2.2.2.2.2.2.1⟩ (fun hS' => ?_)
            clear hK K hS
            have hS := hS'
            clear hS'
            (try simp only [Act.put, List.setIfInBounds_toArray, List.set_cons_zero, List.set_cons_succ])
            refine wpAnyH_ready (rs := [6]) (by kernel_rfl) (by simp) ?_
            refine AllReadyH.cons (by simp only [List.getElem?_toArray, List.getElem?_cons_succ, List.getElem?_cons_zero]; rfl) (fun K hK => ?_) ?_
            · skip
              obtain ⟨y00, y01, y02, yf0⟩ := P7.out.cells3
              go_simp
              clear y00 y01 y02 yf0
              refine named_store3 P7.out ?_
              intro Ws6 hbk hgr hsz
              have hsz4 := hid hsz
              clear hsz
              replace P8 := hid (P8.out.grown hgr (fun e => P7.out.ne P8.out (by decide) (by simpa using e.symm)))
              replace OM := hid (mown_kept OM.out P7.out tm1 tm2 hgr)
              replace OV := hid (OV.out.keptG hgr (fun v hv e => OV.out.ne_blk P7.out tm1 v hv (by simpa using e)))
              replace HQ := hid (HQ.out.grown hgr HQ.out.size (fun r e => by cases e; have := hszd.out; have := hsz0.out; have := hsz1.out; have := hsz2.out; have := hsz3.out; have := hsz4.out; omega))
              replace P7 := hid hbk
              clear hbk hgr
              refine hK.out _ _ ⟨(XPX.out.step HQ.out).cells3.1, (XPX.out.step HQ.out).cells3.2.1, (XPX.out.step HQ.out).cells3.2.2.1, (XPY.out.step HQ.out).cells7.1, (XPY.out.step HQ.out).cells7.2.1, (XPY.out.step HQ.out).cells7.2.2.1, (XPY.out.step HQ.out).cells7.2.2.2.1, (XPY.out.step HQ.out).cells7.2.2.2.2.1, (XPY.out.step HQ.out).cells7.2.2.2.2.2.1, (XPY.out.step HQ.out).cells7.2.2.2.2.2.2.1⟩ (fun hS' => ?_)
              clear hK K hS
              have hS := hS'
              clear hS'
              (try simp only [Act.put, List.setIfInBounds_toArray, List.set_cons_zero, List.set_cons_succ])
              refine wpAnyH_ready (rs := [7]) (by kernel_rfl) (by simp) ?_
              refine AllReadyH.cons (by simp only [List.getElem?_toArray, List.getElem?_cons_succ, List.getElem?_cons_zero]; rfl) (fun K hK => ?_) ?_
              · skip
                obtain ⟨y00, y01, y02, y03, y04, y05, y06, yf0⟩ := P8.out.cells7
                go_simp
                clear y00 y01 y02 y03 y04 y05 y06 yf0
                refine named_store_7_7_0 P8.out ?_
                intro Ws7 hbk hgr hsz
                have hsz5 := hid hsz
                clear hsz
                replace P7 := hid (P7.out.grown hgr (fun e => P7.out.ne P8.out (by decide) (by simpa using e)))
                replace OM := hid (mown_kept OM.out P8.out ts1 ts2 hgr)
                replace OV := hid (OV.out.keptG hgr (fun v hv e => OV.out.ne_blk P8.out ts1 v hv (by simpa using e)))
                replace HQ := hid (HQ.out.grown hgr HQ.out.size (fun r e => by cases e; have := hszd.out; have := hsz0.out; have := hsz1.out; have := hsz2.out; have := hsz3.out; have := hsz4.out; have := hsz5.out; omega))
                replace P8 := hid hbk
                clear hbk hgr
                refine hK.out _ _ ⟨(XPX.out.step HQ.out).cells3.1, (XPX.out.step HQ.out).cells3.2.1, (XPX.out.step HQ.out).cells3.2.2.1, (XPY.out.step HQ.out).cells7.1, (XPY.out.step HQ.out).cells7.2.1, (XPY.out.step HQ.out).cells7.2.2.1, (XPY.out.step HQ.out).cells7.2.2.2.1, (XPY.out.step HQ.out).cells7.2.2.2.2.1, (XPY.out.step HQ.out).cells7.2.2.2.2.2.1, (XPY.out.step HQ.out).cells7.2.2.2.2.2.2.1⟩ (fun hS' => ?_)
                clear hK K hS
                have hS := hS'
                clear hS'
                (try simp only [Act.put, List.setIfInBounds_toArray, List.set_cons_zero, List.set_cons_succ])
                refine wpAnyH_done (by kernel_rfl) ?_ _
                refine NoPanic.normal ?_
                clear hS
                go_wp2_with fail
                go_meet
                exact ⟨_, _, rfl, rfl, ⟨⟨_, _, _, _, _, _, _, _, _, P7.out, OM.out, P8.out, OV.out, by rw [← OV.out.len]; exact Nat.le_trans (List.length_take_le _ _) (by decide)⟩, HQ.out, by have := hszd.out; have := hsz0.out; have := hsz1.out; have := hsz2.out; have := hsz3.out; have := hsz4.out; have := hsz5.out; omega, by have := hszd.out; have := hsz0.out; have := hsz1.out; have := hsz2.out; have := hsz3.out; have := hsz4.out; have := hsz5.out; omega⟩⟩
              exact AllReadyH.nil
            exact AllReadyH.nil
          exact AllReadyH.nil
        exact AllReadyH.nil
      refine AllReadyH.cons (by simp only [List.getElem?_toArray, List.getElem?_cons_succ, List.getElem?_cons_zero]; rfl) (fun K hK => ?_) ?_
      · skip
        go_simp
        refine named_alloc ?_
        intro Wa5 hbk hb hsz
        have hsz1 := hid hsz
        replace OM := hid (OM.out.step hb); replace HQ := hid (below_then HQ.out hb)
        have P8 := hid hbk
        clear hb hbk hsz
        refine hK.out _ _ ⟨(XPX.out.step HQ.out).cells3.1, (XPX.out.step HQ.out).cells3.2.1, (XPX.out.step HQ.out).cells3.2.2.1, (XPY.out.step HQ.out).cells7.1, (XPY.out.step HQ.out).cells7.2.1, (XPY.out.step HQ.out).cells7.2.2.1, (XPY.out.step HQ.out).cells7.2.2.2.1, (XPY.out.step HQ.out).cells7.2.2.2.2.1, (XPY.out.step HQ.out).cells7.2.2.2.2.2.1, (XPY.out.step HQ.out).cells7.2.2.2.2.2.2.1⟩ (fun hS' => ?_)
        clear hK K hS
        have hS := hS'
        clear hS'
        (try simp only [Act.put, List.setIfInBounds_toArray, List.set_cons_zero, List.set_cons_succ])
        refine wpAnyH_ready (rs := [3, 4]) (by kernel_rfl) (by simp) ?_
        refine AllReadyH.cons (by simp only [List.getElem?_toArray, List.getElem?_cons_succ, List.getElem?_cons_zero]; rfl) (fun K hK => ?_) ?_
        · skip
          go_simp
          refine (ownread_any s0 V vn vc _ (XV.out.step HQ.out) hvc).mono ?_
          rintro e ws3 ⟨V2, vn2, vc2, rfl, ov, hb⟩
          have hsz2 := hid (show Wa5.heap.size ≤ ws3.heap.size from hb.size)
          replace OM := hid (OM.out.step hb); replace P8 := hid (P8.out.step hb); replace HQ := hid (below_then HQ.out hb)
          clear hb
          have OV := hid (ov.mono (show w1.heap.size ≤ _ by have := hszd.out; have := hsz0.out; have := hsz1.out; omega))
          clear ov
          go_wp2_with fail
          refine hK.out _ _ ⟨(XPX.out.step HQ.out).cells3.1, (XPX.out.step HQ.out).cells3.2.1, (XPX.out.step HQ.out).cells3.2.2.1, (XPY.out.step HQ.out).cells7.1, (XPY.out.step HQ.out).cells7.2.1, (XPY.out.step HQ.out).cells7.2.2.1, (XPY.out.step HQ.out).cells7.2.2.2.1, (XPY.out.step HQ.out).cells7.2.2.2.2.1, (XPY.out.step HQ.out).cells7.2.2.2.2.2.1, (XPY.out.step HQ.out).cells7.2.2.2.2.2.2.1⟩ (fun hS' => ?_)
          clear hK K hS
          have hS := hS'
          clear hS'
          (try simp only [Act.put, List.setIfInBounds_toArray, List.set_cons_zero, List.set_cons_succ])
          refine wpAnyH_ready (rs := [4]) (by kernel_rfl) (by simp) ?_
          refine AllReadyH.cons (by simp only [List.getElem?_toArray, List.getElem?_cons_succ, List.getElem?_cons_zero]; rfl) (fun K hK => ?_) ?_
          · skip
            go_simp
            refine named_alloc ?_
            intro Wa4 hbk hb hsz
            have hsz3 := hid hsz
            replace OM := hid (OM.out.step hb); replace P8 := hid (P8.out.step hb); replace OV := hid (OV.out.step hb); replace HQ := hid (below_then HQ.out hb)
            have P7 := hid hbk
            clear hb hbk hsz
            refine hK.out _ _ ⟨(XPX.out.step HQ.out).cells3.1, (XPX.out.step HQ.out).cells3.2.1, (XPX.out.step HQ.out).cells3.2.2.1, (XPY.out.step HQ.out).cells7.1, (XPY.out.step HQ.out).cells7.2.1, (XPY.out.step HQ.out).cells7.2.2.1, (XPY.out.step HQ.out).cells7.2.2.2.1, (XPY.out.step HQ.out).cells7.2.2.2.2.1, (XPY.out.step HQ.out).cells7.2.2.2.2.2.1, (XPY.out.step HQ.out).cells7.2.2.2.2.2.2.1⟩ (fun hS' => ?_)
            clear hK K hS
            have hS := hS'
            clear hS'
            (try simp only [Act.put, List.setIfInBounds_toArray, List.set_cons_zero, List.set_cons_succ])
            refine wpAnyH_ready (rs := [6]) (by kernel_rfl) (by simp) ?_
            refine AllReadyH.cons (by simp only [List.getElem?_toArray, List.getElem?_cons_succ, List.getElem?_cons_zero]; rfl) (fun K hK => ?_) ?_
            · skip
              obtain ⟨y00, y01, y02, yf0⟩ := P7.out.cells3
              go_simp
              clear y00 y01 y02 yf0
              refine named_store3 P7.out ?_
              intro Ws6 hbk hgr hsz
              have hsz4 := hid hsz
              clear hsz
              replace P8 := hid (P8.out.grown hgr (fun e => P7.out.ne P8.out (by decide) (by simpa using e.symm)))
              replace OM := hid (mown_kept OM.out P7.out tm1 tm2 hgr)
              replace OV := hid (OV.out.keptG hgr (fun v hv e => OV.out.ne_blk P7.out tm1 v hv (by simpa using e)))
              replace HQ := hid (HQ.out.grown hgr HQ.out.size (fun r e => by cases e; have := hszd.out; have := hsz0.out; have := hsz1.out; have := hsz2.out; have := hsz3.out; have := hsz4.out; omega))
              replace P7 := hid hbk
              clear hbk hgr
              refine hK.out _ _ ⟨(XPX.out.step HQ.out).cells3.1, (XPX.out.step HQ.out).cells3.2.1, (XPX.out.step HQ.out).cells3.2.2.1, (XPY.out.step HQ.out).cells7.1, (XPY.out.step HQ.out).cells7.2.1, (XPY.out.step HQ.out).cells7.2.2.1, (XPY.out.step HQ.out).cells7.2.2.2.1, (XPY.out.step HQ.out).cells7.2.2.2.2.1, (XPY.out.step HQ.out).cells7.2.2.2.2.2.1, (XPY.out.step HQ.out).cells7.2.2.2.2.2.2.1⟩ (fun hS' => ?_)
              clear hK K hS
              have hS := hS'
              clear hS'
              (try simp only [Act.put, List.setIfInBounds_toArray, List.set_cons_zero, List.set_cons_succ])
              refine wpAnyH_ready (rs := [7]) (by kernel_rfl) (by simp) ?_
              refine AllReadyH.cons (by simp only [List.getElem?_toArray, List.getElem?_cons_succ, List.getElem?_cons_zero]; rfl) (fun K hK => ?_) ?_
              · skip
                obtain ⟨y00, y01, y02, y03, y04, y05, y06, yf0⟩ := P8.out.cells7
                go_simp
                clear y00 y01 y02 y03 y04 y05 y06 yf0
                refine named_store_7_7_0 P8.out ?_
                intro Ws7 hbk hgr hsz
                have hsz5 := hid hsz
                clear hsz
                replace P7 := hid (P7.out.grown hgr (fun e => P7.out.ne P8.out (by decide) (by simpa using e)))
                replace OM := hid (mown_kept OM.out P8.out ts1 ts2 hgr)
                replace OV := hid (OV.out.keptG hgr (fun v hv e => OV.out.ne_blk P8.out ts1 v hv (by simpa using e)))
                replace HQ := hid (HQ.out.grown hgr HQ.out.size (fun r e => by cases e; have := hszd.out; have := hsz0.out; have := hsz1.out; have := hsz2.out; have := hsz3.out; have := hsz4.out; have := hsz5.out; omega))
                replace P8 := hid hbk
                clear hbk hgr
                refine hK.out _ _ ⟨(XPX.out.step HQ.out).cells3.1, (XPX.out.step HQ.out).cells3.2.1, (XPX.out.step HQ.out).cells3.2.2.1, (XPY.out.step HQ.out).cells7.1, (XPY.out.step HQ.out).cells7.2.1, (XPY.out.step HQ.out).cells7.2.2.1, (XPY.out.step HQ.out).cells7.2.2.2.1, (XPY.out.step HQ.out).cells7.2.2.2.2.1, (XPY.out.step HQ.out).cells7.2.2.2.2.2.1, (XPY.out.step HQ.out).cells7.2.2.2.2.2.2.1⟩ (fun hS' => ?_)
                clear hK K hS
                have hS := hS'
                clear hS'
                (try simp only [Act.put, List.setIfInBounds_toArray, List.set_cons_zero, List.set_cons_succ])
                refine wpAnyH_done (by kernel_rfl) ?_ _
                refine NoPanic.normal ?_
                clear hS
                go_wp2_with fail
                go_meet
                exact ⟨_, _, rfl, rfl, ⟨⟨_, _, _, _, _, _, _, _, _, P7.out, OM.out, P8.out, OV.out, by rw [← OV.out.len]; exact Nat.le_trans (List.length_take_le _ _) (by decide)⟩, HQ.out, by have := hszd.out; have := hsz0.out; have := hsz1.out; have := hsz2.out; have := hsz3.out; have := hsz4.out; have := hsz5.out; omega, by have := hszd.out; have := hsz0.out; have := hsz1.out; have := hsz2.out; have := hsz3.out; have := hsz4.out; have := hsz5.out; omega⟩⟩
              exact AllReadyH.nil
            exact AllReadyH.nil
          exact AllReadyH.nil
        refine AllReadyH.cons (by simp only [List.getElem?_toArray, List.getElem?_cons_succ, List.getElem?_cons_zero]; rfl) (fun K hK => ?_) ?_
        · skip
          go_simp
          refine named_alloc ?_
          intro Wa4 hbk hb hsz
          have hsz2 := hid hsz
          replace OM := hid (OM.out.step hb); replace P8 := hid (P8.out.step hb); replace HQ := hid (below_then HQ.out hb)
          have P7 := hid hbk
          clear hb hbk hsz
          refine hK.out _ _ ⟨(XPX.out.step HQ.out).cells3.1, (XPX.out.step HQ.out).cells3.2.1, (XPX.out.step HQ.out).cells3.2.2.1, (XPY.out.step HQ.out).cells7.1, (XPY.out.step HQ.out).cells7.2.1, (XPY.out.step HQ.out).cells7.2.2.1, (XPY.out.step HQ.out).cells7.2.2.2.1, (XPY.out.step HQ.out).cells7.2.2.2.2.1, (XPY.out.step HQ.out).cells7.2.2.2.2.2.1, (XPY.out.step HQ.out).cells7.2.2.2.2.2.2.1⟩ (fun hS' => ?_)
          clear hK K hS
          have hS := hS'
          clear hS'
          (try simp only [Act.put, List.setIfInBounds_toArray, List.set_cons_zero, List.set_cons_succ])
          refine wpAnyH_ready (rs := [3]) (by kernel_rfl) (by simp) ?_
          refine AllReadyH.cons (by simp only [List.getElem?_toArray, List.getElem?_cons_succ, List.getElem?_cons_zero]; rfl) (fun K hK => ?_) ?_
          · skip
            go_simp
            refine (ownread_any s0 V vn vc _ (XV.out.step HQ.out) hvc).mono ?_
            rintro e ws3 ⟨V2, vn2, vc2, rfl, ov, hb⟩
            have hsz3 := hid (show Wa4.heap.size ≤ ws3.heap.size from hb.size)
            replace OM := hid (OM.out.step hb); replace P8 := hid (P8.out.step hb); replace P7 := hid (P7.out.step hb); replace HQ := hid (below_then HQ.out hb)
            clear hb
            have OV := hid (ov.mono (show w1.heap.size ≤ _ by have := hszd.out; have := hsz0.out; have := hsz1.out; have := hsz2.out; omega))
            clear ov
            go_wp2_with fail
            refine hK.out _ _ ⟨(XPX.out.step HQ.out).cells3.1, (XPX.out.step HQ.out).cells3.2.1, (XPX.out.step HQ.out).cells3.2.2.1, (XPY.out.step HQ.out).cells7.1, (XPY.out.step HQ.out).cells7.2.1, (XPY.out.step HQ.out).cells7.2.2.1, (XPY.out.step HQ.out).cells7.2.2.2.1, (XPY.out.step HQ.out).cells7.2.2.2.2.1, (XPY.out.step HQ.out).cells7.2.2.2.2.2.1, (XPY.out.step HQ.out).cells7.2.2.2.2.2.2.1⟩ (fun hS' => ?_)
            clear hK K hS
            have hS := hS'
            clear hS'
            (try simp only [Act.put, List.setIfInBounds_toArray, List.set_cons_zero, List.set_cons_succ])
            refine wpAnyH_ready (rs := [6]) (by kernel_rfl) (by simp) ?_
            refine AllReadyH.cons (by simp only [List.getElem?_toArray, List.getElem?_cons_succ, List.getElem?_cons_zero]; rfl) (fun K hK => ?_) ?_
            · skip
              obtain ⟨y00, y01, y02, yf0⟩ := P7.out.cells3
              go_simp
              clear y00 y01 y02 yf0
              refine named_store3 P7.out ?_
              intro Ws6 hbk hgr hsz
              have hsz4 := hid hsz
              clear hsz
              replace P8 := hid (P8.out.grown hgr (fun e => P7.out.ne P8.out (by decide) (by simpa using e.symm)))
              replace OM := hid (mown_kept OM.out P7.out tm1 tm2 hgr)
              replace OV := hid (OV.out.keptG hgr (fun v hv e => OV.out.ne_blk P7.out tm1 v hv (by simpa using e)))
              replace HQ := hid (HQ.out.grown hgr HQ.out.size (fun r e => by cases e; have := hszd.out; have := hsz0.out; have := hsz1.out; have := hsz2.out; have := hsz3.out; have := hsz4.out; omega))
              replace P7 := hid hbk
              clear hbk hgr
              refine hK.out _ _ ⟨(XPX.out.step HQ.out).cells3.1, (XPX.out.step HQ.out).cells3.2.1, (XPX.out.step HQ.out).cells3.2.2.1, (XPY.out.step HQ.out).cells7.1, (XPY.out.step HQ.out).cells7.2.1, (XPY.out.step HQ.out).cells7.2.2.1, (XPY.out.step HQ.out).cells7.2.2.2.1, (XPY.out.step HQ.out).cells7.2.2.2.2.1, (XPY.out.step HQ.out).cells7.2.2.2.2.2.1, (XPY.out.step HQ.out).cells7.2.2.2.2.2.2.1⟩ (fun hS' => ?_)
              clear hK K hS
              have hS := hS'
              clear hS'
              (try simp only [Act.put, List.setIfInBounds_toArray, List.set_cons_zero, List.set_cons_succ])
              refine wpAnyH_ready (rs := [7]) (by kernel_rfl) (by simp) ?_
              refine AllReadyH.cons (by simp only [List.getElem?_toArray, List.getElem?_cons_succ, List.getElem?_cons_zero]; rfl) (fun K hK => ?_) ?_
              · skip
                obtain ⟨y00, y01, y02, y03, y04, y05, y06, yf0⟩ := P8.out.cells7
                go_simp
                clear y00 y01 y02 y03 y04 y05 y06 yf0
                refine named_store_7_7_0 P8.out ?_
                intro Ws7 hbk hgr hsz
                have hsz5 := hid hsz
                clear hsz
                replace P7 := hid (P7.out.grown hgr (fun e => P7.out.ne P8.out (by decide) (by simpa using e)))
                replace OM := hid (mown_kept OM.out P8.out ts1 ts2 hgr)
                replace OV := hid (OV.out.keptG hgr (fun v hv e => OV.out.ne_blk P8.out ts1 v hv (by simpa using e)))
                replace HQ := hid (HQ.out.grown hgr HQ.out.size (fun r e => by cases e; have := hszd.out; have := hsz0.out; have := hsz1.out; have := hsz2.out; have := hsz3.out; have := hsz4.out; have := hsz5.out; omega))
                replace P8 := hid hbk
                clear hbk hgr
                refine hK.out _ _ ⟨(XPX.out.step HQ.out).cells3.1, (XPX.out.step HQ.out).cells3.2.1, (XPX.out.step HQ.out).cells3.2.2.1, (XPY.out.step HQ.out).cells7.1, (XPY.out.step HQ.out).cells7.2.1, (XPY.out.step HQ.out).cells7.2.2.1, (XPY.out.step HQ.out).cells7.2.2.2.1, (XPY.out.step HQ.out).cells7.2.2.2.2.1, (XPY.out.step HQ.out).cells7.2.2.2.2.2.1, (XPY.out.step HQ.out).cells7.2.2.2.2.2.2.1⟩ (fun hS' => ?_)
                clear hK K hS
                have hS := hS'
                clear hS'
                (try simp only [Act.put, List.setIfInBounds_toArray, List.set_cons_zero, List.set_cons_succ])
                refine wpAnyH_done (by kernel_rfl) ?_ _
                refine NoPanic.normal ?_
                clear hS
                go_wp2_with fail
                go_meet
                exact ⟨_, _, rfl, rfl, ⟨⟨_, _, _, _, _, _, _, _, _, P7.out, OM.out, P8.out, OV.out, by rw [← OV.out.len]; exact Nat.le_trans (List.length_take_le _ _) (by decide)⟩, HQ.out, by have := hszd.out; have := hsz0.out; have := hsz1.out; have := hsz2.out; have := hsz3.out; have := hsz4.out; have := hsz5.out; omega, by have := hszd.out; have := hsz0.out; have := hsz1.out; have := hsz2.out; have := hsz3.out; have := hsz4.out; have := hsz5.out; omega⟩⟩
              exact AllReadyH.nil
            exact AllReadyH.nil
          exact AllReadyH.nil
        exact AllReadyH.nil
      exact AllReadyH.nil
    refine AllReadyH.cons (by simp only [List.getElem?_toArray, List.getElem?_cons_succ, List.getElem?_cons_zero]; rfl) (fun K hK => ?_) ?_
    · skip
      go_simp
      refine named_alloc ?_
      intro Wa4 hbk hb hsz
      have hsz0 := hid hsz
      replace HQ := hid (below_then HQ.out hb)
      have P7 := hid hbk
      clear hb hbk hsz
      refine hK.out _ _ ⟨(XPX.out.step HQ.out).cells3.1, (XPX.out.step HQ.out).cells3.2.1, (XPX.out.step HQ.out).cells3.2.2.1, (XPY.out.step HQ.out).cells7.1, (XPY.out.step HQ.out).cells7.2.1, (XPY.out.step HQ.out).cells7.2.2.1, (XPY.out.step HQ.out).cells7.2.2.2.1, (XPY.out.step HQ.out).cells7.2.2.2.2.1, (XPY.out.step HQ.out).cells7.2.2.2.2.2.1, (XPY.out.step HQ.out).cells7.2.2.2.2.2.2.1⟩ (fun hS' => ?_)
      clear hK K hS
      have hS := hS'
      clear hS'
      (try simp only [Act.put, List.setIfInBounds_toArray, List.set_cons_zero, List.set_cons_succ])
      refine wpAnyH_ready (rs := [1, 5]) (by kernel_rfl) (by simp) ?_
      refine AllReadyH.cons (by simp only [List.getElem?_toArray, List.getElem?_cons_succ, List.getElem?_cons_zero]; rfl) (fun K hK => ?_) ?_
      · skip
        go_simp
        refine (lawown_any A n c B k d f xs ys _ (XX.out.step HQ.out) (XY.out.step HQ.out) hnc hkd).mono ?_
        rintro e ws1 ⟨A2, n2, c2, B2, k2, d2, rfl, om, hb⟩
        have hsz1 := hid (show Wa4.heap.size ≤ ws1.heap.size from hb.size)
        replace P7 := hid (P7.out.step hb); replace HQ := hid (below_then HQ.out hb)
        clear hb
        have OM := hid (om.mono (show w1.heap.size ≤ _ by have := hszd.out; have := hsz0.out; omega))
        clear om
        go_wp2_with fail
        refine hK.out _ _ ⟨(XPX.out.step HQ.out).cells3.1, (XPX.out.step HQ.out).cells3.2.1, (XPX.out.step HQ.out).cells3.2.2.1, (XPY.out.step HQ.out).cells7.1, (XPY.out.step HQ.out).cells7.2.1, (XPY.out.step HQ.out).cells7.2.2.1, (XPY.out.step HQ.out).cells7.2.2.2.1, (XPY.out.step HQ.out).cells7.2.2.2.2.1, (XPY.out.step HQ.out).cells7.2.2.2.2.2.1, (XPY.out.step HQ.out).cells7.2.2.2.2.2.2.1⟩ (fun hS' => ?_)
        clear hK K hS
        have hS := hS'
        clear hS'
        (try simp only [Act.put, List.setIfInBounds_toArray, List.set_cons_zero, List.set_cons_succ])
        refine wpAnyH_ready (rs := [3, 5]) (by kernel_rfl) (by simp) ?_
        refine AllReadyH.cons (by simp only [List.getElem?_toArray, List.getElem?_cons_succ, List.getElem?_cons_zero]; rfl) (fun K hK => ?_) ?_
        · skip
          go_simp
          refine (ownread_any s0 V vn vc _ (XV.out.step HQ.out) hvc).mono ?_
          rintro e ws3 ⟨V2, vn2, vc2, rfl, ov, hb⟩
          have hsz2 := hid (show ws1.heap.size ≤ ws3.heap.size from hb.size)
          replace P7 := hid (P7.out.step hb); replace OM := hid (OM.out.step hb); replace HQ := hid (below_then HQ.out hb)
          clear hb
          have OV := hid (ov.mono (show w1.heap.size ≤ _ by have := hszd.out; have := hsz0.out; have := hsz1.out; omega))
          clear ov
          go_wp2_with fail
          refine hK.out _ _ ⟨(XPX.out.step HQ.out).cells3.1, (XPX.out.step HQ.out).cells3.2.1, (XPX.out.step HQ.out).cells3.2.2.1, (XPY.out.step HQ.out).cells7.1, (XPY.out.step HQ.out).cells7.2.1, (XPY.out.step HQ.out).cells7.2.2.1, (XPY.out.step HQ.out).cells7.2.2.2.1, (XPY.out.step HQ.out).cells7.2.2.2.2.1, (XPY.out.step HQ.out).cells7.2.2.2.2.2.1, (XPY.out.step HQ.out).cells7.2.2.2.2.2.2.1⟩ (fun hS' => ?_)
          clear hK K hS
          have hS := hS'
          clear hS'
          (try simp only [Act.put, List.setIfInBounds_toArray, List.set_cons_zero, List.set_cons_succ])
          refine wpAnyH_ready (rs := [5]) (by kernel_rfl) (by simp) ?_
          refine AllReadyH.cons (by simp only [List.getElem?_toArray, List.getElem?_cons_succ, List.getElem?_cons_zero]; rfl) (fun K hK => ?_) ?_
          · skip
            go_simp
            refine named_alloc ?_
            intro Wa5 hbk hb hsz
            have hsz3 := hid hsz
            replace P7 := hid (P7.out.step hb); replace OM := hid (OM.out.step hb); replace OV := hid (OV.out.step hb); replace HQ := hid (below_then HQ.out hb)
            have P8 := hid hbk
            clear hb hbk hsz
            refine hK.out _ _ ⟨(XPX.out.step HQ.out).cells3.1, (XPX.out.step HQ.out).cells3.2.1, (XPX.out.step HQ.out).cells3.2.2.1, (XPY.out.step HQ.out).cells7.1, (XPY.out.step HQ.out).cells7.2.1, (XPY.out.step HQ.out).cells7.2.2.1, (XPY.out.step HQ.out).cells7.2.2.2.1, (XPY.out.step HQ.out).cells7.2.2.2.2.1, (XPY.out.step HQ.out).cells7.2.2.2.2.2.1, (XPY.out.step HQ.out).cells7.2.2.2.2.2.2.1⟩ (fun hS' => ?_)
            clear hK K hS
            have hS := hS'
            clear hS'
            (try simp only [Act.put, List.setIfInBounds_toArray, List.set_cons_zero, List.set_cons_succ])
            refine wpAnyH_ready (rs := [6]) (by kernel_rfl) (by simp) ?_
            refine AllReadyH.cons (by simp only [List.getElem?_toArray, List.getElem?_cons_succ, List.getElem?_cons_zero]; rfl) (fun K hK => ?_) ?_
            · skip
              obtain ⟨y00, y01, y02, yf0⟩ := P7.out.cells3
              go_simp
              clear y00 y01 y02 yf0
              refine named_store3 P7.out ?_
              intro Ws6 hbk hgr hsz
              have hsz4 := hid hsz
              clear hsz
              replace P8 := hid (P8.out.grown hgr (fun e => P7.out.ne P8.out (by decide) (by simpa using e.symm)))
              replace OM := hid (mown_kept OM.out P7.out tm1 tm2 hgr)
              replace OV := hid (OV.out.keptG hgr (fun v hv e => OV.out.ne_blk P7.out tm1 v hv (by simpa using e)))
              replace HQ := hid (HQ.out.grown hgr HQ.out.size (fun r e => by cases e; have := hszd.out; have := hsz0.out; have := hsz1.out; have := hsz2.out; have := hsz3.out; have := hsz4.out; omega))
              replace P7 := hid hbk
              clear hbk hgr
              refine hK.out _ _ ⟨(XPX.out.step HQ.out).cells3.1, (XPX.out.step HQ.out).cells3.2.1, (XPX.out.step HQ.out).cells3.2.2.1, (XPY.out.step HQ.out).cells7.1, (XPY.out.step HQ.out).cells7.2.1, (XPY.out.step HQ.out).cells7.2.2.1, (XPY.out.step HQ.out).cells7.2.2.2.1, (XPY.out.step HQ.out).cells7.2.2.2.2.1, (XPY.out.step HQ.out).cells7.2.2.2.2.2.1, (XPY.out.step HQ.out).cells7.2.2.2.2.2.2.1⟩ (fun hS' => ?_)
              clear hK K hS
              have hS := hS'
              clear hS'
              (try simp only [Act.put, List.setIfInBounds_toArray, List.set_cons_zero, List.set_cons_succ])
              refine wpAnyH_ready (rs := [7]) (by kernel_rfl) (by simp) ?_
              refine AllReadyH.cons (by simp only [List.getElem?_toArray, List.getElem?_cons_succ, List.getElem?_cons_zero]; rfl) (fun K hK => ?_) ?_
              · skip
                obtain ⟨y00, y01, y02, y03, y04, y05, y06, yf0⟩ := P8.out.cells7
                go_simp
                clear y00 y01 y02 y03 y04 y05 y06 yf0
                refine named_store_7_7_0 P8.out ?_
                intro Ws7 hbk hgr hsz
                have hsz5 := hid hsz
                clear hsz
                replace P7 := hid (P7.out.grown hgr (fun e => P7.out.ne P8.out (by decide) (by simpa using e)))
                replace OM := hid (mown_kept OM.out P8.out ts1 ts2 hgr)
                replace OV := hid (OV.out.keptG hgr (fun v hv e => OV.out.ne_blk P8.out ts1 v hv (by simpa using e)))
                replace HQ := hid (HQ.out.grown hgr HQ.out.size (fun r e => by cases e; have := hszd.out; have := hsz0.out; have := hsz1.out; have := hsz2.out; have := hsz3.out; have := hsz4.out; have := hsz5.out; omega))
                replace P8 := hid hbk
                clear hbk hgr
                refine hK.out _ _ ⟨(XPX.out.step HQ.out).cells3.1, (XPX.out.step HQ.out).cells3.2.1, (XPX.out.step HQ.out).cells3.2.2.1, (XPY.out.step HQ.out).cells7.1, (XPY.out.step HQ.out).cells7.2.1, (XPY.out.step HQ.out).cells7.2.2.1, (XPY.out.step HQ.out).cells7.2.2.2.1, (XPY.out.step HQ.out).cells7.2.2.2.2.1, (XPY.out.step HQ.out).cells7.2.2.2.2.2.1, (XPY.out.step HQ.out).cells7.2.2.2.2.2.2.1⟩ (fun hS' => ?_)
                clear hK K hS
                have hS := hS'
                clear hS'
                (try simp only [Act.put, List.setIfInBounds_toArray, List.set_cons_zero, List.set_cons_succ])
                refine wpAnyH_done (by kernel_rfl) ?_ _
                refine NoPanic.normal ?_
                clear hS
                go_wp2_with fail
                go_meet
                exact ⟨_, _, rfl, rfl, ⟨⟨_, _, _, _, _, _, _, _, _, P7.out, OM.out, P8.out, OV.out, by rw [← OV.out.len]; exact Nat.le_trans (List.length_take_le _ _) (by decide)⟩, HQ.out, by have := hszd.out; have := hsz0.out; have := hsz1.out; have := hsz2.out; have := hsz3.out; have := hsz4.out; have := hsz5.out; omega, by have := hszd.out; have := hsz0.out; have := hsz1.out; have := hsz2.out; have := hsz3.out; have := hsz4.out; have := hsz5.out; omega⟩⟩
              exact AllReadyH.nil
            exact AllReadyH.nil
          exact AllReadyH.nil
        refine AllReadyH.cons (by simp only [List.getElem?_toArray, List.getElem?_cons_succ, List.getElem?_cons_zero]; rfl) (fun K hK => ?_) ?_
        · skip
          go_simp
          refine named_alloc ?_
          intro Wa5 hbk hb hsz
          have hsz2 := hid hsz
          replace P7 := hid (P7.out.step hb); replace OM := hid (OM.out.step hb); replace HQ := hid (below_then HQ.out hb)
          have P8 := hid hbk
          clear hb hbk hsz
          refine hK.out _ _ ⟨(XPX.out.step HQ.out).cells3.1, (XPX.out.step HQ.out).cells3.2.1, (XPX.out.step HQ.out).cells3.2.2.1, (XPY.out.step HQ.out).cells7.1, (XPY.out.step HQ.out).cells7.2.1, (XPY.out.step HQ.out).cells7.2.2.1, (XPY.out.step HQ.out).cells7.2.2.2.1, (XPY.out.step HQ.out).cells7.2.2.2.2.1, (XPY.out.step HQ.out).cells7.2.2.2.2.2.1, (XPY.out.step HQ.out).cells7.2.2.2.2.2.2.1⟩ (fun hS' => ?_)
          clear hK K hS
          have hS := hS'
          clear hS'
          (try simp only [Act.put, List.setIfInBounds_toArray, List.set_cons_zero, List.set_cons_succ])
          refine wpAnyH_ready (rs := [3]) (by kernel_rfl) (by simp) ?_
          refine AllReadyH.cons (by simp only [List.getElem?_toArray, List.getElem?_cons_succ, List.getElem?_cons_zero]; rfl) (fun K hK => ?_) ?_
          · skip
            go_simp
            refine (ownread_any s0 V vn vc _ (XV.out.step HQ.out) hvc).mono ?_
            rintro e ws3 ⟨V2, vn2, vc2, rfl, ov, hb⟩
            have hsz3 := hid (show Wa5.heap.size ≤ ws3.heap.size from hb.size)
            replace P7 := hid (P7.out.step hb); replace OM := hid (OM.out.step hb); replace P8 := hid (P8.out.step hb); replace HQ := hid (below_then HQ.out hb)
            clear hb
            have OV := hid (ov.mono (show w1.heap.size ≤ _ by have := hszd.out; have := hsz0.out; have := hsz1.out; have := hsz2.out; omega))
            clear ov
            go_wp2_with fail
            refine hK.out _ _ ⟨(XPX.out.step HQ.out).cells3.1, (XPX.out.step HQ.out).cells3.2.1, (XPX.out.step HQ.out).cells3.2.2.1, (XPY.out.step HQ.out).cells7.1, (XPY.out.step HQ.out).cells7.2.1, (XPY.out.step HQ.out).cells7.2.2.1, (XPY.out.step HQ.out).cells7.2.2.2.1, (XPY.out.step HQ.out).cells7.2.2.2.2.1, (XPY.out.step HQ.out).cells7.2.2.2.2.2.1, (XPY.out.step HQ.out).cells7.2.2.2.2.2.2.1⟩ (fun hS' => ?_)
            clear hK K hS
            have hS := hS'
            clear hS'
            (try simp only [Act.put, List.setIfInBounds_toArray, List.set_cons_zero, List.set_cons_succ])
            refine wpAnyH_ready (rs := [6]) (by kernel_rfl) (by simp) ?_
            refine AllReadyH.cons (by simp only [List.getElem?_toArray, List.getElem?_cons_succ, List.getElem?_cons_zero]; rfl) (fun K hK => ?_) ?_
            · skip
              obtain ⟨y00, y01, y02, yf0⟩ := P7.out.cells3
              go_simp
              clear y00 y01 y02 yf0
              refine named_store3 P7.out ?_
              intro Ws6 hbk hgr hsz
              have hsz4 := hid hsz
              clear hsz
              replace P8 := hid (P8.out.grown hgr (fun e => P7.out.ne P8.out (by decide) (by simpa using e.symm)))
              replace OM := hid (mown_kept OM.out P7.out tm1 tm2 hgr)
              replace OV := hid (OV.out.keptG hgr (fun v hv e => OV.out.ne_blk P7.out tm1 v hv (by simpa using e)))
              replace HQ := hid (HQ.out.grown hgr HQ.out.size (fun r e => by cases e; have := hszd.out; have := hsz0.out; have := hsz1.out; have := hsz2.out; have := hsz3.out; have := hsz4.out; omega))
              replace P7 := hid hbk
              clear hbk hgr
              refine hK.out _ _ ⟨(XPX.out.step HQ.out).cells3.1, (XPX.out.step HQ.out).cells3.2.1, (XPX.out.step HQ.out).cells3.2.2.1, (XPY.out.step HQ.out).cells7.1, (XPY.out.step HQ.out).cells7.2.1, (XPY.out.step HQ.out).cells7.2.2.1, (XPY.out.step HQ.out).cells7.2.2.2.1, (XPY.out.step HQ.out).cells7.2.2.2.2.1, (XPY.out.step HQ.out).cells7.2.2.2.2.2.1, (XPY.out.step HQ.out).cells7.2.2.2.2.2.2.1⟩ (fun hS' => ?_)
              clear hK K hS
              have hS := hS'
              clear hS'
              (try simp only [Act.put, List.setIfInBounds_toArray, List.set_cons_zero, List.set_cons_succ])
              refine wpAnyH_ready (rs := [7]) (by kernel_rfl) (by simp) ?_
              refine AllReadyH.cons (by simp only [List.getElem?_toArray, List.getElem?_cons_succ, List.getElem?_cons_zero]; rfl) (fun K hK => ?_) ?_
              · skip
                obtain ⟨y00, y01, y02, y03, y04, y05, y06, yf0⟩ := P8.out.cells7
                go_simp
                clear y00 y01 y02 y03 y04 y05 y06 yf0
                refine named_store_7_7_0 P8.out ?_
                intro Ws7 hbk hgr hsz
                have hsz5 := hid hsz
                clear hsz
                replace P7 := hid (P7.out.grown hgr (fun e => P7.out.ne P8.out (by decide) (by simpa using e)))
                replace OM := hid (mown_kept OM.out P8.out ts1 ts2 hgr)
                replace OV := hid (OV.out.keptG hgr (fun v hv e => OV.out.ne_blk P8.out ts1 v hv (by simpa using e)))
                replace HQ := hid (HQ.out.grown hgr HQ.out.size (fun r e => by cases e; have := hszd.out; have := hsz0.out; have := hsz1.out; have := hsz2.out; have := hsz3.out; have := hsz4.out; have := hsz5.out; omega))
                replace P8 := hid hbk
                clear hbk hgr
                refine hK.out _ _ ⟨(XPX.out.step HQ.out).cells3.1, (XPX.out.step HQ.out).cells3.2.1, (XPX.out.step HQ.out).cells3.2.2.1, (XPY.out.step HQ.out).cells7.1, (XPY.out.step HQ.out).cells7.2.1, (XPY.out.step HQ.out).cells7.2.2.1, (XPY.out.step HQ.out).cells7.2.2.2.1, (XPY.out.step HQ.out).cells7.2.2.2.2.1, (XPY.out.step HQ.out).cells7.2.2.2.2.2.1, (XPY.out.step HQ.out).cells7.2.2.2.2.2.2.1⟩ (fun hS' => ?_)
                clear hK K hS
                have hS := hS'
                clear hS'
                (try simp only [Act.put, List.setIfInBounds_toArray, List.set_cons_zero, List.set_cons_succ])
                refine wpAnyH_done (by kernel_rfl) ?_ _
                refine NoPanic.normal ?_
                clear hS
                go_wp2_with fail
                go_meet
                exact ⟨_, _, rfl, rfl, ⟨⟨_, _, _, _, _, _, _, _, _, P7.out, OM.out, P8.out, OV.out, by rw [← OV.out.len]; exact Nat.le_trans (List.length_take_le _ _) (by decide)⟩, HQ.out, by have := hszd.out; have := hsz0.out; have := hsz1.out; have := hsz2.out; have := hsz3.out; have := hsz4.out; have := hsz5.out; omega, by have := hszd.out; have := hsz0.out; have := hsz1.out; have := hsz2.out; have := hsz3.out; have := hsz4.out; have := hsz5.out; omega⟩⟩
              exact AllReadyH.nil
            exact AllReadyH.nil
          exact AllReadyH.nil
        exact AllReadyH.nil
      refine AllReadyH.cons (by simp only [List.getElem?_toArray, List.getElem?_cons_succ, List.getElem?_cons_zero]; rfl) (fun K hK => ?_) ?_
      · skip
        go_simp
        refine named_alloc ?_
        intro Wa5 hbk hb hsz
        have hsz1 := hid hsz
        replace P7 := hid (P7.out.step hb); replace HQ := hid (below_then HQ.out hb)
        have P8 := hid hbk
        clear hb hbk hsz
        refine hK.out _ _ ⟨(XPX.out.step HQ.out).cells3.1, (XPX.out.step HQ.out).cells3.2.1, (XPX.out.step HQ.out).cells3.2.2.1, (XPY.out.step HQ.out).cells7.1, (XPY.out.step HQ.out).cells7.2.1, (XPY.out.step HQ.out).cells7.2.2.1, (XPY.out.step HQ.out).cells7.2.2.2.1, (XPY.out.step HQ.out).cells7.2.2.2.2.1, (XPY.out.step HQ.out).cells7.2.2.2.2.2.1, (XPY.out.step HQ.out).cells7.2.2.2.2.2.2.1⟩ (fun hS' => ?_)
        clear hK K hS
        have hS := hS'
        clear hS'
        (try simp only [Act.put, List.setIfInBounds_toArray, List.set_cons_zero, List.set_cons_succ])
        refine wpAnyH_ready (rs := [1]) (by kernel_rfl) (by simp) ?_
        refine AllReadyH.cons (by simp only [List.getElem?_toArray, List.getElem?_cons_succ, List.getElem?_cons_zero]; rfl) (fun K hK => ?_) ?_
        · skip
          go_simp
          refine (lawown_any A n c B k d f xs ys _ (XX.out.step HQ.out) (XY.out.step HQ.out) hnc hkd).mono ?_
          rintro e ws1 ⟨A2, n2, c2, B2, k2, d2, rfl, om, hb⟩
          have hsz2 := hid (show Wa5.heap.size ≤ ws1.heap.size from hb.size)
          replace P7 := hid (P7.out.step hb); replace P8 := hid (P8.out.step hb); replace HQ := hid (below_then HQ.out hb)
          clear hb
          have OM := hid (om.mono (show w1.heap.size ≤ _ by have := hszd.out; have := hsz0.out; have := hsz1.out; omega))
          clear om
          go_wp2_with fail
          refine hK.out _ _ ⟨(XPX.out.step HQ.out).cells3.1, (XPX.out.step HQ.out).cells3.2.1, (XPX.out.step HQ.out).cells3.2.2.1, (XPY.out.step HQ.out).cells7.1, (XPY.out.step HQ.out).cells7.2.1, (XPY.out.step HQ.out).cells7.2.2.1, (XPY.out.step HQ.out).cells7.2.2.2.1, (XPY.out.step HQ.out).cells7.2.2.2.2.1, (XPY.out.step HQ.out).cells7.2.2.2.2.2.1, (XPY.out.step HQ.out).cells7.2.2.2.2.2.2.1⟩ (fun hS' => ?_)
          clear hK K hS
          have hS := hS'
          clear hS'
          (try simp only [Act.put, List.setIfInBounds_toArray, List.set_cons_zero, List.set_cons_succ])
          refine wpAnyH_ready (rs := [3]) (by kernel_rfl) (by simp) ?_
          refine AllReadyH.cons (by simp only [List.getElem?_toArray, List.getElem?_cons_succ, List.getElem?_cons_zero]; rfl) (fun K hK => ?_) ?_
          · skip
            go_simp
            refine (ownread_any s0 V vn vc _ (XV.out.step HQ.out) hvc).mono ?_
            rintro e ws3 ⟨V2, vn2, vc2, rfl, ov, hb⟩
            have hsz3 := hid (show ws1.heap.size ≤ ws3.heap.size from hb.size)
            replace P7 := hid (P7.out.step hb); replace P8 := hid (P8.out.step hb); replace OM := hid (OM.out.step hb); replace HQ := hid (below_then HQ.out hb)
            clear hb
            have OV := hid (ov.mono (show w1.heap.size ≤ _ by have := hszd.out; have := hsz0.out; have := hsz1.out; have := hsz2.out; omega))
            clear ov
            go_wp2_with fail
            refine hK.out _ _ ⟨(XPX.out.step HQ.out).cells3.1, (XPX.out.step HQ.out).cells3.2.1, (XPX.out.step HQ.out).cells3.2.2.1, (XPY.out.step HQ.out).cells7.1, (XPY.out.step HQ.out).cells7.2.1, (XPY.out.step HQ.out).cells7.2.2.1, (XPY.out.step HQ.out).cells7.2.2.2.1, (XPY.out.step HQ.out).cells7.2.2.2.2.1, (XPY.out.step HQ.out).cells7.2.2.2.2.2.1, (XPY.out.step HQ.out).cells7.2.2.2.2.2.2.1⟩ (fun hS' => ?_)
            clear hK K hS
            have hS := hS'
            clear hS'
            (try simp only [Act.put, List.setIfInBounds_toArray, List.set_cons_zero, List.set_cons_succ])
            refine wpAnyH_ready (rs := [6]) (by kernel_rfl) (by simp) ?_
            refine AllReadyH.cons (by simp only [List.getElem?_toArray, List.getElem?_cons_succ, List.getElem?_cons_zero]; rfl) (fun K hK => ?_) ?_
            · skip
              obtain ⟨y00, y01, y02, yf0⟩ := P7.out.cells3
              go_simp
              clear y00 y01 y02 yf0
              refine named_store3 P7.out ?_
              intro Ws6 hbk hgr hsz
              have hsz4 := hid hsz
              clear hsz
              replace P8 := hid (P8.out.grown hgr (fun e => P7.out.ne P8.out (by decide) (by simpa using e.symm)))
              replace OM := hid (mown_kept OM.out P7.out tm1 tm2 hgr)
              replace OV := hid (OV.out.keptG hgr (fun v hv e => OV.out.ne_blk P7.out tm1 v hv (by simpa using e)))
              replace HQ := hid (HQ.out.grown hgr HQ.out.size (fun r e => by cases e; have := hszd.out; have := hsz0.out; have := hsz1.out; have := hsz2.out; have := hsz3.out; have := hsz4.out; omega))
              replace P7 := hid hbk
              clear hbk hgr
              refine hK.out _ _ ⟨(XPX.out.step HQ.out).cells3.1, (XPX.out.step HQ.out).cells3.2.1, (XPX.out.step HQ.out).cells3.2.2.1, (XPY.out.step HQ.out).cells7.1, (XPY.out.step HQ.out).cells7.2.1, (XPY.out.step HQ.out).cells7.2.2.1, (XPY.out.step HQ.out).cells7.2.2.2.1, (XPY.out.step HQ.out).cells7.2.2.2.2.1, (XPY.out.step HQ.out).cells7.2.2.2.2.2.1, (XPY.out.step HQ.out).cells7.2.2.2.2.2.2.1⟩ (fun hS' => ?_)
              clear hK K hS
              have hS := hS'
              clear hS'
              (try simp only [Act.put, List.setIfInBounds_toArray, List.set_cons_zero, List.set_cons_succ])
              refine wpAnyH_ready (rs := [7]) (by kernel_rfl) (by simp) ?_
              refine AllReadyH.cons (by simp only [List.getElem?_toArray, List.getElem?_cons_succ, List.getElem?_cons_zero]; rfl) (fun K hK => ?_) ?_
              · skip
                obtain ⟨y00, y01, y02, y03, y04, y05, y06, yf0⟩ := P8.out.cells7
                go_simp
                clear y00 y01 y02 y03 y04 y05 y06 yf0
                refine named_store_7_7_0 P8.out ?_
                intro Ws7 hbk hgr hsz
                have hsz5 := hid hsz
                clear hsz
                replace P7 := hid (P7.out.grown hgr (fun e => P7.out.ne P8.out (by decide) (by simpa using e)))
                replace OM := hid (mown_kept OM.out P8.out ts1 ts2 hgr)
                replace OV := hid (OV.out.keptG hgr (fun v hv e => OV.out.ne_blk P8.out ts1 v hv (by simpa using e)))
                replace HQ := hid (HQ.out.grown hgr HQ.out.size (fun r e => by cases e; have := hszd.out; have := hsz0.out; have := hsz1.out; have := hsz2.out; have := hsz3.out; have := hsz4.out; have := hsz5.out; omega))
                replace P8 := hid hbk
                clear hbk hgr
                refine hK.out _ _ ⟨(XPX.out.step HQ.out).cells3.1, (XPX.out.step HQ.out).cells3.2.1, (XPX.out.step HQ.out).cells3.2.2.1, (XPY.out.step HQ.out).cells7.1, (XPY.out.step HQ.out).cells7.2.1, (XPY.out.step HQ.out).cells7.2.2.1, (XPY.out.step HQ.out).cells7.2.2.2.1, (XPY.out.step HQ.out).cells7.2.2.2.2.1, (XPY.out.step HQ.out).cells7.2.2.2.2.2.1, (XPY.out.step HQ.out).cells7.2.2.2.2.2.2.1⟩ (fun hS' => ?_)
                clear hK K hS
                have hS := hS'
                clear hS'
                (try simp only [Act.put, List.setIfInBounds_toArray, List.set_cons_zero, List.set_cons_succ])
                refine wpAnyH_done (by kernel_rfl) ?_ _
                refine NoPanic.normal ?_
                clear hS
                go_wp2_with fail
                go_meet
                exact ⟨_, _, rfl, rfl, ⟨⟨_, _, _, _, _, _, _, _, _, P7.out, OM.out, P8.out, OV.out, by rw [← OV.out.len]; exact Nat.le_trans (List.length_take_le _ _) (by decide)⟩, HQ.out, by have := hszd.out; have := hsz0.out; have := hsz1.out; have := hsz2.out; have := hsz3.out; have := hsz4.out; have := hsz5.out; omega, by have := hszd.out; have := hsz0.out; have := hsz1.out; have := hsz2.out; have := hsz3.out; have := hsz4.out; have := hsz5.out; omega⟩⟩
              exact AllReadyH.nil
            exact AllReadyH.nil
          exact AllReadyH.nil
        exact AllReadyH.nil
      exact AllReadyH.nil
    refine AllReadyH.cons (by simp only [List.getElem?_toArray, List.getElem?_cons_succ, List.getElem?_cons_zero]; rfl) (fun K hK => ?_) ?_
    · skip
      go_simp
      refine named_alloc ?_
      intro Wa5 hbk hb hsz
      have hsz0 := hid hsz
      replace HQ := hid (below_then HQ.out hb)
      have P8 := hid hbk
      clear hb hbk hsz
      refine hK.out _ _ ⟨(XPX.out.step HQ.out).cells3.1, (XPX.out.step HQ.out).cells3.2.1, (XPX.out.step HQ.out).cells3.2.2.1, (XPY.out.step HQ.out).cells7.1, (XPY.out.step HQ.out).cells7.2.1, (XPY.out.step HQ.out).cells7.2.2.1, (XPY.out.step HQ.out).cells7.2.2.2.1, (XPY.out.step HQ.out).cells7.2.2.2.2.1, (XPY.out.step HQ.out).cells7.2.2.2.2.2.1, (XPY.out.step HQ.out).cells7.2.2.2.2.2.2.1⟩ (fun hS' => ?_)
      clear hK K hS
      have hS := hS'
      clear hS'
      (try simp only [Act.put, List.setIfInBounds_toArray, List.set_cons_zero, List.set_cons_succ])
      refine wpAnyH_ready (rs := [1, 4]) (by kernel_rfl) (by simp) ?_
      refine AllReadyH.cons (by simp only [List.getElem?_toArray, List.getElem?_cons_succ, List.getElem?_cons_zero]; rfl) (fun K hK => ?_) ?_
      · skip
        go_simp
        refine (lawown_any A n c B k d f xs ys _ (XX.out.step HQ.out) (XY.out.step HQ.out) hnc hkd).mono ?_
        rintro e ws1 ⟨A2, n2, c2, B2, k2, d2, rfl, om, hb⟩
        have hsz1 := hid (show Wa5.heap.size ≤ ws1.heap.size from hb.size)
        replace P8 := hid (P8.out.step hb); replace HQ := hid (below_then HQ.out hb)
        clear hb
        have OM := hid (om.mono (show w1.heap.size ≤ _ by have := hszd.out; have := hsz0.out; omega))
        clear om
        go_wp2_with fail
        refine hK.out _ _ ⟨(XPX.out.step HQ.out).cells3.1, (XPX.out.step HQ.out).cells3.2.1, (XPX.out.step HQ.out).cells3.2.2.1, (XPY.out.step HQ.out).cells7.1, (XPY.out.step HQ.out).cells7.2.1, (XPY.out.step HQ.out).cells7.2.2.1, (XPY.out.step HQ.out).cells7.2.2.2.1, (XPY.out.step HQ.out).cells7.2.2.2.2.1, (XPY.out.step HQ.out).cells7.2.2.2.2.2.1, (XPY.out.step HQ.out).cells7.2.2.2.2.2.2.1⟩ (fun hS' => ?_)
        clear hK K hS
        have hS := hS'
        clear hS'
        (try simp only [Act.put, List.setIfInBounds_toArray, List.set_cons_zero, List.set_cons_succ])
        refine wpAnyH_ready (rs := [3, 4]) (by kernel_rfl) (by simp) ?_
        refine AllReadyH.cons (by simp only [List.getElem?_toArray, List.getElem?_cons_succ, List.getElem?_cons_zero]; rfl) (fun K hK => ?_) ?_
        · skip
          go_simp
          refine (ownread_any s0 V vn vc _ (XV.out.step HQ.out) hvc).mono ?_
          rintro e ws3 ⟨V2, vn2, vc2, rfl, ov, hb⟩
          have hsz2 := hid (show ws1.heap.size ≤ ws3.heap.size from hb.size)
          replace P8 := hid (P8.out.step hb); replace OM := hid (OM.out.step hb); replace HQ := hid (below_then HQ.out hb)
          clear hb
          have OV := hid (ov.mono (show w1.heap.size ≤ _ by have := hszd.out; have := hsz0.out; have := hsz1.out; omega))
          clear ov
          go_wp2_with fail
          refine hK.out _ _ ⟨(XPX.out.step HQ.out).cells3.1, (XPX.out.step HQ.out).cells3.2.1, (XPX.out.step HQ.out).cells3.2.2.1, (XPY.out.step HQ.out).cells7.1, (XPY.out.step HQ.out).cells7.2.1, (XPY.out.step HQ.out).cells7.2.2.1, (XPY.out.step HQ.out).cells7.2.2.2.1, (XPY.out.step HQ.out).cells7.2.2.2.2.1, (XPY.out.step HQ.out).cells7.2.2.2.2.2.1, (XPY.out.step HQ.out).cells7.2.2.2.2.2.2.1⟩ (fun hS' => ?_)
          clear hK K hS
          have hS := hS'
          clear hS'
          (try simp only [Act.put, List.setIfInBounds_toArray, List.set_cons_zero, List.set_cons_succ])
          refine wpAnyH_ready (rs := [4]) (by kernel_rfl) (by simp) ?_
          refine AllReadyH.cons (by simp only [List.getElem?_toArray, List.getElem?_cons_succ, List.getElem?_cons_zero]; rfl) (fun K hK => ?_) ?_
          · skip
            go_simp
            refine named_alloc ?_
            intro Wa4 hbk hb hsz
            have hsz3 := hid hsz
            replace P8 := hid (P8.out.step hb); replace OM := hid (OM.out.step hb); replace OV := hid (OV.out.step hb); replace HQ := hid (below_then HQ.out hb)
            have P7 := hid hbk
            clear hb hbk hsz
            refine hK.out _ _ ⟨(XPX.out.step HQ.out).cells3.1, (XPX.out.step HQ.out).cells3.2.1, (XPX.out.step HQ.out).cells3.2.2.1, (XPY.out.step HQ.out).cells7.1, (XPY.out.step HQ.out).cells7.2.1, (XPY.out.step HQ.out).cells7.2.2.1, (XPY.out.step HQ.out).cells7.2.2.2.1, (XPY.out.step HQ.out).cells7.2.2.2.2.1, (XPY.out.step HQ.out).cells7.2.2.2.2.2.1, (XPY.out.step HQ.out).cells7.2.2.2.2.2.2.1⟩ (fun hS' => ?_)
            clear hK K hS
            have hS := hS'
            clear hS'
            (try simp only [Act.put, List.setIfInBounds_toArray, List.set_cons_zero, List.set_cons_succ])
            refine wpAnyH_ready (rs := [6]) (by kernel_rfl) (by simp) ?_
            refine AllReadyH.cons (by simp only [List.getElem?_toArray, List.getElem?_cons_succ, List.getElem?_cons_zero]; rfl) (fun K hK => ?_) ?_
            · skip
              obtain ⟨y00, y01, y02, yf0⟩ := P7.out.cells3
              go_simp
              clear y00 y01 y02 yf0
              refine named_store3 P7.out ?_
              intro Ws6 hbk hgr hsz
              have hsz4 := hid hsz
              clear hsz
              replace P8 := hid (P8.out.grown hgr (fun e => P7.out.ne P8.out (by decide) (by simpa using e.symm)))
              replace OM := hid (mown_kept OM.out P7.out tm1 tm2 hgr)
              replace OV := hid (OV.out.keptG hgr (fun v hv e => OV.out.ne_blk P7.out tm1 v hv (by simpa using e)))
              replace HQ := hid (HQ.out.grown hgr HQ.out.size (fun r e => by cases e; have := hszd.out; have := hsz0.out; have := hsz1.out; have := hsz2.out; have := hsz3.out; have := hsz4.out; omega))
              replace P7 := hid hbk
              clear hbk hgr
              refine hK.out _ _ ⟨(XPX.out.step HQ.out).cells3.1, (XPX.out.step HQ.out).cells3.2.1, (XPX.out.step HQ.out).cells3.2.2.1, (XPY.out.step HQ.out).cells7.1, (XPY.out.step HQ.out).cells7.2.1, (XPY.out.step HQ.out).cells7.2.2.1, (XPY.out.step HQ.out).cells7.2.2.2.1, (XPY.out.step HQ.out).cells7.2.2.2.2.1, (XPY.out.step HQ.out).cells7.2.2.2.2.2.1, (XPY.out.step HQ.out).cells7.2.2.2.2.2.2.1⟩ (fun hS' => ?_)
              clear hK K hS
              have hS := hS'
              clear hS'
              (try simp only [Act.put, List.setIfInBounds_toArray, List.set_cons_zero, List.set_cons_succ])
              refine wpAnyH_ready (rs := [7]) (by kernel_rfl) (by simp) ?_
              refine AllReadyH.cons (by simp only [List.getElem?_toArray, List.getElem?_cons_succ, List.getElem?_cons_zero]; rfl) (fun K hK => ?_) ?_
              · skip
                obtain ⟨y00, y01, y02, y03, y04, y05, y06, yf0⟩ := P8.out.cells7
                go_simp
                clear y00 y01 y02 y03 y04 y05 y06 yf0
                refine named_store_7_7_0 P8.out ?_
                intro Ws7 hbk hgr hsz
                have hsz5 := hid hsz
                clear hsz
                replace P7 := hid (P7.out.grown hgr (fun e => P7.out.ne P8.out (by decide) (by simpa using e)))
                replace OM := hid (mown_kept OM.out P8.out ts1 ts2 hgr)
                replace OV := hid (OV.out.keptG hgr (fun v hv e => OV.out.ne_blk P8.out ts1 v hv (by simpa using e)))
                replace HQ := hid (HQ.out.grown hgr HQ.out.size (fun r e => by cases e; have := hszd.out; have := hsz0.out; have := hsz1.out; have := hsz2.out; have := hsz3.out; have := hsz4.out; have := hsz5.out; omega))
                replace P8 := hid hbk
                clear hbk hgr
                refine hK.out _ _ ⟨(XPX.out.step HQ.out).cells3.1, (XPX.out.step HQ.out).cells3.2.1, (XPX.out.step HQ.out).cells3.2.2.1, (XPY.out.step HQ.out).cells7.1, (XPY.out.step HQ.out).cells7.2.1, (XPY.out.step HQ.out).cells7.2.2.1, (XPY.out.step HQ.out).cells7.2.2.2.1, (XPY.out.step HQ.out).cells7.2.2.2.2.1, (XPY.out.step HQ.out).cells7.2.2.2.2.2.1, (XPY.out.step HQ.out).cells7.2.2.2.2.2.2.1⟩ (fun hS' => ?_)
                clear hK K hS
                have hS := hS'
                clear hS'
                (try simp only [Act.put, List.setIfInBounds_toArray, List.set_cons_zero, List.set_cons_succ])
                refine wpAnyH_done (by kernel_rfl) ?_ _
                refine NoPanic.normal ?_
                clear hS
                go_wp2_with fail
                go_meet
                exact ⟨_, _, rfl, rfl, ⟨⟨_, _, _, _, _, _, _, _, _, P7.out, OM.out, P8.out, OV.out, by rw [← OV.out.len]; exact Nat.le_trans (List.length_take_le _ _) (by decide)⟩, HQ.out, by have := hszd.out; have := hsz0.out; have := hsz1.out; have := hsz2.out; have := hsz3.out; have := hsz4.out; have := hsz5.out; omega, by have := hszd.out; have := hsz0.out; have := hsz1.out; have := hsz2.out; have := hsz3.out; have := hsz4.out; have := hsz5.out; omega⟩⟩
              exact AllReadyH.nil
            exact AllReadyH.nil
          exact AllReadyH.nil
        refine AllReadyH.cons (by simp only [List.getElem?_toArray, List.getElem?_cons_succ, List.getElem?_cons_zero]; rfl) (fun K hK => ?_) ?_
        · skip
          go_simp
          refine named_alloc ?_
          intro Wa4 hbk hb hsz
          have hsz2 := hid hsz
          replace P8 := hid (P8.out.step hb); replace OM := hid (OM.out.step hb); replace HQ := hid (below_then HQ.out hb)
          have P7 := hid hbk
          clear hb hbk hsz
          refine hK.out _ _ ⟨(XPX.out.step HQ.out).cells3.1, (XPX.out.step HQ.out).cells3.2.1, (XPX.out.step HQ.out).cells3.2.2.1, (XPY.out.step HQ.out).cells7.1, (XPY.out.step HQ.out).cells7.2.1, (XPY.out.step HQ.out).cells7.2.2.1, (XPY.out.step HQ.out).cells7.2.2.2.1, (XPY.out.step HQ.out).cells7.2.2.2.2.1, (XPY.out.step HQ.out).cells7.2.2.2.2.2.1, (XPY.out.step HQ.out).cells7.2.2.2.2.2.2.1⟩ (fun hS' => ?_)
          clear hK K hS
          have hS := hS'
          clear hS'
          (try simp only [Act.put, List.setIfInBounds_toArray, List.set_cons_zero, List.set_cons_succ])
          refine wpAnyH_ready (rs := [3]) (by kernel_rfl) (by simp) ?_
          refine AllReadyH.cons (by simp only [List.getElem?_toArray, List.getElem?_cons_succ, List.getElem?_cons_zero]; rfl) (fun K hK => ?_) ?_
          · skip
            go_simp
            refine (ownread_any s0 V vn vc _ (XV.out.step HQ.out) hvc).mono ?_
            rintro e ws3 ⟨V2, vn2, vc2, rfl, ov, hb⟩
            have hsz3 := hid (show Wa4.heap.size ≤ ws3.heap.size from hb.size)
            replace P8 := hid (P8.out.step hb); replace OM := hid (OM.out.step hb); replace P7 := hid (P7.out.step hb); replace HQ := hid (below_then HQ.out hb)
            clear hb
            have OV := hid (ov.mono (show w1.heap.size ≤ _ by have := hszd.out; have := hsz0.out; have := hsz1.out; have := hsz2.out; omega))
            clear ov
            go_wp2_with fail
            refine hK.out _ _ ⟨(XPX.out.step HQ.out).cells3.1, (XPX.out.step HQ.out).cells3.2.1, (XPX.out.step HQ.out).cells3.2.2.1, (XPY.out.step HQ.out).cells7.1, (XPY.out.step HQ.out).cells7.2.1, (XPY.out.step HQ.out).cells7.2.2.1, (XPY.out.step HQ.out).cells7.2.2.2.1, (XPY.out.step HQ.out).cells7.2.2.2.2.1, (XPY.out.step HQ.out).cells7.2.2.2.2.2.1, (XPY.out.step HQ.out).cells7.2.2.2.2.2.2.1⟩ (fun hS' => ?_)
            clear hK K hS
            have hS := hS'
            clear hS'
            (try simp only [Act.put, List.setIfInBounds_toArray, List.set_cons_zero, List.set_cons_succ])
            refine wpAnyH_ready (rs := [6]) (by kernel_rfl) (by simp) ?_
            refine AllReadyH.cons (by simp only [List.getElem?_toArray, List.getElem?_cons_succ, List.getElem?_cons_zero]; rfl) (fun K hK => ?_) ?_
            · skip
              obtain ⟨y00, y01, y02, yf0⟩ := P7.out.cells3
              go_simp
              clear y00 y01 y02 yf0
              refine named_store3 P7.out ?_
              intro Ws6 hbk hgr hsz
              have hsz4 := hid hsz
              clear hsz
              replace P8 := hid (P8.out.grown hgr (fun e => P7.out.ne P8.out (by decide) (by simpa using e.symm)))
              replace OM := hid (mown_kept OM.out P7.out tm1 tm2 hgr)
              replace OV := hid (OV.out.keptG hgr (fun v hv e => OV.out.ne_blk P7.out tm1 v hv (by simpa using e)))
              replace HQ := hid (HQ.out.grown hgr HQ.out.size (fun r e => by cases e; have := hszd.out; have := hsz0.out; have := hsz1.out; have := hsz2.out; have := hsz3.out; have := hsz4.out; omega))
              replace P7 := hid hbk
              clear hbk hgr
              refine hK.out _ _ ⟨(XPX.out.step HQ.out).cells3.1, (XPX.out.step HQ.out).cells3.2.1, (XPX.out.step HQ.out).cells3.2.2.1, (XPY.out.step HQ.out).cells7.1, (XPY.out.step HQ.out).cells7.2.1, (XPY.out.step HQ.out).cells7.2.2.1, (XPY.out.step HQ.out).cells7.2.2.2.1, (XPY.out.step HQ.out).cells7.2.2.2.2.1, (XPY.out.step HQ.out).cells7.2.2.2.2.2.1, (XPY.out.step HQ.out).cells7.2.2.2.2.2.2.1⟩ (fun hS' => ?_)
              clear hK K hS
              have hS := hS'
              clear hS'
              (try simp only [Act.put, List.setIfInBounds_toArray, List.set_cons_zero, List.set_cons_succ])
              refine wpAnyH_ready (rs := [7]) (by kernel_rfl) (by simp) ?_
              refine AllReadyH.cons (by simp only [List.getElem?_toArray, List.getElem?_cons_succ, List.getElem?_cons_zero]; rfl) (fun K hK => ?_) ?_
              · skip
                obtain ⟨y00, y01, y02, y03, y04, y05, y06, yf0⟩ := P8.out.cells7
                go_simp
                clear y00 y01 y02 y03 y04 y05 y06 yf0
                refine named_store_7_7_0 P8.out ?_
                intro Ws7 hbk hgr hsz
                have hsz5 := hid hsz
                clear hsz
                replace P7 := hid (P7.out.grown hgr (fun e => P7.out.ne P8.out (by decide) (by simpa using e)))
                replace OM := hid (mown_kept OM.out P8.out ts1 ts2 hgr)
                replace OV := hid (OV.out.keptG hgr (fun v hv e => OV.out.ne_blk P8.out ts1 v hv (by simpa using e)))
                replace HQ := hid (HQ.out.grown hgr HQ.out.size (fun r e => by cases e; have := hszd.out; have := hsz0.out; have := hsz1.out; have := hsz2.out; have := hsz3.out; have := hsz4.out; have := hsz5.out; omega))
                replace P8 := hid hbk
                clear hbk hgr
                refine hK.out _ _ ⟨(XPX.out.step HQ.out).cells3.1, (XPX.out.step HQ.out).cells3.2.1, (XPX.out.step HQ.out).cells3.2.2.1, (XPY.out.step HQ.out).cells7.1, (XPY.out.step HQ.out).cells7.2.1, (XPY.out.step HQ.out).cells7.2.2.1, (XPY.out.step HQ.out).cells7.2.2.2.1, (XPY.out.step HQ.out).cells7.2.2.2.2.1, (XPY.out.step HQ.out).cells7.2.2.2.2.2.1, (XPY.out.step HQ.out).cells7.2.2.2.2.2.2.1⟩ (fun hS' => ?_)
                clear hK K hS
                have hS := hS'
                clear hS'
                (try simp only [Act.put, List.setIfInBounds_toArray, List.set_cons_zero, List.set_cons_succ])
                refine wpAnyH_done (by kernel_rfl) ?_ _
                refine NoPanic.normal ?_
                clear hS
                go_wp2_with fail
                go_meet
                exact ⟨_, _, rfl, rfl, ⟨⟨_, _, _, _, _, _, _, _, _, P7.out, OM.out, P8.out, OV.out, by rw [← OV.out.len]; exact Nat.le_trans (List.length_take_le _ _) (by decide)⟩, HQ.out, by have := hszd.out; have := hsz0.out; have := hsz1.out; have := hsz2.out; have := hsz3.out; have := hsz4.out; have := hsz5.out; omega, by have := hszd.out; have := hsz0.out; have := hsz1.out; have := hsz2.out; have := hsz3.out; have := hsz4.out; have := hsz5.out; omega⟩⟩
              exact AllReadyH.nil
            exact AllReadyH.nil
          exact AllReadyH.nil
        exact AllReadyH.nil
      refine AllReadyH.cons (by simp only [List.getElem?_toArray, List.getElem?_cons_succ, List.getElem?_cons_zero]; rfl) (fun K hK => ?_) ?_
      · skip
        go_simp
        refine named_alloc ?_
        intro Wa4 hbk hb hsz
        have hsz1 := hid hsz
        replace P8 := hid (P8.out.step hb); replace HQ := hid (below_then HQ.out hb)
        have P7 := hid hbk
        clear hb hbk hsz
        refine hK.out _ _ ⟨(XPX.out.step HQ.out).cells3.1, (XPX.out.step HQ.out).cells3.2.1, (XPX.out.step HQ.out).cells3.2.2.1, (XPY.out.step HQ.out).cells7.1, (XPY.out.step HQ.out).cells7.2.1, (XPY.out.step HQ.out).cells7.2.2.1, (XPY.out.step HQ.out).cells7.2.2.2.1, (XPY.out.step HQ.out).cells7.2.2.2.2.1, (XPY.out.step HQ.out).cells7.2.2.2.2.2.1, (XPY.out.step HQ.out).cells7.2.2.2.2.2.2.1⟩ (fun hS' => ?_)
        clear hK K hS
        have hS := hS'
        clear hS'
        (try simp only [Act.put, List.setIfInBounds_toArray, List.set_cons_zero, List.set_cons_succ])
        refine wpAnyH_ready (rs := [1]) (by kernel_rfl) (by simp) ?_
        refine AllReadyH.cons (by simp only [List.getElem?_toArray, List.getElem?_cons_succ, List.getElem?_cons_zero]; rfl) (fun K hK => ?_) ?_
        · skip
          go_simp
          refine (lawown_any A n c B k d f xs ys _ (XX.out.step HQ.out) (XY.out.step HQ.out) hnc hkd).mono ?_
          rintro e ws1 ⟨A2, n2, c2, B2, k2, d2, rfl, om, hb⟩
          have hsz2 := hid (show Wa4.heap.size ≤ ws1.heap.size from hb.size)
          replace P8 := hid (P8.out.step hb); replace P7 := hid (P7.out.step hb); replace HQ := hid (below_then HQ.out hb)
          clear hb
          have OM := hid (om.mono (show w1.heap.size ≤ _ by have := hszd.out; have := hsz0.out; have := hsz1.out; omega))
          clear om
          go_wp2_with fail
          refine hK.out _ _ ⟨(XPX.out.step HQ.out).cells3.1, (XPX.out.step HQ.out).cells3.2.1, (XPX.out.step HQ.out).cells3.2.2.1, (XPY.out.step HQ.out).cells7.1, (XPY.out.step HQ.out).cells7.2.1, (XPY.out.step HQ.out).cells7.2.2.1, (XPY.out.step HQ.out).cells7.2.2.2.1, (XPY.out.step HQ.out).cells7.2.2.2.2.1, (XPY.out.step HQ.out).cells7.2.2.2.2.2.1, (XPY.out.step HQ.out).cells7.2.2.2.2.2.2.1⟩ (fun hS' => ?_)
          clear hK K hS
          have hS := hS'
          clear hS'
          (try simp only [Act.put, List.setIfInBounds_toArray, List.set_cons_zero, List.set_cons_succ])
          refine wpAnyH_ready (rs := [3]) (by kernel_rfl) (by simp) ?_
          refine AllReadyH.cons (by simp only [List.getElem?_toArray, List.getElem?_cons_succ, List.getElem?_cons_zero]; rfl) (fun K hK => ?_) ?_
          · skip
            go_simp
            refine (ownread_any s0 V vn vc _ (XV.out.step HQ.out) hvc).mono ?_
            rintro e ws3 ⟨V2, vn2, vc2, rfl, ov, hb⟩
            have hsz3 := hid (show ws1.heap.size ≤ ws3.heap.size from hb.size)
            replace P8 := hid (P8.out.step hb); replace P7 := hid (P7.out.step hb); replace OM := hid (OM.out.step hb); replace HQ := hid (below_then HQ.out hb)
            clear hb
            have OV := hid (ov.mono (show w1.heap.size ≤ _ by have := hszd.out; have := hsz0.out; have := hsz1.out; have := hsz2.out; omega))
            clear ov
            go_wp2_with fail
            refine hK.out _ _ ⟨(XPX.out.step HQ.out).cells3.1, (XPX.out.step HQ.out).cells3.2.1, (XPX.out.step HQ.out).cells3.2.2.1, (XPY.out.step HQ.out).cells7.1, (XPY.out.step HQ.out).cells7.2.1, (XPY.out.step HQ.out).cells7.2.2.1, (XPY.out.step HQ.out).cells7.2.2.2.1, (XPY.out.step HQ.out).cells7.2.2.2.2.1, (XPY.out.step HQ.out).cells7.2.2.2.2.2.1, (XPY.out.step HQ.out).cells7.2.2.2.2.2.2.1⟩ (fun hS' => ?_)
            clear hK K hS
            have hS := hS'
            clear hS'
            (try simp only [Act.put, List.setIfInBounds_toArray, List.set_cons_zero, List.set_cons_succ])
            refine wpAnyH_ready (rs := [6]) (by kernel_rfl) (by simp) ?_
            refine AllReadyH.cons (by simp only [List.getElem?_toArray, List.getElem?_cons_succ, List.getElem?_cons_zero]; rfl) (fun K hK => ?_) ?_
            · skip
              obtain ⟨y00, y01, y02, yf0⟩ := P7.out.cells3
              go_simp
              clear y00 y01 y02 yf0
              refine named_store3 P7.out ?_
              intro Ws6 hbk hgr hsz
              have hsz4 := hid hsz
              clear hsz
              replace P8 := hid (P8.out.grown hgr (fun e => P7.out.ne P8.out (by decide) (by simpa using e.symm)))
              replace OM := hid (mown_kept OM.out P7.out tm1 tm2 hgr)
              replace OV := hid (OV.out.keptG hgr (fun v hv e => OV.out.ne_blk P7.out tm1 v hv (by simpa using e)))
              replace HQ := hid (HQ.out.grown hgr HQ.out.size (fun r e => by cases e; have := hszd.out; have := hsz0.out; have := hsz1.out; have := hsz2.out; have := hsz3.out; have := hsz4.out; omega))
              replace P7 := hid hbk
              clear hbk hgr
              refine hK.out _ _ ⟨(XPX.out.step HQ.out).cells3.1, (XPX.out.step HQ.out).cells3.2.1, (XPX.out.step HQ.out).cells3.2.2.1, (XPY.out.step HQ.out).cells7.1, (XPY.out.step HQ.out).cells7.2.1, (XPY.out.step HQ.out).cells7.2.2.1, (XPY.out.step HQ.out).cells7.2.2.2.1, (XPY.out.step HQ.out).cells7.2.2.2.2.1, (XPY.out.step HQ.out).cells7.2.2.2.2.2.1, (XPY.out.step HQ.out).cells7.2.2.2.2.2.2.1⟩ (fun hS' => ?_)
              clear hK K hS
              have hS := hS'
              clear hS'
              (try simp only [Act.put, List.setIfInBounds_toArray, List.set_cons_zero, List.set_cons_succ])
              refine wpAnyH_ready (rs := [7]) (by kernel_rfl) (by simp) ?_
              refine AllReadyH.cons (by simp only [List.getElem?_toArray, List.getElem?_cons_succ, List.getElem?_cons_zero]; rfl) (fun K hK => ?_) ?_
              · skip
                obtain ⟨y00, y01, y02, y03, y04, y05, y06, yf0⟩ := P8.out.cells7
                go_simp
                clear y00 y01 y02 y03 y04 y05 y06 yf0
                refine named_store_7_7_0 P8.out ?_
                intro Ws7 hbk hgr hsz
                have hsz5 := hid hsz
                clear hsz
                replace P7 := hid (P7.out.grown hgr (fun e => P7.out.ne P8.out (by decide) (by simpa using e)))
                replace OM := hid (mown_kept OM.out P8.out ts1 ts2 hgr)
                replace OV := hid (OV.out.keptG hgr (fun v hv e => OV.out.ne_blk P8.out ts1 v hv (by simpa using e)))
                replace HQ := hid (HQ.out.grown hgr HQ.out.size (fun r e => by cases e; have := hszd.out; have := hsz0.out; have := hsz1.out; have := hsz2.out; have := hsz3.out; have := hsz4.out; have := hsz5.out; omega))
                replace P8 := hid hbk
                clear hbk hgr
                refine hK.out _ _ ⟨(XPX.out.step HQ.out).cells3.1, (XPX.out.step HQ.out).cells3.2.1, (XPX.out.step HQ.out).cells3.2.2.1, (XPY.out.step HQ.out).cells7.1, (XPY.out.step HQ.out).cells7.2.1, (XPY.out.step HQ.out).cells7.2.2.1, (XPY.out.step HQ.out).cells7.2.2.2.1, (XPY.out.step HQ.out).cells7.2.2.2.2.1, (XPY.out.step HQ.out).cells7.2.2.2.2.2.1, (XPY.out.step HQ.out).cells7.2.2.2.2.2.2.1⟩ (fun hS' => ?_)
                clear hK K hS
                have hS := hS'
                clear hS'
                (try simp only [Act.put, List.setIfInBounds_toArray, List.set_cons_zero, List.set_cons_succ])
                refine wpAnyH_done (by kernel_rfl) ?_ _
                refine NoPanic.normal ?_
                clear hS
                go_wp2_with fail
                go_meet
                exact ⟨_, _, rfl, rfl, ⟨⟨_, _, _, _, _, _, _, _, _, P7.out, OM.out, P8.out, OV.out, by rw [← OV.out.len]; exact Nat.le_trans (List.length_take_le _ _) (by decide)⟩, HQ.out, by have := hszd.out; have := hsz0.out; have := hsz1.out; have := hsz2.out; have := hsz3.out; have := hsz4.out; have := hsz5.out; omega, by have := hszd.out; have := hsz0.out; have := hsz1.out; have := hsz2.out; have := hsz3.out; have := hsz4.out; have := hsz5.out; omega⟩⟩
              exact AllReadyH.nil
            exact AllReadyH.nil
          exact AllReadyH.nil
        exact AllReadyH.nil
      exact AllReadyH.nil
    exact AllReadyH.nil
  case rest =>
    obtain ⟨g7, g8, rfl, rfl, hmid⟩ := hcut
    rename World => W2
    have HM := hid hmid
    have hb1 := hid (HB.out.size)
    have hl7 := hid hmid.l7; have hl8 := hid hmid.l8
    replace HB := hid (below_then HB.out hmid.be)
    have H0 := hid (below_then HB.out (Below.refl W2.heap.size W2))
    clear hmid HQ XX XY XV XPX XPY HX HY HV PX PY
    go_wp2_with fail
    simp only [hN]
    clear hN
    go_loopw [22] (fun i wr => ∃ j : Nat, j ≤ N ∧ i = .int .i64 j ∧ Below w.heap.size w wr ∧ ∃ m s, QMid w1 wr g7 g8 m s) (fun i _ => N - (intOf i).toNat)
    case atStart => exact ⟨0, Nat.zero_le _, rfl, HB.out, _, _, HM.out⟩
    case round =>
      obtain ⟨j, hj, rfl, hbr, m, s, hI⟩ := hrel
      obtain ⟨⟨A2, n2, c2, B2, k2, d2, V2, vn2, vc2, h1, h2, h3, h4, hvn2⟩, h5, _, _⟩ := hI
      have P7 := hid h1; have OM := hid h2; have P8 := hid h3; have OV := hid h4; have HQ := hid h5
      replace HB := hid hbr
      clear h1 h2 h3 h4 h5 HM H0 hbr
      by_cases hjn : j < N
      rotate_left
      · obtain rfl : N = j := by omega
        have hnn : ¬ ((N : Int) < (N : Int)) := by omega
        go_wp2
        go_ret
        exact ⟨rfl, HB.out⟩
      have hji : (j : Int) < (N : Int) := by omega
      obtain ⟨y00, y01, y02, yf0⟩ := P7.out.cells3
      obtain ⟨y10, y11, y12, y13, y14, y15, y16, yf1⟩ := P8.out.cells7
      go_wp2_with fail
      clear y00 y01 y02 yf0 y10 y11 y12 y13 y14 y15 y16 yf1
      obtain ⟨⟨co, m2, s2⟩, hr⟩ : ∃ x, x = sreadC m s := ⟨_, rfl⟩
      have HR := hid hr
      refine (apiread_any A2 n2 c2 B2 k2 d2 m s V2 vn2 vc2 _ OM.out.mem (OV.out.sl.mono (Nat.zero_le _) (Nat.le_refl _)) hvn2).mono ?_
      rw [← hr]
      rintro e w3 ⟨A3, n3, c3, B3, k3, d3, V3, vn3, vc3, rfl, om, ov, _, hb⟩
      dsimp only at om ov
      have hs3 := hid HQ.out.size
      have h7s := hid (Nat.lt_of_lt_of_le P7.out.lt hb.size); have h8s := hid (Nat.lt_of_lt_of_le P8.out.lt hb.size)
      replace P7 := hid (P7.out.step hb); replace OM := hid (OM.out.step hb); replace P8 := hid (P8.out.step hb); replace OV := hid (OV.out.step hb); replace HB := hid (below_then HB.out hb); replace HQ := hid (below_then HQ.out hb)
      have OM3 := hid (om.mono (show w1.heap.size ≤ _ from hs3.out)); have OV3 := hid (ov.mono (show w1.heap.size ≤ _ from hs3.out))
      clear om ov hb hr
      have bx := below_box w3 (.cells (mcs A3 n3 c3 B3 k3 d3 m2.2.2) 44)
      replace P7 := hid (P7.out.step bx); replace OM := hid (OM.out.step bx); replace P8 := hid (P8.out.step bx); replace OV := hid (OV.out.step bx); replace OM3 := hid (OM3.out.step bx); replace OV3 := hid (OV3.out.step bx); replace HB := hid (below_then HB.out bx); replace HQ := hid (below_then HQ.out bx)
      clear bx
      have PN := hid (Blk.new w3 44 (mcs A3 n3 c3 B3 k3 d3 m2.2.2))
      have bx := below_box (w3.alloc (.cells (mcs A3 n3 c3 B3 k3 d3 m2.2.2) 44)) (.cells (rdc s2.a s2.f s2.m s2.ph s2.bg V3 vn3 vc3 s2.tr) 29)
      replace P7 := hid (P7.out.step bx); replace OM := hid (OM.out.step bx); replace P8 := hid (P8.out.step bx); replace OV := hid (OV.out.step bx); replace OM3 := hid (OM3.out.step bx); replace OV3 := hid (OV3.out.step bx); replace PN := hid (PN.out.step bx); replace HB := hid (below_then HB.out bx); replace HQ := hid (below_then HQ.out bx)
      clear bx
      have PT := hid (Blk.new2 w3 29 (rdc s2.a s2.f s2.m s2.ph s2.bg V3 vn3 vc3 s2.tr) (.cells (mcs A3 n3 c3 B3 k3 d3 m2.2.2) 44))
      go_upto_region 7 with fail
      have hz4 := hid (show ((w3.alloc (.cells (mcs A3 n3 c3 B3 k3 d3 m2.2.2) 44)).alloc (.cells (rdc s2.a s2.f s2.m s2.ph s2.bg V3 vn3 vc3 s2.tr) 29)).heap.size = w3.heap.size + 2 by simp)
      generalize (w3.alloc (.cells (mcs A3 n3 c3 B3 k3 d3 m2.2.2) 44)).alloc (.cells (rdc s2.a s2.f s2.m s2.ph s2.bg V3 vn3 vc3 s2.tr) 29) = W4 at *
      have HE := hid (show sreadC m s = if ¬ MGood m.1 m.2.1 then (120, ([], [], false), zRd) else if ¬ RdOkS s then (160, ([], [], false), zRd) else (0, sreadF m s) from rfl)
      by_cases hok : MGood m.1 m.2.1 ∧ RdOkS s
      rotate_left
      · have hco : (co == 0) = false ∧ m2.1 = [] := by
          have e := HR.out.trans HE.out
          by_cases hg : MGood m.1 m.2.1
          · rw [if_neg (not_not_intro hg), if_pos (fun h => hok ⟨hg, h⟩)] at e
            simp only [Prod.mk.injEq] at e
            obtain ⟨rfl, rfl, rfl⟩ := e
            exact ⟨rfl, rfl⟩
          · rw [if_pos hg] at e
            simp only [Prod.mk.injEq] at e
            obtain ⟨rfl, rfl, rfl⟩ := e
            exact ⟨rfl, rfl⟩
        obtain ⟨hco, hm2⟩ := hco
        have hco2 : (co != 0) = true := by simpa using hco
        obtain rfl : n3 = 0 := by rw [← OM3.out.oa.len, hm2]; rfl
        clear hm2 hok
        obtain ⟨y00, y01, y02, yf0⟩ := PN.out.cells3
        go_wp2
        go_ret
        exact ⟨rfl, HB.out⟩
      have HG := hid hok.1; have HS := hid hok.2
      have e := HR.out.trans (HE.out.trans ((if_neg (not_not_intro hok.1)).trans (if_neg (not_not_intro hok.2))))
      simp only [Prod.mk.injEq] at e
      obtain ⟨rfl, e2⟩ := e
      obtain ⟨k1, k2', k3, k4, k5, k6⟩ := sreadF_keeps m s hok.2
      have k7 := sreadF_ok (m := m) hok.2
      rw [← e2] at k1 k2' k3 k4 k5 k6 k7
      dsimp only at k1 k2' k3 k4 k5 k6 k7
      obtain ⟨ws2, ls2, f2⟩ := m2
      obtain ⟨ws, ls, ff⟩ := m
      dsimp only at k1 k2' k3 k6
      subst k1 k2'
      have hst := hok.2.2.2.2.2.1
      have K3 := hid k3; have K6 := hid k6; have K7 := hid k7
      clear hok HR HE e2 k3 k6 k7
      go_upto_region 9 with fail
      have H9 := hid (Below.refl W4.heap.size W4)
      go_cut [72] (fun sx wx => sx = .bool false ∧ Below W4.heap.size W4 wx)
      case first =>
        obtain ⟨y00, y01, y02, yf0⟩ := PN.out.cells3
        obtain ⟨y10, y11, y12, yf1⟩ := P7.out.cells3
        go_wp2_with fail
        clear y00 y01 y02 yf0 y10 y11 y12 yf1
        refine (equal_u64 A3 A2 n3 c3 n2 c2 0 _ 0 _ ws2 ws2 _ (OM3.out.oa.sl.mono (Nat.zero_le _) (Nat.le_refl _)) (OM.out.oa.sl.mono (Nat.zero_le _) (Nat.le_refl _)) (by have := OM3.out.hn; omega) (by have := OM.out.hn; omega)).mono ?_
        rintro e w5 ⟨rfl, hb⟩
        replace P7 := hid (P7.out.step hb); replace OM := hid (OM.out.step hb); replace P8 := hid (P8.out.step hb); replace OV := hid (OV.out.step hb); replace OM3 := hid (OM3.out.step hb); replace OV3 := hid (OV3.out.step hb); replace PN := hid (PN.out.step hb); replace PT := hid (PT.out.step hb); replace H9 := hid (below_then H9.out hb)
        clear hb
        rw [show decide (ws2 = ws2) = true from decide_eq_true rfl]
        obtain ⟨y00, y01, y02, yf0⟩ := PN.out.cells3
        obtain ⟨y10, y11, y12, yf1⟩ := P7.out.cells3
        go_wp2_with fail
        clear y00 y01 y02 yf0 y10 y11 y12 yf1
        refine (equal_bool B3 B2 k3 d3 k2 d2 0 _ 0 _ ls2 ls2 _ (OM3.out.ob.sl.mono (Nat.zero_le _) (Nat.le_refl _)) (OM.out.ob.sl.mono (Nat.zero_le _) (Nat.le_refl _)) (by have := OM3.out.hm; omega) (by have := OM.out.hm; omega)).mono ?_
        rintro e w6 ⟨rfl, hb⟩
        replace P7 := hid (P7.out.step hb); replace OM := hid (OM.out.step hb); replace P8 := hid (P8.out.step hb); replace OV := hid (OV.out.step hb); replace OM3 := hid (OM3.out.step hb); replace OV3 := hid (OV3.out.step hb); replace PN := hid (PN.out.step hb); replace PT := hid (PT.out.step hb); replace H9 := hid (below_then H9.out hb)
        clear hb
        rw [show decide (ls2 = ls2) = true from decide_eq_true rfl]
        obtain ⟨q5, hq5⟩ : ∃ q, q = decide (s2.ph = 5) := ⟨_, rfl⟩
        obtain ⟨p5, hp5⟩ : ∃ q, q = decide (s.ph = 5) := ⟨_, rfl⟩
        have hK3 := K3.out
        rw [← hq5, ← hp5] at hK3
        have b1 : (s2.ph == 5) = q5 := by rw [hq5]; rfl
        have b2 : (s.ph != 5) = !p5 := by rw [hp5]; rfl
        clear hq5 hp5 K3
        have HFF : Hid (f2 = (ff || (q5 && !p5))) := hid hK3
        clear hK3
        rcases ff with _ | _
        · rcases q5 with _ | _
          · skip
            obtain rfl : false = f2 := by rw [HFF.out]; rfl
            clear HFF
            obtain ⟨y00, y01, y02, yf0⟩ := PN.out.cells3
            obtain ⟨y10, y11, y12, yf1⟩ := P7.out.cells3
            obtain ⟨y20, y21, y22, y23, y24, y25, y26, yf2⟩ := P8.out.cells7
            obtain ⟨y30, y31, y32, y33, y34, y35, y36, yf3⟩ := PT.out.cells7
            go_wp2_with fail
            clear y00 y01 y02 yf0 y10 y11 y12 yf1 y20 y21 y22 y23 y24 y25 y26 yf2 y30 y31 y32 y33 y34 y35 y36 yf3
            refine (scheckread_any s2.a s2.f s2.m s2.ph s2.bg V3 vn3 vc3 s2.tr _ (by rw [← OV3.out.len]; exact Nat.le_trans K7.out.len (by decide))).mono ?_
            rintro e w7 ⟨rfl, hb⟩
            replace P7 := hid (P7.out.step hb); replace OM := hid (OM.out.step hb); replace P8 := hid (P8.out.step hb); replace OV := hid (OV.out.step hb); replace OM3 := hid (OM3.out.step hb); replace OV3 := hid (OV3.out.step hb); replace PN := hid (PN.out.step hb); replace PT := hid (PT.out.step hb); replace H9 := hid (below_then H9.out hb)
            clear hb
            rw [decide_eq_true (show RdOk s2.a s2.f s2.m s2.ph s2.bg vn3 s2.tr by have h := K7.out; unfold RdOkS at h; rwa [OV3.out.len] at h)]
            dsimp only [if_true]
            go_wp2_with fail
            go_meet
            exact ⟨rfl, H9.out⟩
          · rcases p5 with _ | _
            · skip
              obtain rfl : true = f2 := by rw [HFF.out]; rfl
              clear HFF
              obtain ⟨y00, y01, y02, yf0⟩ := PN.out.cells3
              obtain ⟨y10, y11, y12, yf1⟩ := P7.out.cells3
              obtain ⟨y20, y21, y22, y23, y24, y25, y26, yf2⟩ := P8.out.cells7
              obtain ⟨y30, y31, y32, y33, y34, y35, y36, yf3⟩ := PT.out.cells7
              go_wp2_with fail
              clear y00 y01 y02 yf0 y10 y11 y12 yf1 y20 y21 y22 y23 y24 y25 y26 yf2 y30 y31 y32 y33 y34 y35 y36 yf3
              refine (scheckread_any s2.a s2.f s2.m s2.ph s2.bg V3 vn3 vc3 s2.tr _ (by rw [← OV3.out.len]; exact Nat.le_trans K7.out.len (by decide))).mono ?_
              rintro e w7 ⟨rfl, hb⟩
              replace P7 := hid (P7.out.step hb); replace OM := hid (OM.out.step hb); replace P8 := hid (P8.out.step hb); replace OV := hid (OV.out.step hb); replace OM3 := hid (OM3.out.step hb); replace OV3 := hid (OV3.out.step hb); replace PN := hid (PN.out.step hb); replace PT := hid (PT.out.step hb); replace H9 := hid (below_then H9.out hb)
              clear hb
              rw [decide_eq_true (show RdOk s2.a s2.f s2.m s2.ph s2.bg vn3 s2.tr by have h := K7.out; unfold RdOkS at h; rwa [OV3.out.len] at h)]
              dsimp only [if_true]
              go_wp2_with fail
              go_meet
              exact ⟨rfl, H9.out⟩
            · skip
              obtain rfl : false = f2 := by rw [HFF.out]; rfl
              clear HFF
              obtain ⟨y00, y01, y02, yf0⟩ := PN.out.cells3
              obtain ⟨y10, y11, y12, yf1⟩ := P7.out.cells3
              obtain ⟨y20, y21, y22, y23, y24, y25, y26, yf2⟩ := P8.out.cells7
              obtain ⟨y30, y31, y32, y33, y34, y35, y36, yf3⟩ := PT.out.cells7
              go_wp2_with fail
              clear y00 y01 y02 yf0 y10 y11 y12 yf1 y20 y21 y22 y23 y24 y25 y26 yf2 y30 y31 y32 y33 y34 y35 y36 yf3
              refine (scheckread_any s2.a s2.f s2.m s2.ph s2.bg V3 vn3 vc3 s2.tr _ (by rw [← OV3.out.len]; exact Nat.le_trans K7.out.len (by decide))).mono ?_
              rintro e w7 ⟨rfl, hb⟩
              replace P7 := hid (P7.out.step hb); replace OM := hid (OM.out.step hb); replace P8 := hid (P8.out.step hb); replace OV := hid (OV.out.step hb); replace OM3 := hid (OM3.out.step hb); replace OV3 := hid (OV3.out.step hb); replace PN := hid (PN.out.step hb); replace PT := hid (PT.out.step hb); replace H9 := hid (below_then H9.out hb)
              clear hb
              rw [decide_eq_true (show RdOk s2.a s2.f s2.m s2.ph s2.bg vn3 s2.tr by have h := K7.out; unfold RdOkS at h; rwa [OV3.out.len] at h)]
              dsimp only [if_true]
              go_wp2_with fail
              go_meet
              exact ⟨rfl, H9.out⟩
        · skip
          obtain rfl : true = f2 := by rw [HFF.out]; rfl
          clear HFF
          obtain ⟨y00, y01, y02, yf0⟩ := PN.out.cells3
          obtain ⟨y10, y11, y12, yf1⟩ := P7.out.cells3
          obtain ⟨y20, y21, y22, y23, y24, y25, y26, yf2⟩ := P8.out.cells7
          obtain ⟨y30, y31, y32, y33, y34, y35, y36, yf3⟩ := PT.out.cells7
          go_wp2_with fail
          clear y00 y01 y02 yf0 y10 y11 y12 yf1 y20 y21 y22 y23 y24 y25 y26 yf2 y30 y31 y32 y33 y34 y35 y36 yf3
          refine (scheckread_any s2.a s2.f s2.m s2.ph s2.bg V3 vn3 vc3 s2.tr _ (by rw [← OV3.out.len]; exact Nat.le_trans K7.out.len (by decide))).mono ?_
          rintro e w7 ⟨rfl, hb⟩
          replace P7 := hid (P7.out.step hb); replace OM := hid (OM.out.step hb); replace P8 := hid (P8.out.step hb); replace OV := hid (OV.out.step hb); replace OM3 := hid (OM3.out.step hb); replace OV3 := hid (OV3.out.step hb); replace PN := hid (PN.out.step hb); replace PT := hid (PT.out.step hb); replace H9 := hid (below_then H9.out hb)
          clear hb
          rw [decide_eq_true (show RdOk s2.a s2.f s2.m s2.ph s2.bg vn3 s2.tr by have h := K7.out; unfold RdOkS at h; rwa [OV3.out.len] at h)]
          dsimp only [if_true]
          go_wp2_with fail
          go_meet
          exact ⟨rfl, H9.out⟩
      case rest =>
        obtain ⟨rfl, hb⟩ := hcut
        rename World => W5
        have h45 := hid hb.size
        replace P7 := hid (P7.out.step hb); replace OM := hid (OM.out.step hb); replace P8 := hid (P8.out.step hb); replace OV := hid (OV.out.step hb); replace OM3 := hid (OM3.out.step hb); replace OV3 := hid (OV3.out.step hb); replace PN := hid (PN.out.step hb); replace PT := hid (PT.out.step hb); replace HB := hid (below_then HB.out hb); replace HQ := hid (below_then HQ.out hb)
        clear hb H9
        go_upto_region 11 with fail
        have H9 := hid (Below.refl W5.heap.size W5)
        go_cut [105] (fun sx wx => sx = .bool false ∧ Below W5.heap.size W5 wx)
        case first =>
          have hw1 : IntKind.i64.wrap (s.tr + 1) = s.tr + 1 := by rw [IntKind.wrap_i64]; have := HS.out.2.2.2.1; omega
          have e1 : decide (s2.tr < s.tr) = false := decide_eq_false (by omega)
          have e2 : decide (s.tr + 1 < s2.tr) = false := decide_eq_false (by omega)
          by_cases h4 : 4 ≤ s.ph
          · have e3 : decide (4 ≤ s.ph) = true := decide_eq_true h4
            have e4 := K6.out h4
            have e5 : s2 = s := by have := congrArg Prod.snd e4; exact this
            clear e4 h4 k4 k5
            subst e5
            have e6 : (s2.ph != s2.ph) = false := by simp
            obtain ⟨y00, y01, y02, y03, y04, y05, y06, yf0⟩ := P8.out.cells7
            obtain ⟨y10, y11, y12, y13, y14, y15, y16, yf1⟩ := PT.out.cells7
            go_wp2_with fail
            clear y00 y01 y02 y03 y04 y05 y06 yf0 y10 y11 y12 y13 y14 y15 y16 yf1
            refine (equal_u64 V3 V2 vn3 vc3 vn2 vc2 0 _ 0 _ s2.vs s2.vs _ (OV3.out.sl.mono (Nat.zero_le _) (Nat.le_refl _)) (OV.out.sl.mono (Nat.zero_le _) (Nat.le_refl _)) (by rw [← OV3.out.len]; exact Nat.le_trans K7.out.len (by decide)) (by omega)).mono ?_
            rintro e w8 ⟨rfl, hb⟩
            replace P7 := hid (P7.out.step hb); replace OM := hid (OM.out.step hb); replace P8 := hid (P8.out.step hb); replace OV := hid (OV.out.step hb); replace OM3 := hid (OM3.out.step hb); replace OV3 := hid (OV3.out.step hb); replace PN := hid (PN.out.step hb); replace PT := hid (PT.out.step hb); replace H9 := hid (below_then H9.out hb)
            clear hb
            rw [show decide (s2.vs = s2.vs) = true from decide_eq_true rfl]
            go_wp2_with fail
            go_meet
            exact ⟨rfl, H9.out⟩
          have e3 : decide (4 ≤ s.ph) = false := decide_eq_false h4
          clear h4
          obtain ⟨y00, y01, y02, y03, y04, y05, y06, yf0⟩ := P8.out.cells7
          obtain ⟨y10, y11, y12, y13, y14, y15, y16, yf1⟩ := PT.out.cells7
          go_wp2_with fail
          go_meet
          exact ⟨rfl, H9.out⟩
        case rest =>
          obtain ⟨rfl, hb⟩ := hcut
          rename World => W6
          have h56 := hid hb.size
          replace P7 := hid (P7.out.step hb); replace OM := hid (OM.out.step hb); replace P8 := hid (P8.out.step hb); replace OV := hid (OV.out.step hb); replace OM3 := hid (OM3.out.step hb); replace OV3 := hid (OV3.out.step hb); replace PN := hid (PN.out.step hb); replace PT := hid (PT.out.step hb); replace HB := hid (below_then HB.out hb); replace HQ := hid (below_then HQ.out hb)
          clear hb H9
          go_upto_region 13 with fail
          have HG7 := hid (show w1.heap.size ≤ g7 from hl7.out); have HG8 := hid (show w1.heap.size ≤ g8 from hl8.out); have hws := hid hb1.out
          have HNE := hid (P7.out.ne P8.out (by decide)); have HN7 := hid (show g7 < w3.heap.size from h7s.out); have HN8 := hid (show g8 < w3.heap.size from h8s.out)
          have hw1 : IntKind.i64.wrap ((j : Int) + 1) = (j : Int) + 1 := by rw [IntKind.wrap_i64]; omega
          have bx := (Below.refl W6.heap.size W6).drew
          replace P7 := hid (P7.out.step bx); replace P8 := hid (P8.out.step bx); replace OM3 := hid (OM3.out.step bx); replace OV3 := hid (OV3.out.step bx); replace PN := hid (PN.out.step bx); replace PT := hid (PT.out.step bx); replace HB := hid (below_then HB.out bx); replace HQ := hid (below_then HQ.out bx)
          clear bx
          have hszd := hid (show W6.drew.heap.size = W6.heap.size from rfl)
          refine wp_region_noPanic ?_
          refine wp_region_held_drew (S := (fun W' : World => W'.cell? ⟨w3.heap.size, 0, none⟩ = some (.slice A3 n3 c3) ∧ W'.cell? ⟨w3.heap.size, 1, none⟩ = some (.slice B3 k3 d3) ∧ W'.cell? ⟨w3.heap.size, 2, none⟩ = some (.bool f2) ∧ W'.cell? ⟨w3.heap.size + 1, 0, none⟩ = some (.int .i64 s2.a) ∧ W'.cell? ⟨w3.heap.size + 1, 1, none⟩ = some (.int .i64 s2.f) ∧ W'.cell? ⟨w3.heap.size + 1, 2, none⟩ = some (.int .i64 s2.m) ∧ W'.cell? ⟨w3.heap.size + 1, 3, none⟩ = some (.int .i64 s2.ph) ∧ W'.cell? ⟨w3.heap.size + 1, 4, none⟩ = some (.int .u64 s2.bg) ∧ W'.cell? ⟨w3.heap.size + 1, 5, none⟩ = some (.slice V3 vn3 vc3) ∧ W'.cell? ⟨w3.heap.size + 1, 6, none⟩ = some (.int .i64 s2.tr))) (by kernel_rfl) ⟨PN.out.cells3.1, PN.out.cells3.2.1, PN.out.cells3.2.2.1, PT.out.cells7.1, PT.out.cells7.2.1, PT.out.cells7.2.2.1, PT.out.cells7.2.2.2.1, PT.out.cells7.2.2.2.2.1, PT.out.cells7.2.2.2.2.2.1, PT.out.cells7.2.2.2.2.2.2.1⟩ (fun hS => ?_)
          generalize W6.drew = Wd at *
          refine wpAnyH_take (i := 0) (v := ?_) (by simp only [List.getElem?_toArray, List.getElem?_cons_succ, List.getElem?_cons_zero]; rfl) (by kernel_rfl) (by kernel_rfl) (by kernel_rfl) (fun _ _ _ h => h) (Or.inl ⟨by rfl, ?_⟩) hS ?_
          rotate_left
          · intro w' hSw; (try dsimp only at hSw); go_split_ands; go_simp; (try with_reducible rfl)
          (try simp only [Act.put, List.setIfInBounds_toArray, List.set_cons_zero, List.set_cons_succ])
          refine wpAnyH_take (i := 1) (v := ?_) (by simp only [List.getElem?_toArray, List.getElem?_cons_succ, List.getElem?_cons_zero]; rfl) (by kernel_rfl) (by kernel_rfl) (by kernel_rfl) (fun _ _ _ h => h) (Or.inl ⟨by rfl, ?_⟩) hS ?_
          rotate_left
          · intro w' hSw; (try dsimp only at hSw); go_split_ands; go_simp; (try with_reducible rfl)
          (try simp only [Act.put, List.setIfInBounds_toArray, List.set_cons_zero, List.set_cons_succ])
          refine wpAnyH_ready (rs := [2]) (by kernel_rfl) (by simp) ?_
          refine AllReadyH.cons (by simp only [List.getElem?_toArray, List.getElem?_cons_succ, List.getElem?_cons_zero]; rfl) (fun K hK => ?_) ?_
          · skip
            obtain ⟨y00, y01, y02, yf0⟩ := P7.out.cells3
            go_simp
            clear y00 y01 y02 yf0
            refine named_store3 P7.out ?_
            intro Ws2 hbk hgr hsz
            have hsz0 := hid hsz
            clear hsz
            replace P8 := hid (P8.out.grown hgr (by have := HNE.out; simp; omega))
            replace PN := hid (PN.out.grown hgr (by have := HN7.out; have := HN8.out; simp; omega))
            replace PT := hid (PT.out.grown hgr (by have := HN7.out; have := HN8.out; have := hz4.out; simp; omega))
            replace OM3 := hid (mown_kept OM3.out P7.out tm1 tm2 hgr)
            replace OV3 := hid (OV3.out.keptG hgr (fun v hv e => OV3.out.ne_blk P7.out tm1 v hv (by simpa using e)))
            replace HB := hid (HB.out.grown hgr HB.out.size (fun r e => by cases e; have := HG7.out; have := HG8.out; have := hws.out; omega))
            replace HQ := hid (HQ.out.grown hgr HQ.out.size (fun r e => by cases e; have := HG7.out; have := HG8.out; omega))
            replace P7 := hid hbk
            clear hbk hgr
            refine hK.out _ _ ⟨PN.out.cells3.1, PN.out.cells3.2.1, PN.out.cells3.2.2.1, PT.out.cells7.1, PT.out.cells7.2.1, PT.out.cells7.2.2.1, PT.out.cells7.2.2.2.1, PT.out.cells7.2.2.2.2.1, PT.out.cells7.2.2.2.2.2.1, PT.out.cells7.2.2.2.2.2.2.1⟩ (fun hS' => ?_)
            clear hK K hS
            have hS := hS'
            clear hS'
            (try simp only [Act.put, List.setIfInBounds_toArray, List.set_cons_zero, List.set_cons_succ])
            refine wpAnyH_ready (rs := [3]) (by kernel_rfl) (by simp) ?_
            refine AllReadyH.cons (by simp only [List.getElem?_toArray, List.getElem?_cons_succ, List.getElem?_cons_zero]; rfl) (fun K hK => ?_) ?_
            · skip
              obtain ⟨y00, y01, y02, y03, y04, y05, y06, yf0⟩ := P8.out.cells7
              go_simp
              clear y00 y01 y02 y03 y04 y05 y06 yf0
              refine named_store_7_7_0 P8.out ?_
              intro Ws3 hbk hgr hsz
              have hsz1 := hid hsz
              clear hsz
              replace P7 := hid (P7.out.grown hgr (by have := HNE.out; simp; omega))
              replace PN := hid (PN.out.grown hgr (by have := HN7.out; have := HN8.out; simp; omega))
              replace PT := hid (PT.out.grown hgr (by have := HN7.out; have := HN8.out; have := hz4.out; simp; omega))
              replace OM3 := hid (mown_kept OM3.out P8.out ts1 ts2 hgr)
              replace OV3 := hid (OV3.out.keptG hgr (fun v hv e => OV3.out.ne_blk P8.out ts1 v hv (by simpa using e)))
              replace HB := hid (HB.out.grown hgr HB.out.size (fun r e => by cases e; have := HG7.out; have := HG8.out; have := hws.out; omega))
              replace HQ := hid (HQ.out.grown hgr HQ.out.size (fun r e => by cases e; have := HG7.out; have := HG8.out; omega))
              replace P8 := hid hbk
              clear hbk hgr
              refine hK.out _ _ ⟨PN.out.cells3.1, PN.out.cells3.2.1, PN.out.cells3.2.2.1, PT.out.cells7.1, PT.out.cells7.2.1, PT.out.cells7.2.2.1, PT.out.cells7.2.2.2.1, PT.out.cells7.2.2.2.2.1, PT.out.cells7.2.2.2.2.2.1, PT.out.cells7.2.2.2.2.2.2.1⟩ (fun hS' => ?_)
              clear hK K hS
              have hS := hS'
              clear hS'
              (try simp only [Act.put, List.setIfInBounds_toArray, List.set_cons_zero, List.set_cons_succ])
              refine wpAnyH_done (by kernel_rfl) ?_ _
              refine NoPanic.normal ?_
              clear hS
              go_wp2_with fail
              go_roundw
              case rel => exact ⟨j + 1, by omega, by go_num, HB.out, _, s2, ⟨⟨A3, n3, c3, B3, k3, d3, V3, vn3, vc3, P7.out, OM3.out, P8.out, OV3.out, by rw [← OV3.out.len]; exact Nat.le_trans K7.out.len (by decide)⟩, HQ.out, HG7.out, HG8.out⟩⟩
              case measure => simp [intOf]; omega
            exact AllReadyH.nil
          exact AllReadyH.nil
end Go.Proofs.Ytnkaajkdjbdpaaa
