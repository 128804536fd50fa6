/- afterglowlaw07.PoolMoves returns true at every pool and row of pages, and turns nothing old. No condition but the sizes of memory. -/
import Derived.Test.YtlidbiaadoigeaaPool11
import Derived.Test.YtlidbiaadoigeaaKit3
import Derived.Deep.RegionHeld3
import Derived.Deep.DeepCutAuto
namespace Go.Proofs.Ytlidbiaadoigeaa
open Go.RowKit

/-- what Take hands back, at every pool -/
def takeR (base pages : Int) (xs : List Int) : Int × Int × List Int × Int := if takeE base pages xs = 0 then (base, pages, xs.take (xs.length - 1), xs[xs.length - 1]?.getD 0) else (0, 0, [], 0)
theorem take_all (base pages : Int) (A : Option Addr) (n c lo : Nat) (xs : List Int) (w : World) (h : Sl i64 0 w lo w.heap.size A n xs) (hn : n ≤ 500) (hnc : n ≤ c) (b1 p1 pg code : Int) (zs : List Int) (hr : takeR base pages xs = (b1, p1, zs, pg)) (hc : takeE base pages xs = code) :
    Calls Try.prog 10 #[pv base pages A n c] w fun e w' => ∃ A' n' c', e = .returned (.tuple #[pv b1 p1 A' n' c', .int .i64 pg, .int .i64 code]) ∧ Ow i64 w' w.heap.size 3 A' n' c' zs ∧ Below w.heap.size w w' := by
  refine (take_calls base pages A n c lo xs w h hn hnc).mono ?_
  rintro e w' ⟨b', p', A', m', c', ys', pg', he, h1, h2, h3⟩
  by_cases h0 : takeE base pages xs = 0
  · rw [if_pos h0] at h1
    rw [takeR, if_pos h0] at hr
    simp only [Prod.mk.injEq] at hr
    obtain ⟨rfl, rfl, e1, e2⟩ := hr
    obtain ⟨rfl, rfl, h4⟩ := h1
    subst h4
    simp at e1 e2
    subst e1 e2
    exact ⟨A', m', c', by rw [he, hc], h2, h3⟩
  · rw [if_neg h0] at h1
    rw [takeR, if_neg h0] at hr
    simp only [Prod.mk.injEq] at hr
    obtain ⟨rfl, rfl, rfl, rfl⟩ := hr
    obtain ⟨rfl, rfl, rfl, rfl⟩ := h1
    exact ⟨A', m', c', by rw [he, hc], h2, h3⟩
theorem giveR_len (base pages : Int) (xs ps : List Int) : (givePR base pages xs ps).2.2.length ≤ xs.length + ps.length := by
  unfold givePR giveR
  by_cases h1 : freeB base pages xs = true
  · rw [if_pos h1]
    by_cases h2 : giveE pages xs ps = 0
    · rw [if_pos h2]; simp
    · rw [if_neg h2]; simp
  · rw [if_neg h1]; simp
theorem Blk.ne_row {α : Type} {enc : α → Value} {w : World} {g gb : Nat} {t e : TypeId} {cs : Array Value} {lo n c : Nat} {xs : List α} (h : Blk w g t cs) (ho : Ow enc w lo e (some ⟨gb, 0, none⟩) n c xs) (hne : t ≠ e) : g ≠ gb := by
  rintro rfl
  rcases ho.own.2 with ⟨hv, _⟩ | ⟨g', cap, cur, hv, _, hg, _⟩
  · simp at hv
  · simp only [Value.slice.injEq, Option.some.injEq, Addr.mk.injEq, and_true, true_and] at hv
    obtain ⟨rfl, _⟩ := hv
    unfold Blk at h
    rw [h] at hg
    injection hg with hg
    injection hg with _ ht
    exact hne ht

set_option maxHeartbeats 20000000 in
set_option maxRecDepth 100000 in
theorem moves_any (base pages : Int) (A : Option Addr) (n c : Nat) (Ap : Option Addr) (np cp lo : Nat) (xs ps : List Int) (w : World) (h : Sl i64 0 w lo w.heap.size A n xs) (hnc : n ≤ c) (hP : Sl i64 0 w 0 w.heap.size Ap np ps) (hcp : np ≤ cp) :
    Calls Try.prog 3 #[pv base pages A n c, .slice Ap np cp] w fun e w' => e = .returned (.bool true) ∧ Below w.heap.size w w' := by
  have hB := below_box w (.cells #[.int .i64 base, .int .i64 pages, .slice A n c] 24)
  have S0 := h.step hB
  have P0 := Blk.new w 24 #[.int .i64 base, .int .i64 pages, .slice A n c]
  have SP := hP.step hB
  clear h hP
  go_enter Try.func3, Try.ntmps3
  go_wp2_with fail
  generalize w.alloc (.cells #[.int .i64 base, .int .i64 pages, .slice A n c] 24) = W0 at *
  refine (wakes_any _).mono ?_
  rintro e W1 ⟨rfl, hb1⟩
  replace S0 := S0.step hb1
  replace P0 := P0.step hb1
  replace SP := SP.step hb1
  replace hB := below_then hB hb1
  clear hb1
  obtain ⟨nq00, nq01, nq02, nf0⟩ := P0.cells3
  go_wp2_with fail
  clear nq00 nq01 nq02 nf0 
  refine (own_any base pages A n c lo xs W1 S0 hnc).mono ?_
  rintro e w2 ⟨A2, c2, rfl, hown2, hb2⟩
  obtain ⟨m2, hm2⟩ : ∃ m, m = min n 70 := ⟨_, rfl⟩
  obtain ⟨ys2, hys2⟩ : ∃ ys, ys = xs.take 70 := ⟨_, rfl⟩
  rw [← hm2, ← hys2] at hown2
  rw [← hm2]
  have hm2' : m2 ≤ 70 := by omega
  have HM2 := hid hm2
  have HY2 := hid hys2
  clear hm2 hys2
  have hx := below_then hb2 (below_box w2 (.cells #[.int .i64 base, .int .i64 pages, .slice A2 m2 c2] 24))
  replace S0 := S0.step hx
  replace P0 := P0.step hx
  replace SP := SP.step hx
  have S2 := (hown2.sl (d := 0)).step (below_box w2 (.cells #[.int .i64 base, .int .i64 pages, .slice A2 m2 c2] 24))
  have C2 := hown2.cap.1
  have P2 := Blk.new w2 24 #[.int .i64 base, .int .i64 pages, .slice A2 m2 c2]
  have HZ2 := hid (World.size_alloc w2 (.cells #[.int .i64 base, .int .i64 pages, .slice A2 m2 c2] 24))
  replace hB := below_then hB hx
  clear hx hb2 hown2
  go_wp2_with fail
  generalize w2.alloc (.cells #[.int .i64 base, .int .i64 pages, .slice A2 m2 c2] 24) = W2 at *
  refine (right_any base pages A2 m2 c2 _ ys2 _ S2 (by omega) C2).mono ?_
  rintro e W3 ⟨rfl, hb3⟩
  replace S0 := S0.step hb3
  replace P0 := P0.step hb3
  replace S2 := S2.step hb3
  replace P2 := P2.step hb3
  replace SP := SP.step hb3
  replace hB := below_then hB hb3
  clear hb3
  obtain ⟨nq00, nq01, nq02, nf0⟩ := P2.cells3
  go_wp2_with fail
  clear nq00 nq01 nq02 nf0 
  -- t, n, e := Take(p)
  obtain ⟨j, hj⟩ : ∃ j, j = min np 20 := ⟨_, rfl⟩
  obtain ⟨qs, hqs⟩ : ∃ qs, qs = ps.take j := ⟨_, rfl⟩
  have HJ := hid hj; have hj20 : j ≤ 20 := by omega
  replace SP := SP.take (show j ≤ np by omega)
  rw [← hqs] at SP
  have HQS := hid hqs
  obtain ⟨gb, gp, gs, hG⟩ : ∃ gb gp gs, givePR base pages ys2 qs = (gb, gp, gs) := ⟨_, _, _, rfl⟩
  obtain ⟨gcode, hGC⟩ : ∃ gcode, giveP base pages ys2 qs = gcode := ⟨_, rfl⟩
  have HG := hid hG; have HGC := hid hGC
  have HGL := hid (show gs.length ≤ 200 by
    have := giveR_len base pages ys2 qs
    rw [hG] at this
    have h1 := S2.len; have h2 := SP.len
    simp only at this; omega)
  clear hj hqs hG hGC
  have HBW3 := hid hB; have HSP := hid SP
  have HP2 := hid P2; have HS2 := hid S2; have HP0 := hid P0; have HS0 := hid S0
  obtain ⟨b1, p1, zs, pg, hR⟩ : ∃ b1 p1 zs pg, takeR base pages ys2 = (b1, p1, zs, pg) := ⟨_, _, _, _, rfl⟩
  obtain ⟨code, hC⟩ : ∃ code, takeE base pages ys2 = code := ⟨_, rfl⟩
  have HR := hid hR; have HC := hid hC
  refine (take_all base pages A2 m2 c2 _ ys2 W3 S2 (by omega) C2 b1 p1 pg code zs hR hC).mono ?_
  rintro e w4 ⟨A4, n4, c4, rfl, own4, hb4⟩
  have HO4a := hid own4; have HZ34 := hid hb4.size
  obtain ⟨rt, hrt⟩ : ∃ rt, rt = freeB base pages ys2 := ⟨_, rfl⟩
  rw [← hrt]
  have HRT := hid hrt
  clear hR hC hrt
  have hx := below_then (below_then hb4 (below_box w4 (.cells #[.int .i64 b1, .int .i64 p1, .slice A4 n4 c4] 24))) (below_box _ (.cells #[.int .i64 0, .int .i64 0, .slice none 0 0] 24))
  have HB3 := hid hx
  have P4 := (Blk.new w4 24 #[.int .i64 b1, .int .i64 p1, .slice A4 n4 c4]).step (below_box _ (.cells #[.int .i64 0, .int .i64 0, .slice none 0 0] 24))
  have P5 := Blk.new2 w4 24 #[.int .i64 0, .int .i64 0, .slice none 0 0] (.cells #[.int .i64 b1, .int .i64 p1, .slice A4 n4 c4] 24)
  replace own4 := (own4.step (below_box w4 (.cells #[.int .i64 b1, .int .i64 p1, .slice A4 n4 c4] 24))).step (below_box _ (.cells #[.int .i64 0, .int .i64 0, .slice none 0 0] 24))
  replace P2 := P2.step hx; replace S2 := S2.step hx; replace P0 := P0.step hx; replace S0 := S0.step hx; replace SP := SP.step hx
  replace hB := below_then hB hx
  have HZ4 := hid (show w4.heap.size + 2 ≤ ((w4.alloc (.cells #[.int .i64 b1, .int .i64 p1, .slice A4 n4 c4] 24)).alloc (.cells #[.int .i64 0, .int .i64 0, .slice none 0 0] 24)).heap.size by simp)
  clear hx hb4
  have H4n := hid own4.len
  by_cases hf : freeB base pages ys2 = true
  · obtain rfl : rt = true := HRT.out.trans hf
    rcases List.eq_nil_or_concat ys2 with hnil | ⟨yi, yl, hcat⟩
    · have hcode : takeE base pages ys2 = 6 := by rw [takeE, if_pos hf, hnil]; rfl
      obtain rfl : 6 = code := hcode.symm.trans HC.out
      have hR := HR.out
      rw [takeR, if_neg (by rw [hcode]; omega)] at hR
      simp only [Prod.mk.injEq] at hR
      obtain ⟨rfl, rfl, rfl, rfl⟩ := hR
      have E45 := hid (show sameB 0 0 [] 0 0 [] = true by decide)
      obtain rfl : m2 = 0 := by have := S2.len; rw [hnil] at this; exact this.symm
      have Hnil := hid hnil
      clear hcode hnil
      obtain ⟨q0, q1, q2, qf⟩ := P4.cells3
      obtain ⟨r0, r1, r2, rf⟩ := P5.cells3
      obtain ⟨k0, k1, k2, kf⟩ := P2.cells3
      obtain rfl : n4 = 0 := own4.len.symm
      go_wp2_with fail
      clear q0 q1 q2 qf r0 r1 r2 rf k0 k1 k2 kf
      generalize (w4.alloc (.cells #[.int .i64 0, .int .i64 0, .slice A4 0 c4] 24)).alloc (.cells #[.int .i64 0, .int .i64 0, .slice none 0 0] 24) = W4 at *
      have SW4 : Sl i64 0 W4 0 W4.heap.size none 0 [] := Sl.nil _ _ _ _
      refine (rsame_any _ _ _ _ _ _ _ _ _ _ _ _ _ _ W4 (own4.sl (d := 0)) SW4 (by omega) (by omega)).mono ?_
      rintro e W5 ⟨rfl, hb5⟩
      rw [E45.out]
      replace P2 := P2.step hb5; replace S2 := S2.step hb5; replace P0 := P0.step hb5; replace S0 := S0.step hb5; replace SP := SP.step hb5; replace P4 := P4.step hb5; replace own4 := own4.step hb5
      replace hB := below_then hB hb5
      replace HB3 := hid (below_then HB3.out hb5)
      have HB35 := HB3; have HP4 := hid P4; have HO4 := hid own4
      clear hb5 P5 HZ4 E45 SW4
      by_cases h20 : np ≤ 20
      · obtain rfl : j = np := by have := HJ.out; omega
        obtain ⟨k0, k1, k2, kf⟩ := P2.cells3
        go_wp2_with fail
        clear k0 k1 k2 kf
        refine (give_any base pages A2 Ap 0 c2 _ _ cp _ ys2 qs W5 S2 SP (by omega) (by omega)).mono ?_
        rintro e w6 ⟨gb', gp', A6, n6, c6, gs', rfl, hgr, own6, hb6⟩
        rw [HG.out] at hgr
        simp only [Prod.mk.injEq] at hgr
        obtain ⟨rfl, rfl, rfl⟩ := hgr
        rw [HGC.out]
        have hn6 : n6 ≤ 200 := by have := own6.len; have := HGL.out; omega
        replace P2 := P2.step hb6; replace S2 := S2.step hb6; replace P0 := P0.step hb6; replace S0 := S0.step hb6; replace SP := SP.step hb6; replace P4 := P4.step hb6; replace own4 := own4.step hb6
        replace hB := below_then hB hb6
        replace HB3 := hid (below_then HB3.out hb6)
        have hx := below_then (below_box w6 (.cells #[.int .i64 gb, .int .i64 gp, .slice A6 n6 c6] 24)) (below_box _ (.cells #[.int .i64 0, .int .i64 0, .slice none 0 0] 24))
        have HB5 := hid (below_then hb6 hx)
        have HZ5 := hid hb6.size
        have HO6 := hid own6; have HB6 := hid hx
        clear hb6
        have P6 := (Blk.new w6 24 #[.int .i64 gb, .int .i64 gp, .slice A6 n6 c6]).step (below_box _ (.cells #[.int .i64 0, .int .i64 0, .slice none 0 0] 24))
        have P7 := Blk.new2 w6 24 #[.int .i64 0, .int .i64 0, .slice none 0 0] (.cells #[.int .i64 gb, .int .i64 gp, .slice A6 n6 c6] 24)
        replace own6 := (own6.step (below_box w6 (.cells #[.int .i64 gb, .int .i64 gp, .slice A6 n6 c6] 24))).step (below_box _ (.cells #[.int .i64 0, .int .i64 0, .slice none 0 0] 24))
        have HZ6 := hid (show w6.heap.size + 2 ≤ ((w6.alloc (.cells #[.int .i64 gb, .int .i64 gp, .slice A6 n6 c6] 24)).alloc (.cells #[.int .i64 0, .int .i64 0, .slice none 0 0] 24)).heap.size by simp)
        replace P2 := P2.step hx; replace S2 := S2.step hx; replace P0 := P0.step hx; replace S0 := S0.step hx; replace SP := SP.step hx; replace P4 := P4.step hx; replace own4 := own4.step hx
        replace hB := below_then hB hx
        replace HB3 := hid (below_then HB3.out hx)
        clear hx
        obtain ⟨q0, q1, q2, qf⟩ := P2.cells3
        obtain ⟨k0, k1, k2, kf⟩ := P6.cells3
        obtain ⟨r0, r1, r2, rf⟩ := P7.cells3
        go_wp2_with fail
        clear q0 q1 q2 qf k0 k1 k2 kf r0 r1 r2 rf
        generalize (w6.alloc (.cells #[.int .i64 gb, .int .i64 gp, .slice A6 n6 c6] 24)).alloc (.cells #[.int .i64 0, .int .i64 0, .slice none 0 0] 24) = V7 at *
        refine (rgive_any base pages A2 Ap 0 c2 _ _ cp _ ys2 qs V7 S2 SP (by omega) (by omega)).mono ?_
        rintro e w8 ⟨b8, p8, A8, n8, c8, g8, rfl, hgr, own8, hb8⟩
        have hgr2 : giveR base pages ys2 qs = (gb, gp, gs) := by have := HG.out; rwa [givePR, if_pos hf] at this
        rw [hgr2] at hgr
        simp only [Prod.mk.injEq] at hgr
        obtain ⟨rfl, rfl, rfl⟩ := hgr
        clear hgr2
        have hgc2 : giveE pages ys2 qs = gcode := by have := HGC.out; rwa [giveP, if_pos hf] at this
        rw [hgc2]
        clear hgc2
        replace P6 := P6.step hb8; replace P7 := P7.step hb8; replace own6 := own6.step hb8
        replace HB5 := hid (below_then HB5.out hb8)
        replace HB6 := hid (below_then HB6.out hb8)
        clear hb8 P2 S2 P0 S0 SP P4 own4 hB HB3
        obtain ⟨k0, k1, k2, kf⟩ := P6.cells3
        obtain ⟨r0, r1, r2, rf⟩ := P7.cells3
        go_wp2_with fail
        clear k0 k1 k2 kf r0 r1 r2 rf
        have hz5 := HZ5.out
        have hz6 := HZ6.out
        have bel := ((HB6.out.setCell (p := ⟨w6.heap.size + 1, 0, none⟩) (by simp) (.int .i64 gb)).setCell (p := ⟨w6.heap.size + 1, 1, none⟩) (by simp) (.int .i64 gp)).setCell (p := ⟨w6.heap.size + 1, 2, none⟩) (by simp) (.slice A8 n8 c8)
        replace own6 := HO6.out.step bel
        replace P6 := ((P6.far (p := ⟨w6.heap.size + 1, 0, none⟩) (by simp) (.int .i64 gb)).far (p := ⟨w6.heap.size + 1, 1, none⟩) (by simp) (.int .i64 gp)).far (p := ⟨w6.heap.size + 1, 2, none⟩) (by simp) (.slice A8 n8 c8)
        replace own8 := ((own8.setFar (p := ⟨w6.heap.size + 1, 0, none⟩) (.inl (by simp; omega)) (.int .i64 gb)).setFar (p := ⟨w6.heap.size + 1, 1, none⟩) (.inl (by simp; omega)) (.int .i64 gp)).setFar (p := ⟨w6.heap.size + 1, 2, none⟩) (.inl (by simp; omega)) (.slice A8 n8 c8)
        replace HB5 := hid (((HB5.out.setCell (p := ⟨w6.heap.size + 1, 0, none⟩) (by simp; omega) (.int .i64 gb)).setCell (p := ⟨w6.heap.size + 1, 1, none⟩) (by simp; omega) (.int .i64 gp)).setCell (p := ⟨w6.heap.size + 1, 2, none⟩) (by simp; omega) (.slice A8 n8 c8))
        clear bel hz5 hz6 HB6 HO6
        have SW7 := own8.sl (d := 0)
        have hn8 : n8 ≤ 200 := by have := own8.len; have := HGL.out; omega
        clear own8
        have E67 := hid (show sameB gb gp gs gb gp gs = true by simp [sameB])
        generalize ((w8.setCell ⟨w6.heap.size + 1, 0, none⟩ (.int .i64 gb)).setCell ⟨w6.heap.size + 1, 1, none⟩ (.int .i64 gp)).setCell ⟨w6.heap.size + 1, 2, none⟩ (.slice A8 n8 c8) = W7 at *
        refine (rsame_any _ _ _ _ _ _ _ _ _ _ _ _ _ _ W7 (own6.sl (d := 0)) SW7 (by omega) (by omega)).mono ?_
        rintro e W8 ⟨rfl, hb8⟩
        rw [E67.out]
        replace P6 := P6.step hb8; replace own6 := own6.step hb8
        replace HB5 := hid (below_then HB5.out hb8)
        clear hb8 P7 HZ6 HZ5 E67 SW7
        obtain ⟨k0, k1, k2, kf⟩ := P6.cells3
        go_wp2_with fail
        clear k0 k1 k2 kf
        go_loopw [100] (fun i wr => ∃ k : Nat, k ≤ n6 ∧ i = .int .i64 k ∧ Blk wr w6.heap.size 24 #[.int .i64 gb, .int .i64 gp, .slice A6 n6 c6] ∧ (∃ ws, Ow i64 wr W5.heap.size 3 A6 n6 c6 ws) ∧ Below W5.heap.size W5 wr) (fun i _ => n6 - (intOf i).toNat)
        case atStart => exact ⟨0, Nat.zero_le _, rfl, P6, ⟨_, own6⟩, HB5.out⟩
        case round =>
          obtain ⟨k, hk, rfl, P6', ⟨ws, o6⟩, hBr⟩ := hrel
          by_cases hlt : k < n6
          · obtain ⟨g, rfl, hg1, hg2, hc, hfz⟩ := o6.at_ 0 hlt
            obtain ⟨x, hX⟩ : ∃ x, x = ws[k]?.getD 0 := ⟨_, rfl⟩
            rw [← hX] at hc
            have hne := P6'.ne_row o6 (by decide)
            clear hX
            have HH := hid hBr; have HO := hid o6; have HP := hid P6'
            obtain ⟨k0, k1, k2, kf⟩ := P6'.cells3
            clear hBr o6
            go_wp2
            go_roundw
            case rel => exact ⟨k + 1, by omega, by go_num, HP.out.far hne _, ⟨_, HO.out.stored k _⟩, HH.out.setCell hg1 _⟩
            case measure => simp [intOf]; omega
          · clear P6' o6
            have P4' := HP4.out.step hBr
            have o4 := HO4.out.step hBr
            have HB3' := hid (below_then HB35.out hBr)
            clear hBr
            obtain ⟨k0, k1, k2, kf⟩ := P4'.cells3
            go_wp2_with fail
            clear k0 k1 k2 kf
            go_loopw [114] (fun i wr => ∃ k : Nat, k ≤ 0 ∧ i = .int .i64 k ∧ Blk wr w4.heap.size 24 #[.int .i64 0, .int .i64 0, .slice A4 0 c4] ∧ (∃ ws, Ow i64 wr W3.heap.size 3 A4 0 c4 ws) ∧ Below W3.heap.size W3 wr) (fun i _ => 0 - (intOf i).toNat)
            case atStart => exact ⟨0, Nat.zero_le _, rfl, P4', ⟨_, o4⟩, HB3'.out⟩
            case round =>
              clear P4' o4
              obtain ⟨k', hk', rfl, P4', ⟨ws, o4⟩, hBr⟩ := hrel
              by_cases hlt' : k' < 0
              · exact absurd hlt' (Nat.not_lt_zero _)
              · have P2 := HP2.out.step hBr
                have S2 := HS2.out.step hBr
                have P0 := HP0.out.step hBr
                have S0 := HS0.out.step hBr
                have hB := below_then HBW3.out hBr
                clear hBr o4 P4'
                go_wp2_with fail
                have HS : Hid (∀ w', Below wr.heap.size wr w' → (Below wr.heap.size wr w' ∧ w'.cell? ⟨w2.heap.size, 0, none⟩ = some (.int .i64 base) ∧ w'.cell? ⟨w2.heap.size, 1, none⟩ = some (.int .i64 pages) ∧ w'.cell? ⟨w2.heap.size, 2, none⟩ = some (.slice A2 0 c2) ∧ w'.cell? ⟨w.heap.size, 0, none⟩ = some (.int .i64 base) ∧ w'.cell? ⟨w.heap.size, 1, none⟩ = some (.int .i64 pages) ∧ w'.cell? ⟨w.heap.size, 2, none⟩ = some (.slice A n c))) := hid (fun w' hh => ⟨hh, (P2.step hh).cells3.1, (P2.step hh).cells3.2.1, (P2.step hh).cells3.2.2.1, (P0.step hh).cells3.1, (P0.step hh).cells3.2.1, (P0.step hh).cells3.2.2.1⟩)
                have HB0 := hid hB
                have HE : Hid (sameB base pages ys2 base pages (xs.take 70) = true) := hid (by rw [HY2.out]; simp [sameB])
                have HS2' := hid S2; have HS0' := hid S0
                clear P2 P0 hB S2 S0
                obtain ⟨_, k0, k1, k2, r0, r1, r2⟩ := HS.out wr (Below.refl _ _)
                go_region_held3 (fun w' => Below wr.heap.size wr w' ∧ w'.cell? ⟨w2.heap.size, 0, none⟩ = some (.int .i64 base) ∧ w'.cell? ⟨w2.heap.size, 1, none⟩ = some (.int .i64 pages) ∧ w'.cell? ⟨w2.heap.size, 2, none⟩ = some (.slice A2 0 c2) ∧ w'.cell? ⟨w.heap.size, 0, none⟩ = some (.int .i64 base) ∧ w'.cell? ⟨w.heap.size, 1, none⟩ = some (.int .i64 pages) ∧ w'.cell? ⟨w.heap.size, 2, none⟩ = some (.slice A n c))
                  (first | (exact HS.out _ (Below.refl _ _).drew) | (go_keep; done) | (go_split_ands; exact HS.out _ (below_then (by assumption) hb)))
                  (first
                    | (go_at_call 8; go_split_ands; refine (own_any base pages A n c lo xs _ (HS0'.out.step (by first | assumption | exact (Below.refl _ _).drew)) hnc).mono ?_; rintro e w' ⟨A', c', rfl, hown, hb⟩)
                    | (go_at_call 11; go_split_ands; (with_reducible refine (rsame_any base pages base pages A2 A' 0 c2 (min n 70) c' W1.heap.size _ ys2 (xs.take 70) w' (HS2'.out.step (by first | assumption | exact below_then (by assumption) hb)) (hown.sl (d := 0)) (by omega) (by omega)).mono ?_); rw [HE.out]; rintro e w'' ⟨rfl, hb⟩))
                go_wp2
                go_ret
                go_split_ands
                exact ⟨rfl, below_then HB0.out (by assumption)⟩
      · obtain rfl : j = 20 := by have := HJ.out; omega
        have h20' : 20 ≤ np := by omega
        have hncp : 20 ≤ cp := by omega
        obtain ⟨k0, k1, k2, kf⟩ := P2.cells3
        go_wp2_with fail
        clear k0 k1 k2 kf
        refine (give_any base pages A2 Ap 0 c2 _ _ cp _ ys2 qs W5 S2 SP (by omega) (by omega)).mono ?_
        rintro e w6 ⟨gb', gp', A6, n6, c6, gs', rfl, hgr, own6, hb6⟩
        rw [HG.out] at hgr
        simp only [Prod.mk.injEq] at hgr
        obtain ⟨rfl, rfl, rfl⟩ := hgr
        rw [HGC.out]
        have hn6 : n6 ≤ 200 := by have := own6.len; have := HGL.out; omega
        replace P2 := P2.step hb6; replace S2 := S2.step hb6; replace P0 := P0.step hb6; replace S0 := S0.step hb6; replace SP := SP.step hb6; replace P4 := P4.step hb6; replace own4 := own4.step hb6
        replace hB := below_then hB hb6
        replace HB3 := hid (below_then HB3.out hb6)
        have hx := below_then (below_box w6 (.cells #[.int .i64 gb, .int .i64 gp, .slice A6 n6 c6] 24)) (below_box _ (.cells #[.int .i64 0, .int .i64 0, .slice none 0 0] 24))
        have HB5 := hid (below_then hb6 hx)
        have HZ5 := hid hb6.size
        have HO6 := hid own6; have HB6 := hid hx
        clear hb6
        have P6 := (Blk.new w6 24 #[.int .i64 gb, .int .i64 gp, .slice A6 n6 c6]).step (below_box _ (.cells #[.int .i64 0, .int .i64 0, .slice none 0 0] 24))
        have P7 := Blk.new2 w6 24 #[.int .i64 0, .int .i64 0, .slice none 0 0] (.cells #[.int .i64 gb, .int .i64 gp, .slice A6 n6 c6] 24)
        replace own6 := (own6.step (below_box w6 (.cells #[.int .i64 gb, .int .i64 gp, .slice A6 n6 c6] 24))).step (below_box _ (.cells #[.int .i64 0, .int .i64 0, .slice none 0 0] 24))
        have HZ6 := hid (show w6.heap.size + 2 ≤ ((w6.alloc (.cells #[.int .i64 gb, .int .i64 gp, .slice A6 n6 c6] 24)).alloc (.cells #[.int .i64 0, .int .i64 0, .slice none 0 0] 24)).heap.size by simp)
        replace P2 := P2.step hx; replace S2 := S2.step hx; replace P0 := P0.step hx; replace S0 := S0.step hx; replace SP := SP.step hx; replace P4 := P4.step hx; replace own4 := own4.step hx
        replace hB := below_then hB hx
        replace HB3 := hid (below_then HB3.out hx)
        clear hx
        obtain ⟨q0, q1, q2, qf⟩ := P2.cells3
        obtain ⟨k0, k1, k2, kf⟩ := P6.cells3
        obtain ⟨r0, r1, r2, rf⟩ := P7.cells3
        go_wp2_with fail
        clear q0 q1 q2 qf k0 k1 k2 kf r0 r1 r2 rf
        generalize (w6.alloc (.cells #[.int .i64 gb, .int .i64 gp, .slice A6 n6 c6] 24)).alloc (.cells #[.int .i64 0, .int .i64 0, .slice none 0 0] 24) = V7 at *
        refine (rgive_any base pages A2 Ap 0 c2 _ _ cp _ ys2 qs V7 S2 SP (by omega) (by omega)).mono ?_
        rintro e w8 ⟨b8, p8, A8, n8, c8, g8, rfl, hgr, own8, hb8⟩
        have hgr2 : giveR base pages ys2 qs = (gb, gp, gs) := by have := HG.out; rwa [givePR, if_pos hf] at this
        rw [hgr2] at hgr
        simp only [Prod.mk.injEq] at hgr
        obtain ⟨rfl, rfl, rfl⟩ := hgr
        clear hgr2
        have hgc2 : giveE pages ys2 qs = gcode := by have := HGC.out; rwa [giveP, if_pos hf] at this
        rw [hgc2]
        clear hgc2
        replace P6 := P6.step hb8; replace P7 := P7.step hb8; replace own6 := own6.step hb8
        replace HB5 := hid (below_then HB5.out hb8)
        replace HB6 := hid (below_then HB6.out hb8)
        clear hb8 P2 S2 P0 S0 SP P4 own4 hB HB3
        obtain ⟨k0, k1, k2, kf⟩ := P6.cells3
        obtain ⟨r0, r1, r2, rf⟩ := P7.cells3
        go_wp2_with fail
        clear k0 k1 k2 kf r0 r1 r2 rf
        have hz5 := HZ5.out
        have hz6 := HZ6.out
        have bel := ((HB6.out.setCell (p := ⟨w6.heap.size + 1, 0, none⟩) (by simp) (.int .i64 gb)).setCell (p := ⟨w6.heap.size + 1, 1, none⟩) (by simp) (.int .i64 gp)).setCell (p := ⟨w6.heap.size + 1, 2, none⟩) (by simp) (.slice A8 n8 c8)
        replace own6 := HO6.out.step bel
        replace P6 := ((P6.far (p := ⟨w6.heap.size + 1, 0, none⟩) (by simp) (.int .i64 gb)).far (p := ⟨w6.heap.size + 1, 1, none⟩) (by simp) (.int .i64 gp)).far (p := ⟨w6.heap.size + 1, 2, none⟩) (by simp) (.slice A8 n8 c8)
        replace own8 := ((own8.setFar (p := ⟨w6.heap.size + 1, 0, none⟩) (.inl (by simp; omega)) (.int .i64 gb)).setFar (p := ⟨w6.heap.size + 1, 1, none⟩) (.inl (by simp; omega)) (.int .i64 gp)).setFar (p := ⟨w6.heap.size + 1, 2, none⟩) (.inl (by simp; omega)) (.slice A8 n8 c8)
        replace HB5 := hid (((HB5.out.setCell (p := ⟨w6.heap.size + 1, 0, none⟩) (by simp; omega) (.int .i64 gb)).setCell (p := ⟨w6.heap.size + 1, 1, none⟩) (by simp; omega) (.int .i64 gp)).setCell (p := ⟨w6.heap.size + 1, 2, none⟩) (by simp; omega) (.slice A8 n8 c8))
        clear bel hz5 hz6 HB6 HO6
        have SW7 := own8.sl (d := 0)
        have hn8 : n8 ≤ 200 := by have := own8.len; have := HGL.out; omega
        clear own8
        have E67 := hid (show sameB gb gp gs gb gp gs = true by simp [sameB])
        generalize ((w8.setCell ⟨w6.heap.size + 1, 0, none⟩ (.int .i64 gb)).setCell ⟨w6.heap.size + 1, 1, none⟩ (.int .i64 gp)).setCell ⟨w6.heap.size + 1, 2, none⟩ (.slice A8 n8 c8) = W7 at *
        refine (rsame_any _ _ _ _ _ _ _ _ _ _ _ _ _ _ W7 (own6.sl (d := 0)) SW7 (by omega) (by omega)).mono ?_
        rintro e W8 ⟨rfl, hb8⟩
        rw [E67.out]
        replace P6 := P6.step hb8; replace own6 := own6.step hb8
        replace HB5 := hid (below_then HB5.out hb8)
        clear hb8 P7 HZ6 HZ5 E67 SW7
        obtain ⟨k0, k1, k2, kf⟩ := P6.cells3
        go_wp2_with fail
        clear k0 k1 k2 kf
        go_loopw [100] (fun i wr => ∃ k : Nat, k ≤ n6 ∧ i = .int .i64 k ∧ Blk wr w6.heap.size 24 #[.int .i64 gb, .int .i64 gp, .slice A6 n6 c6] ∧ (∃ ws, Ow i64 wr W5.heap.size 3 A6 n6 c6 ws) ∧ Below W5.heap.size W5 wr) (fun i _ => n6 - (intOf i).toNat)
        case atStart => exact ⟨0, Nat.zero_le _, rfl, P6, ⟨_, own6⟩, HB5.out⟩
        case round =>
          obtain ⟨k, hk, rfl, P6', ⟨ws, o6⟩, hBr⟩ := hrel
          by_cases hlt : k < n6
          · obtain ⟨g, rfl, hg1, hg2, hc, hfz⟩ := o6.at_ 0 hlt
            obtain ⟨x, hX⟩ : ∃ x, x = ws[k]?.getD 0 := ⟨_, rfl⟩
            rw [← hX] at hc
            have hne := P6'.ne_row o6 (by decide)
            clear hX
            have HH := hid hBr; have HO := hid o6; have HP := hid P6'
            obtain ⟨k0, k1, k2, kf⟩ := P6'.cells3
            clear hBr o6
            go_wp2
            go_roundw
            case rel => exact ⟨k + 1, by omega, by go_num, HP.out.far hne _, ⟨_, HO.out.stored k _⟩, HH.out.setCell hg1 _⟩
            case measure => simp [intOf]; omega
          · clear P6' o6
            have P4' := HP4.out.step hBr
            have o4 := HO4.out.step hBr
            have HB3' := hid (below_then HB35.out hBr)
            clear hBr
            obtain ⟨k0, k1, k2, kf⟩ := P4'.cells3
            go_wp2_with fail
            clear k0 k1 k2 kf
            go_loopw [114] (fun i wr => ∃ k : Nat, k ≤ 0 ∧ i = .int .i64 k ∧ Blk wr w4.heap.size 24 #[.int .i64 0, .int .i64 0, .slice A4 0 c4] ∧ (∃ ws, Ow i64 wr W3.heap.size 3 A4 0 c4 ws) ∧ Below W3.heap.size W3 wr) (fun i _ => 0 - (intOf i).toNat)
            case atStart => exact ⟨0, Nat.zero_le _, rfl, P4', ⟨_, o4⟩, HB3'.out⟩
            case round =>
              clear P4' o4
              obtain ⟨k', hk', rfl, P4', ⟨ws, o4⟩, hBr⟩ := hrel
              by_cases hlt' : k' < 0
              · exact absurd hlt' (Nat.not_lt_zero _)
              · have P2 := HP2.out.step hBr
                have S2 := HS2.out.step hBr
                have P0 := HP0.out.step hBr
                have S0 := HS0.out.step hBr
                have hB := below_then HBW3.out hBr
                clear hBr o4 P4'
                go_wp2_with fail
                have HS : Hid (∀ w', Below wr.heap.size wr w' → (Below wr.heap.size wr w' ∧ w'.cell? ⟨w2.heap.size, 0, none⟩ = some (.int .i64 base) ∧ w'.cell? ⟨w2.heap.size, 1, none⟩ = some (.int .i64 pages) ∧ w'.cell? ⟨w2.heap.size, 2, none⟩ = some (.slice A2 0 c2) ∧ w'.cell? ⟨w.heap.size, 0, none⟩ = some (.int .i64 base) ∧ w'.cell? ⟨w.heap.size, 1, none⟩ = some (.int .i64 pages) ∧ w'.cell? ⟨w.heap.size, 2, none⟩ = some (.slice A n c))) := hid (fun w' hh => ⟨hh, (P2.step hh).cells3.1, (P2.step hh).cells3.2.1, (P2.step hh).cells3.2.2.1, (P0.step hh).cells3.1, (P0.step hh).cells3.2.1, (P0.step hh).cells3.2.2.1⟩)
                have HB0 := hid hB
                have HE : Hid (sameB base pages ys2 base pages (xs.take 70) = true) := hid (by rw [HY2.out]; simp [sameB])
                have HS2' := hid S2; have HS0' := hid S0
                clear P2 P0 hB S2 S0
                obtain ⟨_, k0, k1, k2, r0, r1, r2⟩ := HS.out wr (Below.refl _ _)
                go_region_held3 (fun w' => Below wr.heap.size wr w' ∧ w'.cell? ⟨w2.heap.size, 0, none⟩ = some (.int .i64 base) ∧ w'.cell? ⟨w2.heap.size, 1, none⟩ = some (.int .i64 pages) ∧ w'.cell? ⟨w2.heap.size, 2, none⟩ = some (.slice A2 0 c2) ∧ w'.cell? ⟨w.heap.size, 0, none⟩ = some (.int .i64 base) ∧ w'.cell? ⟨w.heap.size, 1, none⟩ = some (.int .i64 pages) ∧ w'.cell? ⟨w.heap.size, 2, none⟩ = some (.slice A n c))
                  (first | (exact HS.out _ (Below.refl _ _).drew) | (go_keep; done) | (go_split_ands; exact HS.out _ (below_then (by assumption) hb)))
                  (first
                    | (go_at_call 8; go_split_ands; refine (own_any base pages A n c lo xs _ (HS0'.out.step (by first | assumption | exact (Below.refl _ _).drew)) hnc).mono ?_; rintro e w' ⟨A', c', rfl, hown, hb⟩)
                    | (go_at_call 11; go_split_ands; (with_reducible refine (rsame_any base pages base pages A2 A' 0 c2 (min n 70) c' W1.heap.size _ ys2 (xs.take 70) w' (HS2'.out.step (by first | assumption | exact below_then (by assumption) hb)) (hown.sl (d := 0)) (by omega) (by omega)).mono ?_); rw [HE.out]; rintro e w'' ⟨rfl, hb⟩))
                go_wp2
                go_ret
                go_split_ands
                exact ⟨rfl, below_then HB0.out (by assumption)⟩
    · obtain ⟨h0, hpos⟩ : 0 < m2 ∧ ys2 ≠ [] := by
        have := S2.len
        rw [hcat] at this
        simp at this
        exact ⟨by omega, by rw [hcat]; simp⟩
      have hcode : takeE base pages ys2 = 0 := by rw [takeE, if_pos hf, if_neg hpos]
      obtain rfl : 0 = code := hcode.symm.trans HC.out
      have hR := HR.out
      rw [takeR, if_pos hcode, S2.len] at hR
      simp only [Prod.mk.injEq] at hR
      obtain ⟨rfl, rfl, rfl, hpg⟩ := hR
      have Hpg := hid hpg
      clear hcode hcat hpos hpg
      have h0' : (0 : Int) < (m2 : Int) := by omega
      obtain ⟨k0, k1, k2, kf⟩ := P2.cells3
      go_wp2_with fail
      clear k0 k1 k2 kf
      have HB4 := hid (below_then (below_box w4 (.cells #[.int .i64 base, .int .i64 pages, .slice A4 n4 c4] 24)) (below_box _ (.cells #[.int .i64 0, .int .i64 0, .slice none 0 0] 24)))
      generalize (w4.alloc (.cells #[.int .i64 base, .int .i64 pages, .slice A4 n4 c4] 24)).alloc (.cells #[.int .i64 0, .int .i64 0, .slice none 0 0] 24) = V4 at *
      have hz4 := HZ4.out; have hz34 := HZ34.out
      refine (own_any base pages A2 m2 c2 _ ys2 V4 S2 C2).mono ?_
      rintro e w5 ⟨A5, c5, rfl, own5, hb5⟩
      rw [show min m2 70 = m2 by omega] at own5 ⊢
      rw [show ys2.take 70 = ys2 from List.take_of_length_le (by rw [S2.len]; omega)] at own5
      obtain ⟨b, off, rfl, hb1, hb2, hc⟩ := (HS2.out.below (below_then HB3.out hb5) (Nat.le_refl _)).row h0
      have g := hc (m2 - 1) (by omega)
      rw [Hpg.out] at g
      change _ = some (Value.int .i64 pg) at g
      have C5 := own5.cap.1
      replace P2 := P2.step hb5; replace P4 := P4.step hb5; replace P5 := P5.step hb5
      have hne1 : ¬ b = w4.heap.size + 1 := by omega
      have hne2 : ¬ w4.heap.size + 1 = b := by omega
      have hp2 := HP2.out.lt
      have hne3 : ¬ w2.heap.size = w4.heap.size + 1 := by omega
      have hne4 : ¬ w4.heap.size + 1 = w2.heap.size := by omega
      obtain ⟨k0, k1, k2, kf⟩ := P2.cells3
      obtain ⟨q0, q1, q2, qf⟩ := P4.cells3
      obtain ⟨r0, r1, r2, rf⟩ := P5.cells3
      clear hc
      go_upto_region 13 with (fail)
      clear k0 k1 k2 kf q0 q1 q2 qf r0 r1 r2 rf g hne1 hne2 hne3 hne4
      have bel4 := (((((below_then HB4.out hb5).setCell (p := ⟨w4.heap.size + 1, 0, none⟩) (by simp) (.int .i64 base)).setCell (p := ⟨w4.heap.size + 1, 1, none⟩) (by simp) (.int .i64 pages)).setCell (p := ⟨w4.heap.size + 1, 2, none⟩) (by simp) (.slice A5 m2 c5)).setCell (p := ⟨w4.heap.size + 1, 2, none⟩) (by simp) (.slice A5 (m2 - 1) c5))
      replace own4 := HO4a.out.step bel4
      replace P4 := ((((P4.far (p := ⟨w4.heap.size + 1, 0, none⟩) (by simp) (.int .i64 base)).far (p := ⟨w4.heap.size + 1, 1, none⟩) (by simp) (.int .i64 pages)).far (p := ⟨w4.heap.size + 1, 2, none⟩) (by simp) (.slice A5 m2 c5)).far (p := ⟨w4.heap.size + 1, 2, none⟩) (by simp) (.slice A5 (m2 - 1) c5))
      replace P5 : Blk _ _ _ #[.int .i64 base, .int .i64 pages, .slice A5 (m2 - 1) c5] := ((((P5.setCell 0 (.int .i64 base)).setCell 1 (.int .i64 pages)).setCell 2 (.slice A5 m2 c5)).setCell 2 (.slice A5 (m2 - 1) c5))
      replace own5 := ((((own5.setFar (p := ⟨w4.heap.size + 1, 0, none⟩) (.inl (by simp; omega)) (.int .i64 base)).setFar (p := ⟨w4.heap.size + 1, 1, none⟩) (.inl (by simp; omega)) (.int .i64 pages)).setFar (p := ⟨w4.heap.size + 1, 2, none⟩) (.inl (by simp; omega)) (.slice A5 m2 c5)).setFar (p := ⟨w4.heap.size + 1, 2, none⟩) (.inl (by simp; omega)) (.slice A5 (m2 - 1) c5))
      replace HB3 := hid (((((below_then HB3.out hb5).setCell (p := ⟨w4.heap.size + 1, 0, none⟩) (by simp; omega) (.int .i64 base)).setCell (p := ⟨w4.heap.size + 1, 1, none⟩) (by simp; omega) (.int .i64 pages)).setCell (p := ⟨w4.heap.size + 1, 2, none⟩) (by simp; omega) (.slice A5 m2 c5)).setCell (p := ⟨w4.heap.size + 1, 2, none⟩) (by simp; omega) (.slice A5 (m2 - 1) c5))
      clear bel4 hb5 HB4 HO4a S2 P2 S0 P0 SP hB
      generalize (((((w5).setCell ⟨w4.heap.size + 1, 0, none⟩ (.int .i64 base)).setCell ⟨w4.heap.size + 1, 1, none⟩ (.int .i64 pages)).setCell ⟨w4.heap.size + 1, 2, none⟩ (.slice A5 m2 c5)).setCell ⟨w4.heap.size + 1, 2, none⟩ (.slice A5 (m2 - 1) c5)) = W4 at *
      clear hz4 hz34 hp2 hb1 hb2
      have P2 := HP2.out.step HB3.out; have S2 := HS2.out.step HB3.out; have P0 := HP0.out.step HB3.out; have S0 := HS0.out.step HB3.out; have SP := HSP.out.step HB3.out
      have hB := below_then HBW3.out HB3.out
      have SW4 := (own5.sl (d := 0)).take (show m2 - 1 ≤ m2 by omega)
      have H4n' : n4 ≤ 200 := by have := own4.len; rw [List.length_take] at this; have := S2.len; omega
      clear own5
      have E45 := hid (show sameB base pages (ys2.take (m2 - 1)) base pages (ys2.take (m2 - 1)) = true by simp [sameB])
      obtain ⟨q0, q1, q2, qf⟩ := P4.cells3
      obtain ⟨r0, r1, r2, rf⟩ := P5.cells3
      go_wp2_with fail
      clear q0 q1 q2 qf r0 r1 r2 rf
      refine (rsame_any _ _ _ _ _ _ _ _ _ _ _ _ _ _ W4 (own4.sl (d := 0)) SW4 (by omega) (by omega)).mono ?_
      rintro e W5 ⟨rfl, hb5⟩
      rw [E45.out]
      replace P2 := P2.step hb5; replace S2 := S2.step hb5; replace P0 := P0.step hb5; replace S0 := S0.step hb5; replace SP := SP.step hb5; replace P4 := P4.step hb5; replace own4 := own4.step hb5
      replace hB := below_then hB hb5
      replace HB3 := hid (below_then HB3.out hb5)
      have HB35 := HB3; have HP4 := hid P4; have HO4 := hid own4
      clear hb5 P5 HZ4 E45 SW4
      by_cases h20 : np ≤ 20
      · obtain rfl : j = np := by have := HJ.out; omega
        obtain ⟨k0, k1, k2, kf⟩ := P2.cells3
        go_wp2_with fail
        clear k0 k1 k2 kf
        refine (give_any base pages (some ⟨b, off, none⟩) Ap m2 c2 _ _ cp _ ys2 qs W5 S2 SP (by omega) (by omega)).mono ?_
        rintro e w6 ⟨gb', gp', A6, n6, c6, gs', rfl, hgr, own6, hb6⟩
        rw [HG.out] at hgr
        simp only [Prod.mk.injEq] at hgr
        obtain ⟨rfl, rfl, rfl⟩ := hgr
        rw [HGC.out]
        have hn6 : n6 ≤ 200 := by have := own6.len; have := HGL.out; omega
        replace P2 := P2.step hb6; replace S2 := S2.step hb6; replace P0 := P0.step hb6; replace S0 := S0.step hb6; replace SP := SP.step hb6; replace P4 := P4.step hb6; replace own4 := own4.step hb6
        replace hB := below_then hB hb6
        replace HB3 := hid (below_then HB3.out hb6)
        have hx := below_then (below_box w6 (.cells #[.int .i64 gb, .int .i64 gp, .slice A6 n6 c6] 24)) (below_box _ (.cells #[.int .i64 0, .int .i64 0, .slice none 0 0] 24))
        have HB5 := hid (below_then hb6 hx)
        have HZ5 := hid hb6.size
        have HO6 := hid own6; have HB6 := hid hx
        clear hb6
        have P6 := (Blk.new w6 24 #[.int .i64 gb, .int .i64 gp, .slice A6 n6 c6]).step (below_box _ (.cells #[.int .i64 0, .int .i64 0, .slice none 0 0] 24))
        have P7 := Blk.new2 w6 24 #[.int .i64 0, .int .i64 0, .slice none 0 0] (.cells #[.int .i64 gb, .int .i64 gp, .slice A6 n6 c6] 24)
        replace own6 := (own6.step (below_box w6 (.cells #[.int .i64 gb, .int .i64 gp, .slice A6 n6 c6] 24))).step (below_box _ (.cells #[.int .i64 0, .int .i64 0, .slice none 0 0] 24))
        have HZ6 := hid (show w6.heap.size + 2 ≤ ((w6.alloc (.cells #[.int .i64 gb, .int .i64 gp, .slice A6 n6 c6] 24)).alloc (.cells #[.int .i64 0, .int .i64 0, .slice none 0 0] 24)).heap.size by simp)
        replace P2 := P2.step hx; replace S2 := S2.step hx; replace P0 := P0.step hx; replace S0 := S0.step hx; replace SP := SP.step hx; replace P4 := P4.step hx; replace own4 := own4.step hx
        replace hB := below_then hB hx
        replace HB3 := hid (below_then HB3.out hx)
        clear hx
        obtain ⟨q0, q1, q2, qf⟩ := P2.cells3
        obtain ⟨k0, k1, k2, kf⟩ := P6.cells3
        obtain ⟨r0, r1, r2, rf⟩ := P7.cells3
        go_wp2_with fail
        clear q0 q1 q2 qf k0 k1 k2 kf r0 r1 r2 rf
        generalize (w6.alloc (.cells #[.int .i64 gb, .int .i64 gp, .slice A6 n6 c6] 24)).alloc (.cells #[.int .i64 0, .int .i64 0, .slice none 0 0] 24) = V7 at *
        refine (rgive_any base pages (some ⟨b, off, none⟩) Ap m2 c2 _ _ cp _ ys2 qs V7 S2 SP (by omega) (by omega)).mono ?_
        rintro e w8 ⟨b8, p8, A8, n8, c8, g8, rfl, hgr, own8, hb8⟩
        have hgr2 : giveR base pages ys2 qs = (gb, gp, gs) := by have := HG.out; rwa [givePR, if_pos hf] at this
        rw [hgr2] at hgr
        simp only [Prod.mk.injEq] at hgr
        obtain ⟨rfl, rfl, rfl⟩ := hgr
        clear hgr2
        have hgc2 : giveE pages ys2 qs = gcode := by have := HGC.out; rwa [giveP, if_pos hf] at this
        rw [hgc2]
        clear hgc2
        replace P6 := P6.step hb8; replace P7 := P7.step hb8; replace own6 := own6.step hb8
        replace HB5 := hid (below_then HB5.out hb8)
        replace HB6 := hid (below_then HB6.out hb8)
        clear hb8 P2 S2 P0 S0 SP P4 own4 hB HB3
        obtain ⟨k0, k1, k2, kf⟩ := P6.cells3
        obtain ⟨r0, r1, r2, rf⟩ := P7.cells3
        go_wp2_with fail
        clear k0 k1 k2 kf r0 r1 r2 rf
        have hz5 := HZ5.out
        have hz6 := HZ6.out
        have bel := ((HB6.out.setCell (p := ⟨w6.heap.size + 1, 0, none⟩) (by simp) (.int .i64 gb)).setCell (p := ⟨w6.heap.size + 1, 1, none⟩) (by simp) (.int .i64 gp)).setCell (p := ⟨w6.heap.size + 1, 2, none⟩) (by simp) (.slice A8 n8 c8)
        replace own6 := HO6.out.step bel
        replace P6 := ((P6.far (p := ⟨w6.heap.size + 1, 0, none⟩) (by simp) (.int .i64 gb)).far (p := ⟨w6.heap.size + 1, 1, none⟩) (by simp) (.int .i64 gp)).far (p := ⟨w6.heap.size + 1, 2, none⟩) (by simp) (.slice A8 n8 c8)
        replace own8 := ((own8.setFar (p := ⟨w6.heap.size + 1, 0, none⟩) (.inl (by simp; omega)) (.int .i64 gb)).setFar (p := ⟨w6.heap.size + 1, 1, none⟩) (.inl (by simp; omega)) (.int .i64 gp)).setFar (p := ⟨w6.heap.size + 1, 2, none⟩) (.inl (by simp; omega)) (.slice A8 n8 c8)
        replace HB5 := hid (((HB5.out.setCell (p := ⟨w6.heap.size + 1, 0, none⟩) (by simp; omega) (.int .i64 gb)).setCell (p := ⟨w6.heap.size + 1, 1, none⟩) (by simp; omega) (.int .i64 gp)).setCell (p := ⟨w6.heap.size + 1, 2, none⟩) (by simp; omega) (.slice A8 n8 c8))
        clear bel hz5 hz6 HB6 HO6
        have SW7 := own8.sl (d := 0)
        have hn8 : n8 ≤ 200 := by have := own8.len; have := HGL.out; omega
        clear own8
        have E67 := hid (show sameB gb gp gs gb gp gs = true by simp [sameB])
        generalize ((w8.setCell ⟨w6.heap.size + 1, 0, none⟩ (.int .i64 gb)).setCell ⟨w6.heap.size + 1, 1, none⟩ (.int .i64 gp)).setCell ⟨w6.heap.size + 1, 2, none⟩ (.slice A8 n8 c8) = W7 at *
        refine (rsame_any _ _ _ _ _ _ _ _ _ _ _ _ _ _ W7 (own6.sl (d := 0)) SW7 (by omega) (by omega)).mono ?_
        rintro e W8 ⟨rfl, hb8⟩
        rw [E67.out]
        replace P6 := P6.step hb8; replace own6 := own6.step hb8
        replace HB5 := hid (below_then HB5.out hb8)
        clear hb8 P7 HZ6 HZ5 E67 SW7
        obtain ⟨k0, k1, k2, kf⟩ := P6.cells3
        go_wp2_with fail
        clear k0 k1 k2 kf
        go_loopw [100] (fun i wr => ∃ k : Nat, k ≤ n6 ∧ i = .int .i64 k ∧ Blk wr w6.heap.size 24 #[.int .i64 gb, .int .i64 gp, .slice A6 n6 c6] ∧ (∃ ws, Ow i64 wr W5.heap.size 3 A6 n6 c6 ws) ∧ Below W5.heap.size W5 wr) (fun i _ => n6 - (intOf i).toNat)
        case atStart => exact ⟨0, Nat.zero_le _, rfl, P6, ⟨_, own6⟩, HB5.out⟩
        case round =>
          obtain ⟨k, hk, rfl, P6', ⟨ws, o6⟩, hBr⟩ := hrel
          by_cases hlt : k < n6
          · obtain ⟨g, rfl, hg1, hg2, hc, hfz⟩ := o6.at_ 0 hlt
            obtain ⟨x, hX⟩ : ∃ x, x = ws[k]?.getD 0 := ⟨_, rfl⟩
            rw [← hX] at hc
            have hne := P6'.ne_row o6 (by decide)
            clear hX
            have HH := hid hBr; have HO := hid o6; have HP := hid P6'
            obtain ⟨k0, k1, k2, kf⟩ := P6'.cells3
            clear hBr o6
            go_wp2
            go_roundw
            case rel => exact ⟨k + 1, by omega, by go_num, HP.out.far hne _, ⟨_, HO.out.stored k _⟩, HH.out.setCell hg1 _⟩
            case measure => simp [intOf]; omega
          · clear P6' o6
            have P4' := HP4.out.step hBr
            have o4 := HO4.out.step hBr
            have HB3' := hid (below_then HB35.out hBr)
            clear hBr
            obtain ⟨k0, k1, k2, kf⟩ := P4'.cells3
            go_wp2_with fail
            clear k0 k1 k2 kf
            go_loopw [114] (fun i wr => ∃ k : Nat, k ≤ n4 ∧ i = .int .i64 k ∧ Blk wr w4.heap.size 24 #[.int .i64 base, .int .i64 pages, .slice A4 n4 c4] ∧ (∃ ws, Ow i64 wr W3.heap.size 3 A4 n4 c4 ws) ∧ Below W3.heap.size W3 wr) (fun i _ => n4 - (intOf i).toNat)
            case atStart => exact ⟨0, Nat.zero_le _, rfl, P4', ⟨_, o4⟩, HB3'.out⟩
            case round =>
              clear P4' o4
              obtain ⟨k', hk', rfl, P4', ⟨ws, o4⟩, hBr⟩ := hrel
              by_cases hlt' : k' < n4
              · obtain ⟨g, rfl, hg1, hg2, hc, hfz⟩ := o4.at_ 0 hlt'
                obtain ⟨x, hX⟩ : ∃ x, x = ws[k']?.getD 0 := ⟨_, rfl⟩
                rw [← hX] at hc
                have hne := P4'.ne_row o4 (by decide)
                clear hX
                have HH := hid hBr; have HO := hid o4; have HP := hid P4'
                obtain ⟨k0, k1, k2, kf⟩ := P4'.cells3
                clear hBr o4
                go_wp2
                go_roundw
                case rel => exact ⟨k' + 1, by omega, by go_num, HP.out.far hne _, ⟨_, HO.out.stored k' _⟩, HH.out.setCell hg1 _⟩
                case measure => simp [intOf]; omega
              · have P2 := HP2.out.step hBr
                have S2 := HS2.out.step hBr
                have P0 := HP0.out.step hBr
                have S0 := HS0.out.step hBr
                have hB := below_then HBW3.out hBr
                clear hBr o4 P4'
                go_wp2_with fail
                have HS : Hid (∀ w', Below wr.heap.size wr w' → (Below wr.heap.size wr w' ∧ w'.cell? ⟨w2.heap.size, 0, none⟩ = some (.int .i64 base) ∧ w'.cell? ⟨w2.heap.size, 1, none⟩ = some (.int .i64 pages) ∧ w'.cell? ⟨w2.heap.size, 2, none⟩ = some (.slice (some ⟨b, off, none⟩) m2 c2) ∧ w'.cell? ⟨w.heap.size, 0, none⟩ = some (.int .i64 base) ∧ w'.cell? ⟨w.heap.size, 1, none⟩ = some (.int .i64 pages) ∧ w'.cell? ⟨w.heap.size, 2, none⟩ = some (.slice A n c))) := hid (fun w' hh => ⟨hh, (P2.step hh).cells3.1, (P2.step hh).cells3.2.1, (P2.step hh).cells3.2.2.1, (P0.step hh).cells3.1, (P0.step hh).cells3.2.1, (P0.step hh).cells3.2.2.1⟩)
                have HB0 := hid hB
                have HE : Hid (sameB base pages ys2 base pages (xs.take 70) = true) := hid (by rw [HY2.out]; simp [sameB])
                have HS2' := hid S2; have HS0' := hid S0
                clear P2 P0 hB S2 S0
                obtain ⟨_, k0, k1, k2, r0, r1, r2⟩ := HS.out wr (Below.refl _ _)
                go_region_held3 (fun w' => Below wr.heap.size wr w' ∧ w'.cell? ⟨w2.heap.size, 0, none⟩ = some (.int .i64 base) ∧ w'.cell? ⟨w2.heap.size, 1, none⟩ = some (.int .i64 pages) ∧ w'.cell? ⟨w2.heap.size, 2, none⟩ = some (.slice (some ⟨b, off, none⟩) m2 c2) ∧ w'.cell? ⟨w.heap.size, 0, none⟩ = some (.int .i64 base) ∧ w'.cell? ⟨w.heap.size, 1, none⟩ = some (.int .i64 pages) ∧ w'.cell? ⟨w.heap.size, 2, none⟩ = some (.slice A n c))
                  (first | (exact HS.out _ (Below.refl _ _).drew) | (go_keep; done) | (go_split_ands; exact HS.out _ (below_then (by assumption) hb)))
                  (first
                    | (go_at_call 8; go_split_ands; refine (own_any base pages A n c lo xs _ (HS0'.out.step (by first | assumption | exact (Below.refl _ _).drew)) hnc).mono ?_; rintro e w' ⟨A', c', rfl, hown, hb⟩)
                    | (go_at_call 11; go_split_ands; (with_reducible refine (rsame_any base pages base pages (some ⟨b, off, none⟩) A' m2 c2 (min n 70) c' W1.heap.size _ ys2 (xs.take 70) w' (HS2'.out.step (by first | assumption | exact below_then (by assumption) hb)) (hown.sl (d := 0)) (by omega) (by omega)).mono ?_); rw [HE.out]; rintro e w'' ⟨rfl, hb⟩))
                go_wp2
                go_ret
                go_split_ands
                exact ⟨rfl, below_then HB0.out (by assumption)⟩
      · obtain rfl : j = 20 := by have := HJ.out; omega
        have h20' : 20 ≤ np := by omega
        have hncp : 20 ≤ cp := by omega
        obtain ⟨k0, k1, k2, kf⟩ := P2.cells3
        go_wp2_with fail
        clear k0 k1 k2 kf
        refine (give_any base pages (some ⟨b, off, none⟩) Ap m2 c2 _ _ cp _ ys2 qs W5 S2 SP (by omega) (by omega)).mono ?_
        rintro e w6 ⟨gb', gp', A6, n6, c6, gs', rfl, hgr, own6, hb6⟩
        rw [HG.out] at hgr
        simp only [Prod.mk.injEq] at hgr
        obtain ⟨rfl, rfl, rfl⟩ := hgr
        rw [HGC.out]
        have hn6 : n6 ≤ 200 := by have := own6.len; have := HGL.out; omega
        replace P2 := P2.step hb6; replace S2 := S2.step hb6; replace P0 := P0.step hb6; replace S0 := S0.step hb6; replace SP := SP.step hb6; replace P4 := P4.step hb6; replace own4 := own4.step hb6
        replace hB := below_then hB hb6
        replace HB3 := hid (below_then HB3.out hb6)
        have hx := below_then (below_box w6 (.cells #[.int .i64 gb, .int .i64 gp, .slice A6 n6 c6] 24)) (below_box _ (.cells #[.int .i64 0, .int .i64 0, .slice none 0 0] 24))
        have HB5 := hid (below_then hb6 hx)
        have HZ5 := hid hb6.size
        have HO6 := hid own6; have HB6 := hid hx
        clear hb6
        have P6 := (Blk.new w6 24 #[.int .i64 gb, .int .i64 gp, .slice A6 n6 c6]).step (below_box _ (.cells #[.int .i64 0, .int .i64 0, .slice none 0 0] 24))
        have P7 := Blk.new2 w6 24 #[.int .i64 0, .int .i64 0, .slice none 0 0] (.cells #[.int .i64 gb, .int .i64 gp, .slice A6 n6 c6] 24)
        replace own6 := (own6.step (below_box w6 (.cells #[.int .i64 gb, .int .i64 gp, .slice A6 n6 c6] 24))).step (below_box _ (.cells #[.int .i64 0, .int .i64 0, .slice none 0 0] 24))
        have HZ6 := hid (show w6.heap.size + 2 ≤ ((w6.alloc (.cells #[.int .i64 gb, .int .i64 gp, .slice A6 n6 c6] 24)).alloc (.cells #[.int .i64 0, .int .i64 0, .slice none 0 0] 24)).heap.size by simp)
        replace P2 := P2.step hx; replace S2 := S2.step hx; replace P0 := P0.step hx; replace S0 := S0.step hx; replace SP := SP.step hx; replace P4 := P4.step hx; replace own4 := own4.step hx
        replace hB := below_then hB hx
        replace HB3 := hid (below_then HB3.out hx)
        clear hx
        obtain ⟨q0, q1, q2, qf⟩ := P2.cells3
        obtain ⟨k0, k1, k2, kf⟩ := P6.cells3
        obtain ⟨r0, r1, r2, rf⟩ := P7.cells3
        go_wp2_with fail
        clear q0 q1 q2 qf k0 k1 k2 kf r0 r1 r2 rf
        generalize (w6.alloc (.cells #[.int .i64 gb, .int .i64 gp, .slice A6 n6 c6] 24)).alloc (.cells #[.int .i64 0, .int .i64 0, .slice none 0 0] 24) = V7 at *
        refine (rgive_any base pages (some ⟨b, off, none⟩) Ap m2 c2 _ _ cp _ ys2 qs V7 S2 SP (by omega) (by omega)).mono ?_
        rintro e w8 ⟨b8, p8, A8, n8, c8, g8, rfl, hgr, own8, hb8⟩
        have hgr2 : giveR base pages ys2 qs = (gb, gp, gs) := by have := HG.out; rwa [givePR, if_pos hf] at this
        rw [hgr2] at hgr
        simp only [Prod.mk.injEq] at hgr
        obtain ⟨rfl, rfl, rfl⟩ := hgr
        clear hgr2
        have hgc2 : giveE pages ys2 qs = gcode := by have := HGC.out; rwa [giveP, if_pos hf] at this
        rw [hgc2]
        clear hgc2
        replace P6 := P6.step hb8; replace P7 := P7.step hb8; replace own6 := own6.step hb8
        replace HB5 := hid (below_then HB5.out hb8)
        replace HB6 := hid (below_then HB6.out hb8)
        clear hb8 P2 S2 P0 S0 SP P4 own4 hB HB3
        obtain ⟨k0, k1, k2, kf⟩ := P6.cells3
        obtain ⟨r0, r1, r2, rf⟩ := P7.cells3
        go_wp2_with fail
        clear k0 k1 k2 kf r0 r1 r2 rf
        have hz5 := HZ5.out
        have hz6 := HZ6.out
        have bel := ((HB6.out.setCell (p := ⟨w6.heap.size + 1, 0, none⟩) (by simp) (.int .i64 gb)).setCell (p := ⟨w6.heap.size + 1, 1, none⟩) (by simp) (.int .i64 gp)).setCell (p := ⟨w6.heap.size + 1, 2, none⟩) (by simp) (.slice A8 n8 c8)
        replace own6 := HO6.out.step bel
        replace P6 := ((P6.far (p := ⟨w6.heap.size + 1, 0, none⟩) (by simp) (.int .i64 gb)).far (p := ⟨w6.heap.size + 1, 1, none⟩) (by simp) (.int .i64 gp)).far (p := ⟨w6.heap.size + 1, 2, none⟩) (by simp) (.slice A8 n8 c8)
        replace own8 := ((own8.setFar (p := ⟨w6.heap.size + 1, 0, none⟩) (.inl (by simp; omega)) (.int .i64 gb)).setFar (p := ⟨w6.heap.size + 1, 1, none⟩) (.inl (by simp; omega)) (.int .i64 gp)).setFar (p := ⟨w6.heap.size + 1, 2, none⟩) (.inl (by simp; omega)) (.slice A8 n8 c8)
        replace HB5 := hid (((HB5.out.setCell (p := ⟨w6.heap.size + 1, 0, none⟩) (by simp; omega) (.int .i64 gb)).setCell (p := ⟨w6.heap.size + 1, 1, none⟩) (by simp; omega) (.int .i64 gp)).setCell (p := ⟨w6.heap.size + 1, 2, none⟩) (by simp; omega) (.slice A8 n8 c8))
        clear bel hz5 hz6 HB6 HO6
        have SW7 := own8.sl (d := 0)
        have hn8 : n8 ≤ 200 := by have := own8.len; have := HGL.out; omega
        clear own8
        have E67 := hid (show sameB gb gp gs gb gp gs = true by simp [sameB])
        generalize ((w8.setCell ⟨w6.heap.size + 1, 0, none⟩ (.int .i64 gb)).setCell ⟨w6.heap.size + 1, 1, none⟩ (.int .i64 gp)).setCell ⟨w6.heap.size + 1, 2, none⟩ (.slice A8 n8 c8) = W7 at *
        refine (rsame_any _ _ _ _ _ _ _ _ _ _ _ _ _ _ W7 (own6.sl (d := 0)) SW7 (by omega) (by omega)).mono ?_
        rintro e W8 ⟨rfl, hb8⟩
        rw [E67.out]
        replace P6 := P6.step hb8; replace own6 := own6.step hb8
        replace HB5 := hid (below_then HB5.out hb8)
        clear hb8 P7 HZ6 HZ5 E67 SW7
        obtain ⟨k0, k1, k2, kf⟩ := P6.cells3
        go_wp2_with fail
        clear k0 k1 k2 kf
        go_loopw [100] (fun i wr => ∃ k : Nat, k ≤ n6 ∧ i = .int .i64 k ∧ Blk wr w6.heap.size 24 #[.int .i64 gb, .int .i64 gp, .slice A6 n6 c6] ∧ (∃ ws, Ow i64 wr W5.heap.size 3 A6 n6 c6 ws) ∧ Below W5.heap.size W5 wr) (fun i _ => n6 - (intOf i).toNat)
        case atStart => exact ⟨0, Nat.zero_le _, rfl, P6, ⟨_, own6⟩, HB5.out⟩
        case round =>
          obtain ⟨k, hk, rfl, P6', ⟨ws, o6⟩, hBr⟩ := hrel
          by_cases hlt : k < n6
          · obtain ⟨g, rfl, hg1, hg2, hc, hfz⟩ := o6.at_ 0 hlt
            obtain ⟨x, hX⟩ : ∃ x, x = ws[k]?.getD 0 := ⟨_, rfl⟩
            rw [← hX] at hc
            have hne := P6'.ne_row o6 (by decide)
            clear hX
            have HH := hid hBr; have HO := hid o6; have HP := hid P6'
            obtain ⟨k0, k1, k2, kf⟩ := P6'.cells3
            clear hBr o6
            go_wp2
            go_roundw
            case rel => exact ⟨k + 1, by omega, by go_num, HP.out.far hne _, ⟨_, HO.out.stored k _⟩, HH.out.setCell hg1 _⟩
            case measure => simp [intOf]; omega
          · clear P6' o6
            have P4' := HP4.out.step hBr
            have o4 := HO4.out.step hBr
            have HB3' := hid (below_then HB35.out hBr)
            clear hBr
            obtain ⟨k0, k1, k2, kf⟩ := P4'.cells3
            go_wp2_with fail
            clear k0 k1 k2 kf
            go_loopw [114] (fun i wr => ∃ k : Nat, k ≤ n4 ∧ i = .int .i64 k ∧ Blk wr w4.heap.size 24 #[.int .i64 base, .int .i64 pages, .slice A4 n4 c4] ∧ (∃ ws, Ow i64 wr W3.heap.size 3 A4 n4 c4 ws) ∧ Below W3.heap.size W3 wr) (fun i _ => n4 - (intOf i).toNat)
            case atStart => exact ⟨0, Nat.zero_le _, rfl, P4', ⟨_, o4⟩, HB3'.out⟩
            case round =>
              clear P4' o4
              obtain ⟨k', hk', rfl, P4', ⟨ws, o4⟩, hBr⟩ := hrel
              by_cases hlt' : k' < n4
              · obtain ⟨g, rfl, hg1, hg2, hc, hfz⟩ := o4.at_ 0 hlt'
                obtain ⟨x, hX⟩ : ∃ x, x = ws[k']?.getD 0 := ⟨_, rfl⟩
                rw [← hX] at hc
                have hne := P4'.ne_row o4 (by decide)
                clear hX
                have HH := hid hBr; have HO := hid o4; have HP := hid P4'
                obtain ⟨k0, k1, k2, kf⟩ := P4'.cells3
                clear hBr o4
                go_wp2
                go_roundw
                case rel => exact ⟨k' + 1, by omega, by go_num, HP.out.far hne _, ⟨_, HO.out.stored k' _⟩, HH.out.setCell hg1 _⟩
                case measure => simp [intOf]; omega
              · have P2 := HP2.out.step hBr
                have S2 := HS2.out.step hBr
                have P0 := HP0.out.step hBr
                have S0 := HS0.out.step hBr
                have hB := below_then HBW3.out hBr
                clear hBr o4 P4'
                go_wp2_with fail
                have HS : Hid (∀ w', Below wr.heap.size wr w' → (Below wr.heap.size wr w' ∧ w'.cell? ⟨w2.heap.size, 0, none⟩ = some (.int .i64 base) ∧ w'.cell? ⟨w2.heap.size, 1, none⟩ = some (.int .i64 pages) ∧ w'.cell? ⟨w2.heap.size, 2, none⟩ = some (.slice (some ⟨b, off, none⟩) m2 c2) ∧ w'.cell? ⟨w.heap.size, 0, none⟩ = some (.int .i64 base) ∧ w'.cell? ⟨w.heap.size, 1, none⟩ = some (.int .i64 pages) ∧ w'.cell? ⟨w.heap.size, 2, none⟩ = some (.slice A n c))) := hid (fun w' hh => ⟨hh, (P2.step hh).cells3.1, (P2.step hh).cells3.2.1, (P2.step hh).cells3.2.2.1, (P0.step hh).cells3.1, (P0.step hh).cells3.2.1, (P0.step hh).cells3.2.2.1⟩)
                have HB0 := hid hB
                have HE : Hid (sameB base pages ys2 base pages (xs.take 70) = true) := hid (by rw [HY2.out]; simp [sameB])
                have HS2' := hid S2; have HS0' := hid S0
                clear P2 P0 hB S2 S0
                obtain ⟨_, k0, k1, k2, r0, r1, r2⟩ := HS.out wr (Below.refl _ _)
                go_region_held3 (fun w' => Below wr.heap.size wr w' ∧ w'.cell? ⟨w2.heap.size, 0, none⟩ = some (.int .i64 base) ∧ w'.cell? ⟨w2.heap.size, 1, none⟩ = some (.int .i64 pages) ∧ w'.cell? ⟨w2.heap.size, 2, none⟩ = some (.slice (some ⟨b, off, none⟩) m2 c2) ∧ w'.cell? ⟨w.heap.size, 0, none⟩ = some (.int .i64 base) ∧ w'.cell? ⟨w.heap.size, 1, none⟩ = some (.int .i64 pages) ∧ w'.cell? ⟨w.heap.size, 2, none⟩ = some (.slice A n c))
                  (first | (exact HS.out _ (Below.refl _ _).drew) | (go_keep; done) | (go_split_ands; exact HS.out _ (below_then (by assumption) hb)))
                  (first
                    | (go_at_call 8; go_split_ands; refine (own_any base pages A n c lo xs _ (HS0'.out.step (by first | assumption | exact (Below.refl _ _).drew)) hnc).mono ?_; rintro e w' ⟨A', c', rfl, hown, hb⟩)
                    | (go_at_call 11; go_split_ands; (with_reducible refine (rsame_any base pages base pages (some ⟨b, off, none⟩) A' m2 c2 (min n 70) c' W1.heap.size _ ys2 (xs.take 70) w' (HS2'.out.step (by first | assumption | exact below_then (by assumption) hb)) (hown.sl (d := 0)) (by omega) (by omega)).mono ?_); rw [HE.out]; rintro e w'' ⟨rfl, hb⟩))
                go_wp2
                go_ret
                go_split_ands
                exact ⟨rfl, below_then HB0.out (by assumption)⟩
  · obtain rfl : rt = false := HRT.out.trans (by simpa using hf)
    have hcode : takeE base pages ys2 = 170 := by rw [takeE, if_neg hf]
    obtain rfl : 170 = code := hcode.symm.trans HC.out
    have hR := HR.out
    rw [takeR, if_neg (by rw [hcode]; omega)] at hR
    simp only [Prod.mk.injEq] at hR
    obtain ⟨rfl, rfl, rfl, rfl⟩ := hR
    have E45 := hid (show sameB 0 0 [] 0 0 [] = true by decide)
    clear hcode
    obtain ⟨q0, q1, q2, qf⟩ := P4.cells3
    obtain ⟨r0, r1, r2, rf⟩ := P5.cells3
    obtain rfl : n4 = 0 := own4.len.symm
    go_wp2_with fail
    clear q0 q1 q2 qf r0 r1 r2 rf
    generalize (w4.alloc (.cells #[.int .i64 0, .int .i64 0, .slice A4 0 c4] 24)).alloc (.cells #[.int .i64 0, .int .i64 0, .slice none 0 0] 24) = W4 at *
    have SW4 : Sl i64 0 W4 0 W4.heap.size none 0 [] := Sl.nil _ _ _ _
    refine (rsame_any _ _ _ _ _ _ _ _ _ _ _ _ _ _ W4 (own4.sl (d := 0)) SW4 (by omega) (by omega)).mono ?_
    rintro e W5 ⟨rfl, hb5⟩
    rw [E45.out]
    replace P2 := P2.step hb5; replace S2 := S2.step hb5; replace P0 := P0.step hb5; replace S0 := S0.step hb5; replace SP := SP.step hb5; replace P4 := P4.step hb5; replace own4 := own4.step hb5
    replace hB := below_then hB hb5
    replace HB3 := hid (below_then HB3.out hb5)
    have HB35 := HB3; have HP4 := hid P4; have HO4 := hid own4
    clear hb5 P5 HZ4 E45 SW4
    by_cases h20 : np ≤ 20
    · obtain rfl : j = np := by have := HJ.out; omega
      obtain ⟨k0, k1, k2, kf⟩ := P2.cells3
      go_wp2_with fail
      clear k0 k1 k2 kf
      refine (give_any base pages A2 Ap m2 c2 _ _ cp _ ys2 qs W5 S2 SP (by omega) (by omega)).mono ?_
      rintro e w6 ⟨gb', gp', A6, n6, c6, gs', rfl, hgr, own6, hb6⟩
      rw [HG.out] at hgr
      simp only [Prod.mk.injEq] at hgr
      obtain ⟨rfl, rfl, rfl⟩ := hgr
      rw [HGC.out]
      have hn6 : n6 ≤ 200 := by have := own6.len; have := HGL.out; omega
      replace P2 := P2.step hb6; replace S2 := S2.step hb6; replace P0 := P0.step hb6; replace S0 := S0.step hb6; replace SP := SP.step hb6; replace P4 := P4.step hb6; replace own4 := own4.step hb6
      replace hB := below_then hB hb6
      replace HB3 := hid (below_then HB3.out hb6)
      have hx := below_then (below_box w6 (.cells #[.int .i64 gb, .int .i64 gp, .slice A6 n6 c6] 24)) (below_box _ (.cells #[.int .i64 0, .int .i64 0, .slice none 0 0] 24))
      have HB5 := hid (below_then hb6 hx)
      have HZ5 := hid hb6.size
      have HO6 := hid own6; have HB6 := hid hx
      clear hb6
      have P6 := (Blk.new w6 24 #[.int .i64 gb, .int .i64 gp, .slice A6 n6 c6]).step (below_box _ (.cells #[.int .i64 0, .int .i64 0, .slice none 0 0] 24))
      have P7 := Blk.new2 w6 24 #[.int .i64 0, .int .i64 0, .slice none 0 0] (.cells #[.int .i64 gb, .int .i64 gp, .slice A6 n6 c6] 24)
      replace own6 := (own6.step (below_box w6 (.cells #[.int .i64 gb, .int .i64 gp, .slice A6 n6 c6] 24))).step (below_box _ (.cells #[.int .i64 0, .int .i64 0, .slice none 0 0] 24))
      have HZ6 := hid (show w6.heap.size + 2 ≤ ((w6.alloc (.cells #[.int .i64 gb, .int .i64 gp, .slice A6 n6 c6] 24)).alloc (.cells #[.int .i64 0, .int .i64 0, .slice none 0 0] 24)).heap.size by simp)
      replace P2 := P2.step hx; replace S2 := S2.step hx; replace P0 := P0.step hx; replace S0 := S0.step hx; replace SP := SP.step hx; replace P4 := P4.step hx; replace own4 := own4.step hx
      replace hB := below_then hB hx
      replace HB3 := hid (below_then HB3.out hx)
      clear hx
      have E67 := hid (show sameB 0 0 [] 0 0 [] = true by decide)
      have hgc : gcode = 170 := by rw [← HGC.out, giveP, if_neg hf]
      subst hgc
      have hgr := HG.out
      rw [givePR, if_neg hf] at hgr
      simp only [Prod.mk.injEq] at hgr
      obtain ⟨rfl, rfl, rfl⟩ := hgr
      obtain rfl : n6 = 0 := own6.len.symm
      obtain ⟨k0, k1, k2, kf⟩ := P6.cells3
      obtain ⟨r0, r1, r2, rf⟩ := P7.cells3
      go_wp2_with fail
      clear k0 k1 k2 kf r0 r1 r2 rf
      generalize (w6.alloc (.cells #[.int .i64 0, .int .i64 0, .slice A6 0 c6] 24)).alloc (.cells #[.int .i64 0, .int .i64 0, .slice none 0 0] 24) = W7 at *
      have SW7 : Sl i64 0 W7 0 W7.heap.size none 0 [] := Sl.nil _ _ _ _
      refine (rsame_any _ _ _ _ _ _ _ _ _ _ _ _ _ _ W7 (own6.sl (d := 0)) SW7 (by omega) (by omega)).mono ?_
      rintro e W8 ⟨rfl, hb8⟩
      rw [E67.out]
      replace P6 := P6.step hb8; replace own6 := own6.step hb8
      replace HB5 := hid (below_then HB5.out hb8)
      clear hb8 P7 HZ6 HZ5 E67 SW7 P2 S2 P0 S0 SP P4 own4 hB HB3
      obtain ⟨k0, k1, k2, kf⟩ := P6.cells3
      go_wp2_with fail
      clear k0 k1 k2 kf
      go_loopw [100] (fun i wr => ∃ k : Nat, k ≤ 0 ∧ i = .int .i64 k ∧ Blk wr w6.heap.size 24 #[.int .i64 0, .int .i64 0, .slice A6 0 c6] ∧ (∃ ws, Ow i64 wr W5.heap.size 3 A6 0 c6 ws) ∧ Below W5.heap.size W5 wr) (fun i _ => 0 - (intOf i).toNat)
      case atStart => exact ⟨0, Nat.zero_le _, rfl, P6, ⟨_, own6⟩, HB5.out⟩
      case round =>
        obtain ⟨k, hk, rfl, P6', ⟨ws, o6⟩, hBr⟩ := hrel
        by_cases hlt : k < 0
        · exact absurd hlt (Nat.not_lt_zero _)
        · clear P6' o6
          have P4' := HP4.out.step hBr
          have o4 := HO4.out.step hBr
          have HB3' := hid (below_then HB35.out hBr)
          clear hBr
          obtain ⟨k0, k1, k2, kf⟩ := P4'.cells3
          go_wp2_with fail
          clear k0 k1 k2 kf
          go_loopw [114] (fun i wr => ∃ k : Nat, k ≤ 0 ∧ i = .int .i64 k ∧ Blk wr w4.heap.size 24 #[.int .i64 0, .int .i64 0, .slice A4 0 c4] ∧ (∃ ws, Ow i64 wr W3.heap.size 3 A4 0 c4 ws) ∧ Below W3.heap.size W3 wr) (fun i _ => 0 - (intOf i).toNat)
          case atStart => exact ⟨0, Nat.zero_le _, rfl, P4', ⟨_, o4⟩, HB3'.out⟩
          case round =>
            clear P4' o4
            obtain ⟨k', hk', rfl, P4', ⟨ws, o4⟩, hBr⟩ := hrel
            by_cases hlt' : k' < 0
            · exact absurd hlt' (Nat.not_lt_zero _)
            · have P2 := HP2.out.step hBr
              have S2 := HS2.out.step hBr
              have P0 := HP0.out.step hBr
              have S0 := HS0.out.step hBr
              have hB := below_then HBW3.out hBr
              clear hBr o4 P4'
              go_wp2_with fail
              have HS : Hid (∀ w', Below wr.heap.size wr w' → (Below wr.heap.size wr w' ∧ w'.cell? ⟨w2.heap.size, 0, none⟩ = some (.int .i64 base) ∧ w'.cell? ⟨w2.heap.size, 1, none⟩ = some (.int .i64 pages) ∧ w'.cell? ⟨w2.heap.size, 2, none⟩ = some (.slice A2 m2 c2) ∧ w'.cell? ⟨w.heap.size, 0, none⟩ = some (.int .i64 base) ∧ w'.cell? ⟨w.heap.size, 1, none⟩ = some (.int .i64 pages) ∧ w'.cell? ⟨w.heap.size, 2, none⟩ = some (.slice A n c))) := hid (fun w' hh => ⟨hh, (P2.step hh).cells3.1, (P2.step hh).cells3.2.1, (P2.step hh).cells3.2.2.1, (P0.step hh).cells3.1, (P0.step hh).cells3.2.1, (P0.step hh).cells3.2.2.1⟩)
              have HB0 := hid hB
              have HE : Hid (sameB base pages ys2 base pages (xs.take 70) = true) := hid (by rw [HY2.out]; simp [sameB])
              have HS2' := hid S2; have HS0' := hid S0
              clear P2 P0 hB S2 S0
              obtain ⟨_, k0, k1, k2, r0, r1, r2⟩ := HS.out wr (Below.refl _ _)
              go_region_held3 (fun w' => Below wr.heap.size wr w' ∧ w'.cell? ⟨w2.heap.size, 0, none⟩ = some (.int .i64 base) ∧ w'.cell? ⟨w2.heap.size, 1, none⟩ = some (.int .i64 pages) ∧ w'.cell? ⟨w2.heap.size, 2, none⟩ = some (.slice A2 m2 c2) ∧ w'.cell? ⟨w.heap.size, 0, none⟩ = some (.int .i64 base) ∧ w'.cell? ⟨w.heap.size, 1, none⟩ = some (.int .i64 pages) ∧ w'.cell? ⟨w.heap.size, 2, none⟩ = some (.slice A n c))
                (first | (exact HS.out _ (Below.refl _ _).drew) | (go_keep; done) | (go_split_ands; exact HS.out _ (below_then (by assumption) hb)))
                (first
                  | (go_at_call 8; go_split_ands; refine (own_any base pages A n c lo xs _ (HS0'.out.step (by first | assumption | exact (Below.refl _ _).drew)) hnc).mono ?_; rintro e w' ⟨A', c', rfl, hown, hb⟩)
                  | (go_at_call 11; go_split_ands; (with_reducible refine (rsame_any base pages base pages A2 A' m2 c2 (min n 70) c' W1.heap.size _ ys2 (xs.take 70) w' (HS2'.out.step (by first | assumption | exact below_then (by assumption) hb)) (hown.sl (d := 0)) (by omega) (by omega)).mono ?_); rw [HE.out]; rintro e w'' ⟨rfl, hb⟩))
              go_wp2
              go_ret
              go_split_ands
              exact ⟨rfl, below_then HB0.out (by assumption)⟩
    · obtain rfl : j = 20 := by have := HJ.out; omega
      have h20' : 20 ≤ np := by omega
      have hncp : 20 ≤ cp := by omega
      obtain ⟨k0, k1, k2, kf⟩ := P2.cells3
      go_wp2_with fail
      clear k0 k1 k2 kf
      refine (give_any base pages A2 Ap m2 c2 _ _ cp _ ys2 qs W5 S2 SP (by omega) (by omega)).mono ?_
      rintro e w6 ⟨gb', gp', A6, n6, c6, gs', rfl, hgr, own6, hb6⟩
      rw [HG.out] at hgr
      simp only [Prod.mk.injEq] at hgr
      obtain ⟨rfl, rfl, rfl⟩ := hgr
      rw [HGC.out]
      have hn6 : n6 ≤ 200 := by have := own6.len; have := HGL.out; omega
      replace P2 := P2.step hb6; replace S2 := S2.step hb6; replace P0 := P0.step hb6; replace S0 := S0.step hb6; replace SP := SP.step hb6; replace P4 := P4.step hb6; replace own4 := own4.step hb6
      replace hB := below_then hB hb6
      replace HB3 := hid (below_then HB3.out hb6)
      have hx := below_then (below_box w6 (.cells #[.int .i64 gb, .int .i64 gp, .slice A6 n6 c6] 24)) (below_box _ (.cells #[.int .i64 0, .int .i64 0, .slice none 0 0] 24))
      have HB5 := hid (below_then hb6 hx)
      have HZ5 := hid hb6.size
      have HO6 := hid own6; have HB6 := hid hx
      clear hb6
      have P6 := (Blk.new w6 24 #[.int .i64 gb, .int .i64 gp, .slice A6 n6 c6]).step (below_box _ (.cells #[.int .i64 0, .int .i64 0, .slice none 0 0] 24))
      have P7 := Blk.new2 w6 24 #[.int .i64 0, .int .i64 0, .slice none 0 0] (.cells #[.int .i64 gb, .int .i64 gp, .slice A6 n6 c6] 24)
      replace own6 := (own6.step (below_box w6 (.cells #[.int .i64 gb, .int .i64 gp, .slice A6 n6 c6] 24))).step (below_box _ (.cells #[.int .i64 0, .int .i64 0, .slice none 0 0] 24))
      have HZ6 := hid (show w6.heap.size + 2 ≤ ((w6.alloc (.cells #[.int .i64 gb, .int .i64 gp, .slice A6 n6 c6] 24)).alloc (.cells #[.int .i64 0, .int .i64 0, .slice none 0 0] 24)).heap.size by simp)
      replace P2 := P2.step hx; replace S2 := S2.step hx; replace P0 := P0.step hx; replace S0 := S0.step hx; replace SP := SP.step hx; replace P4 := P4.step hx; replace own4 := own4.step hx
      replace hB := below_then hB hx
      replace HB3 := hid (below_then HB3.out hx)
      clear hx
      have E67 := hid (show sameB 0 0 [] 0 0 [] = true by decide)
      have hgc : gcode = 170 := by rw [← HGC.out, giveP, if_neg hf]
      subst hgc
      have hgr := HG.out
      rw [givePR, if_neg hf] at hgr
      simp only [Prod.mk.injEq] at hgr
      obtain ⟨rfl, rfl, rfl⟩ := hgr
      obtain rfl : n6 = 0 := own6.len.symm
      obtain ⟨k0, k1, k2, kf⟩ := P6.cells3
      obtain ⟨r0, r1, r2, rf⟩ := P7.cells3
      go_wp2_with fail
      clear k0 k1 k2 kf r0 r1 r2 rf
      generalize (w6.alloc (.cells #[.int .i64 0, .int .i64 0, .slice A6 0 c6] 24)).alloc (.cells #[.int .i64 0, .int .i64 0, .slice none 0 0] 24) = W7 at *
      have SW7 : Sl i64 0 W7 0 W7.heap.size none 0 [] := Sl.nil _ _ _ _
      refine (rsame_any _ _ _ _ _ _ _ _ _ _ _ _ _ _ W7 (own6.sl (d := 0)) SW7 (by omega) (by omega)).mono ?_
      rintro e W8 ⟨rfl, hb8⟩
      rw [E67.out]
      replace P6 := P6.step hb8; replace own6 := own6.step hb8
      replace HB5 := hid (below_then HB5.out hb8)
      clear hb8 P7 HZ6 HZ5 E67 SW7 P2 S2 P0 S0 SP P4 own4 hB HB3
      obtain ⟨k0, k1, k2, kf⟩ := P6.cells3
      go_wp2_with fail
      clear k0 k1 k2 kf
      go_loopw [100] (fun i wr => ∃ k : Nat, k ≤ 0 ∧ i = .int .i64 k ∧ Blk wr w6.heap.size 24 #[.int .i64 0, .int .i64 0, .slice A6 0 c6] ∧ (∃ ws, Ow i64 wr W5.heap.size 3 A6 0 c6 ws) ∧ Below W5.heap.size W5 wr) (fun i _ => 0 - (intOf i).toNat)
      case atStart => exact ⟨0, Nat.zero_le _, rfl, P6, ⟨_, own6⟩, HB5.out⟩
      case round =>
        obtain ⟨k, hk, rfl, P6', ⟨ws, o6⟩, hBr⟩ := hrel
        by_cases hlt : k < 0
        · exact absurd hlt (Nat.not_lt_zero _)
        · clear P6' o6
          have P4' := HP4.out.step hBr
          have o4 := HO4.out.step hBr
          have HB3' := hid (below_then HB35.out hBr)
          clear hBr
          obtain ⟨k0, k1, k2, kf⟩ := P4'.cells3
          go_wp2_with fail
          clear k0 k1 k2 kf
          go_loopw [114] (fun i wr => ∃ k : Nat, k ≤ 0 ∧ i = .int .i64 k ∧ Blk wr w4.heap.size 24 #[.int .i64 0, .int .i64 0, .slice A4 0 c4] ∧ (∃ ws, Ow i64 wr W3.heap.size 3 A4 0 c4 ws) ∧ Below W3.heap.size W3 wr) (fun i _ => 0 - (intOf i).toNat)
          case atStart => exact ⟨0, Nat.zero_le _, rfl, P4', ⟨_, o4⟩, HB3'.out⟩
          case round =>
            clear P4' o4
            obtain ⟨k', hk', rfl, P4', ⟨ws, o4⟩, hBr⟩ := hrel
            by_cases hlt' : k' < 0
            · exact absurd hlt' (Nat.not_lt_zero _)
            · have P2 := HP2.out.step hBr
              have S2 := HS2.out.step hBr
              have P0 := HP0.out.step hBr
              have S0 := HS0.out.step hBr
              have hB := below_then HBW3.out hBr
              clear hBr o4 P4'
              go_wp2_with fail
              have HS : Hid (∀ w', Below wr.heap.size wr w' → (Below wr.heap.size wr w' ∧ w'.cell? ⟨w2.heap.size, 0, none⟩ = some (.int .i64 base) ∧ w'.cell? ⟨w2.heap.size, 1, none⟩ = some (.int .i64 pages) ∧ w'.cell? ⟨w2.heap.size, 2, none⟩ = some (.slice A2 m2 c2) ∧ w'.cell? ⟨w.heap.size, 0, none⟩ = some (.int .i64 base) ∧ w'.cell? ⟨w.heap.size, 1, none⟩ = some (.int .i64 pages) ∧ w'.cell? ⟨w.heap.size, 2, none⟩ = some (.slice A n c))) := hid (fun w' hh => ⟨hh, (P2.step hh).cells3.1, (P2.step hh).cells3.2.1, (P2.step hh).cells3.2.2.1, (P0.step hh).cells3.1, (P0.step hh).cells3.2.1, (P0.step hh).cells3.2.2.1⟩)
              have HB0 := hid hB
              have HE : Hid (sameB base pages ys2 base pages (xs.take 70) = true) := hid (by rw [HY2.out]; simp [sameB])
              have HS2' := hid S2; have HS0' := hid S0
              clear P2 P0 hB S2 S0
              obtain ⟨_, k0, k1, k2, r0, r1, r2⟩ := HS.out wr (Below.refl _ _)
              go_region_held3 (fun w' => Below wr.heap.size wr w' ∧ w'.cell? ⟨w2.heap.size, 0, none⟩ = some (.int .i64 base) ∧ w'.cell? ⟨w2.heap.size, 1, none⟩ = some (.int .i64 pages) ∧ w'.cell? ⟨w2.heap.size, 2, none⟩ = some (.slice A2 m2 c2) ∧ w'.cell? ⟨w.heap.size, 0, none⟩ = some (.int .i64 base) ∧ w'.cell? ⟨w.heap.size, 1, none⟩ = some (.int .i64 pages) ∧ w'.cell? ⟨w.heap.size, 2, none⟩ = some (.slice A n c))
                (first | (exact HS.out _ (Below.refl _ _).drew) | (go_keep; done) | (go_split_ands; exact HS.out _ (below_then (by assumption) hb)))
                (first
                  | (go_at_call 8; go_split_ands; refine (own_any base pages A n c lo xs _ (HS0'.out.step (by first | assumption | exact (Below.refl _ _).drew)) hnc).mono ?_; rintro e w' ⟨A', c', rfl, hown, hb⟩)
                  | (go_at_call 11; go_split_ands; (with_reducible refine (rsame_any base pages base pages A2 A' m2 c2 (min n 70) c' W1.heap.size _ ys2 (xs.take 70) w' (HS2'.out.step (by first | assumption | exact below_then (by assumption) hb)) (hown.sl (d := 0)) (by omega) (by omega)).mono ?_); rw [HE.out]; rintro e w'' ⟨rfl, hb⟩))
              go_wp2
              go_ret
              go_split_ands
              exact ⟨rfl, below_then HB0.out (by assumption)⟩
end Go.Proofs.Ytlidbiaadoigeaa
