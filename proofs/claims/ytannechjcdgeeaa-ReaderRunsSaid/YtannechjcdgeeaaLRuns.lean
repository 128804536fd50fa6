/- afterglowlaw11.ReaderRuns returns true at every readers and row of readings, and turns nothing old. No condition but the sizes of memory. -/
import Derived.Test.YtannechjcdgeeaaLStays
import Derived.Test.YtannechjcdgeeaaRd15b
import Derived.Deep.RegionWith
namespace Go.Proofs.Ytannechjcdgeeaa
open Go.RowKit Go.Shelf Go.Maps

theorem rstep_any (now : Int) (A : Option Addr) (n c : Nat) (B : Option Addr) (m d : Nat) (ns os : List Int) (cpu : Int) (ent : Bool) (w : World) (h : Rds w A n c B m d ns os) (hg : Good now ns os) :
    Calls Try.prog 15 #[rv now A n c B m d, rdv cpu ent] w (OnePost w (oneF now ns os (cpu, ent))) := by
  by_cases hc : stC (now, ns, os) (cpu, ent) = 0
  · obtain ⟨c1, c2, c3, c4, c5⟩ := stC_zero hc
    dsimp only at c1 c2 c3 c4 c5
    obtain ⟨k, rfl⟩ := Int.eq_ofNat_of_zero_le c1
    rw [Int.toNat_natCast] at c2 c4 c5
    have hl : os.length = ns.length := hg.1.2.2.1
    have h1 := h.lenx; have h2 := h.leny
    obtain rfl : n = m := by omega
    rw [oneF_ok hg hc]
    have h0 := hg.1.2.2.2.1
    have h1 : now < 2147483647 := by have := hg.1.2.2.2.2; omega
    cases ent
    · exact rstep_ok_f now A n c B d ns os k w h (by omega) h0 h1 (good_bound hg k c2) (c5 rfl)
    · exact rstep_ok_t now A n c B d ns os k w h (by omega) h0 h1 (good_bound hg k c2) (c4 rfl)
  · have := rstep_bad now A n c B m d ns os cpu ent w h hc
    rw [oneF_err hg hc]
    rwa [show rstepF (now, ns, os) (cpu, ent) = (stC (now, ns, os) (cpu, ent), (0, [], [])) from if_neg hc] at this
theorem runA_len : ∀ (l : List (Int × Bool)) (s : St) (i : Int), s.2.1.length = s.2.2.length → (runA s l i).2.2.2.1.length = (runA s l i).2.2.2.2.length
  | [], s, i, h => h
  | x :: l, s, i, h => by
    unfold runA
    split
    · exact runA_len l _ _ (by simp [stN, stepNs_len, stepOs_len, h])
    · rfl
theorem runF_len {now : Int} {ns os : List Int} {l : List (Int × Bool)} : (runF now ns os l).2.2.2.1.length = (runF now ns os l).2.2.2.2.length := by
  unfold runF
  split
  · rename_i h; exact runA_len _ _ _ h.1.2.2.1.symm
  · rfl
/-- what the block of the reference leaves -/
def WantRel (W1 : World) (b10 : Nat) (r : Int × Int × St) (s11 s12 : Value) (wx : World) : Prop :=
  s11 = .int .i64 r.2.1 ∧ s12 = .int .i64 r.1 ∧ ∃ A n c B m d, Blk wx b10 24 (rcs r.2.2.1 A n c B m d) ∧ Rds wx A n c B m d r.2.2.2.1 r.2.2.2.2 ∧ Below W1.heap.size W1 wx
theorem Ow.at2 {W : World} {lo : Nat} {e : TypeId} {A : Option Addr} {n c : Nat} {xs : List Int} (h : Ow i64 W lo e A n c xs) {k : Nat} (hk : k < n) : ∃ g, A = some ⟨g, 0, none⟩ ∧ lo ≤ g ∧ g < W.heap.size ∧ W.cell? ⟨g, k, none⟩ = some (.int .i64 (xs[k]?.getD 0)) ∧ W.frozen? ⟨g, k, none⟩ = false := h.at_ 0 hk

set_option maxRecDepth 100000 in
set_option maxHeartbeats 4000000 in
theorem runs_any (now : Int) (A : Option Addr) (n c : Nat) (B : Option Addr) (m d : Nat) (xs ys : List Int) (L : Option Addr) (nl cl : Nat) (ls : List (Int × Bool)) (w : World) (hx : Sl i64 0 w 0 w.heap.size A n xs) (hy : Sl i64 0 w 0 w.heap.size B m ys) (hnc : n ≤ c) (hmd : m ≤ d)
    (hL : Sm 2 encR (0, false) w 0 w.heap.size L nl ls) (hcl : nl ≤ cl) (hcm : cl ≤ maxLen) :
    Calls Try.prog 4 #[rv now A n c B m d, .slice L nl cl] w fun e w' => e = .returned (.bool true) ∧ Below w.heap.size w w' := by
  have hB := below_box w (.cells (rcs now A n c B m d) 24)
  have P0 := Blk.new w 24 (rcs now A n c B m d)
  replace hx := hx.step hB; replace hy := hy.step hB
  have HL := hid hL
  have hnl : cl ≤ 9223372036854775807 := by unfold maxLen at hcm; omega
  clear hL hcm
  go_enter Try.func4, Try.ntmps4
  go_wp2_with fail
  generalize hW0 : w.alloc (.cells #[.int .i64 now, .slice A n c, .slice B m d] 24) = W0 at *
  clear hW0
  refine (wakes_any W0).mono ?_
  rintro e w1 ⟨rfl, hb⟩
  replace hx := hx.step hb
  replace hy := hy.step hb
  replace P0 := P0.step hb
  replace hB := below_then hB hb
  obtain ⟨q00, q01, q02, q0f⟩ := P0.cells3
  go_wp2_with fail
  clear q00 q01 q02 q0f
  refine (own_r now A n c B m d xs ys w1 hx hy hnc hmd).mono ?_
  rintro e w2 ⟨A2, n2, c2, B2, m2, d2, rfl, R2, hb2⟩
  replace hx := hx.step hb2
  replace hy := hy.step hb2
  replace P0 := P0.step hb2
  replace hB := below_then hB hb2
  obtain ⟨ns, hns⟩ : ∃ ns, ns = xs.take 9 := ⟨_, rfl⟩
  obtain ⟨os, hos⟩ : ∃ os, os = ys.take 9 := ⟨_, rfl⟩
  rw [← hns, ← hos] at R2
  have HNS := hid hns; have HOS := hid hos
  have bx := below_box w2 (.cells (rcs now A2 n2 c2 B2 m2 d2) 24)
  have P2 := Blk.new w2 24 (rcs now A2 n2 c2 B2 m2 d2)
  replace R2 := R2.step bx
  replace hx := hx.step bx; replace hy := hy.step bx; replace P0 := P0.step bx
  replace hB := below_then hB bx
  clear bx hb hb2 hns hos
  go_upto_region 4 with fail
  generalize w2.alloc (.cells #[.int .i64 now, .slice A2 n2 c2, .slice B2 m2 d2] 24) = W2 at *
  have HX := hid hx; have HY := hid hy; have HP0 := hid P0; have HP2 := hid P2; have HR2 := hid R2; have HB := hid hB
  clear hx hy P0 P2 R2 hB
  go_cut [1] (fun s1 wx => s1 = .slice L (min nl 40) cl ∧ wx = W2)
  case first =>
    by_cases h40 : nl ≤ 40
    · have h1 : ¬ (40 : Int) < (nl : Int) := by omega
      have h2 : (nl : Int) ≤ (cl : Int) := by omega
      have E := hid (show min nl 40 = nl by omega)
      clear h40
      go_wp2
      go_meet
      exact ⟨by rw [E.out], rfl⟩
    · have h1 : (40 : Int) < (nl : Int) := by omega
      have h2 : (40 : Int) ≤ (cl : Int) := by omega
      have E := hid (show min nl 40 = 40 by omega)
      clear h40
      go_wp2
      go_meet
      exact ⟨by rw [E.out], rfl⟩
  case rest =>
    obtain ⟨rfl, hq⟩ := hcut
    obtain rfl : W2 = wc := hq.symm
    obtain ⟨K, hK⟩ : ∃ K, K = min nl 40 := ⟨_, rfl⟩
    have HLK := hid (show Sm 2 encR (0, false) w 0 w.heap.size L K (ls.take K) from HL.out.take (by omega))
    rw [← hK]
    have hK40 : K ≤ 40 := by omega
    obtain ⟨l2, hl2⟩ : ∃ l2, l2 = ls.take K := ⟨_, rfl⟩
    rw [← hl2] at HLK
    clear hK hl2 HL
    obtain ⟨p0, p1, p2, pf⟩ := HP2.out.cells3
    go_wp2_with fail
    clear p0 p1 p2 pf
    refine (right_any now A2 n2 c2 B2 m2 d2 ns os W2 HR2.out).mono ?_
    rintro e w3 ⟨rfl, hb⟩
    obtain ⟨gb, hgb⟩ : ∃ gb, gb = decide (Good now ns os) := ⟨_, rfl⟩
    rw [← hgb]
    have HGB := hid hgb
    clear hgb
    replace HX := hid (HX.out.step hb); replace HY := hid (HY.out.step hb); replace HP0 := hid (HP0.out.step hb); replace HP2 := hid (HP2.out.step hb); replace HR2 := hid (HR2.out.step hb)
    replace HB := hid (below_then HB.out hb)
    replace HLK := hid ((HLK.out.below HB.out (Nat.le_refl _)).mono (Nat.le_refl _) HB.out.size)
    clear hb
    obtain ⟨p0, p1, p2, pf⟩ := HP2.out.cells3
    go_wp2_with fail
    clear p0 p1 p2 pf
    refine (run_any now A2 n2 c2 B2 m2 d2 ns os L K cl l2 w3 HR2.out HLK.out (by omega)).mono ?_
    rintro e w4 ⟨A4, n4, c4, B4, m4, d4, rfl, h4, hb4⟩
    have HLEN := hid (runF_len (now := now) (ns := ns) (os := os) (l := l2))
    obtain ⟨r, hr⟩ : ∃ r, r = runF now ns os l2 := ⟨_, rfl⟩
    rw [← hr] at h4 HLEN
    rw [← hr]
    have HR := hid hr
    clear hr
    have b5 := below_box w4 (.cells (rcs r.2.2.1 A4 n4 c4 B4 m4 d4) 24)
    have HB5 := hid (below_then hb4 b5)
    have HO4 := hid (h4.step b5)
    have HP7 := hid (Blk.new w4 24 (rcs r.2.2.1 A4 n4 c4 B4 m4 d4))
    have hz5 := hid (show (w4.alloc (.cells (rcs r.2.2.1 A4 n4 c4 B4 m4 d4) 24)).heap.size = w4.heap.size + 1 by simp)
    have hz4 := hid hb4.size
    have HH4 := hid h4
    clear h4 hb4 b5
    obtain ⟨code, cnt, st, nsr, osr⟩ := r
    dsimp only at HLEN HB5 HO4 HP7 hz5 HH4 ⊢
    go_upto_if 39 with fail
    have HA6 := hid (below_box (w4.alloc (.cells (rcs st A4 n4 c4 B4 m4 d4) 24)) (.cells (rcs 0 none 0 0 none 0 0) 24))
    have HP10 := hid (show Blk _ (w4.heap.size + 1) _ _ from Blk.new2 w4 24 (rcs 0 none 0 0 none 0 0) (.cells (rcs st A4 n4 c4 B4 m4 d4) 24))
    have hz6 := hid (show ((w4.alloc (.cells (rcs st A4 n4 c4 B4 m4 d4) 24)).alloc (.cells (rcs 0 none 0 0 none 0 0) 24)).heap.size = w4.heap.size + 1 + 1 by simp)
    generalize hw6 : ((w4.alloc (.cells #[.int .i64 st, .slice A4 n4 c4, .slice B4 m4 d4] 24)).alloc (.cells #[.int .i64 0, .slice none 0 0, .slice none 0 0] 24)) = w6 at *
    generalize hw5 : (w4.alloc (.cells #[.int .i64 st, .slice A4 n4 c4, .slice B4 m4 d4] 24)) = w5 at *
    clear hw6 hw5
    go_cut [11, 12] (fun s11 s12 wx => WantRel w5 (w4.heap.size + 1) (code, cnt, (st, nsr, osr)) s11 s12 wx)
    case first =>
      rcases gb with _ | _
      rotate_left
      · have hg : Good now ns os := of_decide_eq_true HGB.out.symm
        have HG := hid hg
        have HRUN := hid (show (code, cnt, (st, nsr, osr)) = runA (now, ns, os) l2 0 from HR.out.trans (if_pos hg))
        have hb56 := below_then HB5.out HA6.out
        obtain ⟨p0, p1, p2, pf⟩ := (HP0.out.step hb56).cells3
        have hx6 := HX.out.step hb56; have hy6 := HY.out.step hb56
        have h65 : w5.heap.size < w6.heap.size := by have := hz5.out; have := hz6.out; omega
        have HAB := hid (below_then HB.out hb56)
        clear hg hb56
        go_wp2_with fail
        clear p0 p1 p2 pf
        refine (own_any now A n c B m d 0 xs ys w6 hx6 hy6 hnc hmd).mono ?_
        rintro e w7 ⟨A7, c7, B7, d7, rfl, oa7, ob7, hb7⟩
        rw [← HNS.out] at oa7
        rw [← HOS.out] at ob7
        have P10 := HP10.out.step hb7
        have HBr := hid (below_then HA6.out hb7)
        obtain ⟨n7, hn7⟩ : ∃ n7, n7 = min n 9 := ⟨_, rfl⟩
        obtain ⟨m7, hm7⟩ : ∃ m7, m7 = min m 9 := ⟨_, rfl⟩
        rw [← hn7] at oa7 ⊢
        rw [← hm7] at ob7 ⊢
        have hn9 : n7 ≤ 1000 := by omega
        have hm9 : m7 ≤ 1000 := by omega
        have HOA := hid oa7; have HOB := hid ob7
        have HAB7 := hid (below_then HAB.out hb7)
        clear hb7 oa7 ob7 hn7 hm7
        obtain ⟨p0, p1, p2, pf⟩ := P10.cells3
        have HPX := hid P10
        clear P10
        have hkk : (K : Int) = (K : Int) := rfl
        go_wp2_with fail
        have h46 : w4.heap.size + 1 < w6.heap.size := by have := hz6.out; omega
        have h54 : w5.heap.size ≤ w4.heap.size + 1 := by have := hz5.out; omega
        go_loopw [46, 11, 12] (fun i s11 s12 wr => ∃ k : Nat, ∃ A' n' c' B' m' d', ∃ s : St, k ≤ K ∧ i = .int .i64 k ∧ s11 = .int .i64 K ∧ s12 = .int .i64 0 ∧ Blk wr (w4.heap.size + 1) 24 (rcs s.1 A' n' c' B' m' d') ∧ Rds wr A' n' c' B' m' d' s.2.1 s.2.2 ∧ Good s.1 s.2.1 s.2.2 ∧ runA (now, ns, os) l2 0 = runA s (l2.drop k) k ∧ Below w5.heap.size w5 wr) (fun i _ _ _ => K - (intOf i).toNat)
        case atStart =>
          have oa := ((HOA.out.setCell (p := ⟨w4.heap.size + 1, 0, none⟩) h46 (.int .i64 now)).setCell (p := ⟨w4.heap.size + 1, 1, none⟩) h46 (.slice A7 n7 c7)).setCell (p := ⟨w4.heap.size + 1, 2, none⟩) h46 (.slice B7 m7 d7)
          have ob := ((HOB.out.setCell (p := ⟨w4.heap.size + 1, 0, none⟩) h46 (.int .i64 now)).setCell (p := ⟨w4.heap.size + 1, 1, none⟩) h46 (.slice A7 n7 c7)).setCell (p := ⟨w4.heap.size + 1, 2, none⟩) h46 (.slice B7 m7 d7)
          exact ⟨0, A7, n7, c7, B7, m7, d7, (now, ns, os), Nat.zero_le _, rfl, rfl, rfl, ((HPX.out.setCell 0 _).setCell 1 _).setCell 2 _, ⟨oa.sl.mono (Nat.zero_le _) (Nat.le_refl _), ob.sl.mono (Nat.zero_le _) (Nat.le_refl _), oa.cap.1, ob.cap.1, hn9, hm9⟩, HG.out, by simp, ((HBr.out.setCell h54 _).setCell h54 _).setCell h54 _⟩
        case round =>
          obtain ⟨k, A8, n8, c8, B8, m8, d8, ⟨nw, ns8, os8⟩, hk, rfl, rfl, rfl, P10, R8, hg, hrun, hBr⟩ := hrel
          clear HOA HOB HPX HBr HP0 HX HY HAB HAB7 HP10 HA6 HO4 HP7
          dsimp only at P10 R8 hg
          by_cases hlt : k < K
          · obtain ⟨b, off, rfl, _, hbB, hc⟩ := HLK.out.row (by omega)
            have g0 := ((below_then HB5.out hBr).cell (p := ⟨b, off + k * 2 + 0, none⟩) hbB).trans (hc k hlt 0 (by omega))
            have g1 := ((below_then HB5.out hBr).cell (p := ⟨b, off + k * 2 + 1, none⟩) hbB).trans (hc k hlt 1 (by omega))
            obtain ⟨⟨cpu, ent⟩, hX⟩ : ∃ x, x = l2[k]?.getD (0, false) := ⟨_, rfl⟩
            rw [← hX] at g0 g1
            simp only [encR, Nat.add_zero, if_pos rfl] at g0
            simp only [encR, if_neg (by decide : ¬ (1 : Nat) = 0)] at g1
            have hdrop : l2.drop k = (cpu, ent) :: l2.drop (k + 1) := by
              have hl := HLK.out.len
              rw [List.drop_eq_getElem_cons (by omega), hX, List.getElem?_eq_getElem (by omega)]
              rfl
            obtain ⟨o, hO⟩ : ∃ o, o = oneF nw ns8 os8 (cpu, ent) := ⟨_, rfl⟩
            have HRK := hid (show runA (now, ns, os) l2 0 = if stC (nw, ns8, os8) (cpu, ent) = 0 then runA (stN (nw, ns8, os8) (cpu, ent)) (l2.drop (k + 1)) (k + 1) else (stC (nw, ns8, os8) (cpu, ent), (k : Int) + 1, (0, [], [])) by rw [hrun, hdrop]; rfl)
            obtain ⟨oc, on1, ons, oos⟩ := o
            have HOC := hid hO
            have HOK : Hid (oc = 0 → Good on1 ons oos ∧ runA (now, ns, os) l2 0 = runA (on1, ons, oos) (l2.drop (k + 1)) (k + 1)) := hid (fun h0 => by
              have hz := oneF_zero (now := nw) (ns := ns8) (os := os8) (x := (cpu, ent)) (by rw [← hO]; exact h0)
              have h1 := hO
              rw [oneF_ok hg hz.2] at h1
              have h2 : (on1, ons, oos) = stN (nw, ns8, os8) (cpu, ent) := (Prod.mk.inj h1).2
              have h3 := good_step hg hz.2
              rw [← h2] at h3
              exact ⟨h3, by rw [HRK.out, if_pos hz.2, ← h2]⟩)
            have HNO : Hid (oc ≠ 0 → (code, cnt, (st, nsr, osr)) = (oc, (k : Int) + 1, ((0 : Int), ([] : List Int), ([] : List Int)))) := hid (fun h0 => by
              have hne : stC (nw, ns8, os8) (cpu, ent) ≠ 0 := fun hz => h0 (by rw [oneF_ok hg hz] at hO; exact (Prod.mk.inj hO).1)
              have h1 := hO
              rw [oneF_err hg hne] at h1
              rw [HRUN.out, HRK.out, if_neg hne, (Prod.mk.inj h1).1])
            have HGd := hid hg
            clear hX hdrop hc hO hrun hg HRUN HRK HLK
            have b8 := below_box wr (.cells #[.int .i64 cpu, .bool ent] 32)
            have P14 := Blk.new wr 32 #[.int .i64 cpu, .bool ent]
            replace P10 := P10.step b8; replace R8 := R8.step b8; replace hBr := below_then hBr b8
            have h14l := P14.lt
            clear b8
            obtain ⟨p0, p1, p2, pf⟩ := P10.cells3
            obtain ⟨r0, r1, rf⟩ := P14.cells2
            go_wp2_with fail
            clear p0 p1 p2 pf r0 r1 rf g0 g1
            generalize (wr.alloc (.cells #[.int .i64 cpu, .bool ent] 32)) = W8 at *
            refine (leave1_any nw A8 n8 c8 B8 m8 d8 ns8 os8 cpu W8 R8).mono ?_
            cases ent
            · rintro e w13 ⟨A13, n13, c13, B13, m13, d13, rfl, h13, hb13⟩
              rw [← HOC.out] at h13 ⊢
              dsimp only at h13 ⊢
              have bx := below_box w13 (.cells (rcs on1 A13 n13 c13 B13 m13 d13) 24)
              have P15 := Blk.new w13 24 (rcs on1 A13 n13 c13 B13 m13 d13)
              have O15 := h13.step bx
              have hb8 := below_then hb13 bx
              replace P10 := P10.step hb8; replace R8 := R8.step hb8; replace P14 := P14.step hb8; replace hBr := below_then hBr hb8
              clear bx h13 hb13 hb8
              obtain ⟨r0, r1, rf⟩ := P14.cells2
              go_upto_region 16 with fail
              clear r0 r1 rf
              generalize (w13.alloc (.cells #[.int .i64 on1, .slice A13 n13 c13, .slice B13 m13 d13] 24)) = W13 at *
              have h10 : w4.heap.size + 1 < W13.heap.size := P10.lt
              obtain ⟨p0, p1, p2, pf⟩ := P10.cells3
              obtain ⟨r0, r1, rf⟩ := P14.cells2
              go_wp2_with fail
              clear p0 p1 p2 pf r0 r1 rf
              refine (rstep_any nw A8 n8 c8 B8 m8 d8 ns8 os8 cpu false W13 R8 HGd.out).mono ?_
              rintro e w14 ⟨A14, n14, c14, B14, m14, d14, rfl, h14, hb14⟩
              rw [← HOC.out] at h14 ⊢
              dsimp only at h14 ⊢
              have bx := below_box w14 (.cells (rcs on1 A14 n14 c14 B14 m14 d14) 24)
              have P17 := Blk.new w14 24 (rcs on1 A14 n14 c14 B14 m14 d14)
              have O17 := h14.step bx
              have hb14' := below_then hb14 bx
              replace P10 := P10.step hb14'; replace P15 := P15.step hb14'; replace O15 := O15.step hb14'; replace hBr := below_then hBr hb14'
              clear bx hb14' hb14 h14 P14 R8
              obtain ⟨p0, p1, p2, pf⟩ := P15.cells3
              obtain ⟨k0, k1, k2, kf⟩ := P17.cells3
              have hcc : (oc != oc) = false := by simp
              go_wp2_with fail
              clear p0 p1 p2 pf k0 k1 k2 kf
              refine (rsame_any on1 A13 n13 c13 B13 m13 d13 ons oos on1 A14 n14 c14 B14 m14 d14 ons oos _ O15.rds O17.rds).mono ?_
              rintro e w15 ⟨rfl, hb15⟩
              rw [show sameR on1 ons oos on1 ons oos = true from decide_eq_true ⟨rfl, rfl, rfl⟩]
              replace P10 := P10.step hb15; replace P17 := P17.step hb15; replace O17 := O17.step hb15; replace hBr := below_then hBr hb15
              have HP10 := hid P10; have HO17 := hid O17; have HBr := hid hBr
              clear hb15 P15 O15 hcc hBr O17
              by_cases hc0 : oc = 0
              · have HZ := hid (HOK.out hc0)
                subst hc0
                obtain ⟨k0, k1, k2, kf⟩ := P17.cells3
                obtain ⟨p0, p1, p2, pf⟩ := P10.cells3
                clear P17 P10 HOK HNO
                go_wp2
                go_roundw
                case rel =>
                  obtain ⟨e1, e2⟩ := HZ.out
                  have o17 := ((HO17.out.setCell (p := ⟨w4.heap.size + 1, 0, none⟩) h10 (.int .i64 on1)).setCell (p := ⟨w4.heap.size + 1, 1, none⟩) h10 (.slice A14 n14 c14)).setCell (p := ⟨w4.heap.size + 1, 2, none⟩) h10 (.slice B14 m14 d14)
                  exact ⟨k + 1, A14, n14, c14, B14, m14, d14, (on1, ons, oos), by omega, by go_num, rfl, rfl, ((HP10.out.setCell 0 _).setCell 1 _).setCell 2 _, o17.rds, e1, e2, ((HBr.out.setCell h54 _).setCell h54 _).setCell h54 _⟩
                case measure => simp [intOf]; omega
              · have hc1 : (oc != 0) = true := by simpa using hc0
                have HZ := hid (HNO.out hc0)
                obtain ⟨p0, p1, p2, pf⟩ := P10.cells3
                clear P17 P10 hc0 HNO HOK
                go_wp2
                go_meet
                have e1 := HZ.out
                simp only [Prod.mk.injEq] at e1
                obtain ⟨rfl, rfl, rfl, rfl, rfl⟩ := e1
                exact ⟨rfl, rfl, none, 0, 0, none, 0, 0, ((HP10.out.setCell 0 _).setCell 1 _).setCell 2 _, (Rown.none _ 0).rds, ((HBr.out.setCell h54 _).setCell h54 _).setCell h54 _⟩
            · rintro e w9 ⟨A9, n9', c9, B9, m9', d9, rfl, h9, hb9⟩
              generalize oneF nw ns8 os8 (cpu, false) = o9 at *
              have b9 := below_box w9 (.cells (rcs o9.2.1 A9 n9' c9 B9 m9' d9) 24)
              have P15a := Blk.new w9 24 (rcs o9.2.1 A9 n9' c9 B9 m9' d9)
              have hb9' := below_then hb9 b9
              have h9z := hb9.size
              have P10a := P10.step hb9'
              have P14a := P14.step hb9'
              have R8a := R8.step hb9'
              obtain ⟨p0, p1, p2, pf⟩ := P10a.cells3
              obtain ⟨r0, r1, rf⟩ := P14a.cells2
              clear b9 h9 hb9
              go_wp2_with fail
              clear p0 p1 p2 pf r0 r1 rf
              have h9l := P15a.lt
              generalize (w9.alloc (.cells #[.int .i64 o9.2.1, .slice A9 n9' c9, .slice B9 m9' d9] 24)) = W9 at *
              refine (enter1_any nw A8 n8 c8 B8 m8 d8 ns8 os8 cpu W9 R8a).mono ?_
              rintro e w13 ⟨A13, n13, c13, B13, m13, d13, rfl, h13, hb13⟩
              rw [← HOC.out] at h13 ⊢
              dsimp only at h13 ⊢
              have P15b := P15a.step hb13
              have hb8 := ((below_then hb9' hb13).setCell (p := ⟨w9.heap.size, 0, none⟩) h9z (.int .i64 on1) |>.setCell (p := ⟨w9.heap.size, 1, none⟩) h9z (.slice A13 n13 c13)).setCell (p := ⟨w9.heap.size, 2, none⟩) h9z (.slice B13 m13 d13)
              have P15 : Blk (((w13.setCell ⟨w9.heap.size, 0, none⟩ (.int .i64 on1)).setCell ⟨w9.heap.size, 1, none⟩ (.slice A13 n13 c13)).setCell ⟨w9.heap.size, 2, none⟩ (.slice B13 m13 d13)) w9.heap.size 24 (rcs on1 A13 n13 c13 B13 m13 d13) := ((P15b.setCell 0 _).setCell 1 _).setCell 2 _
              have O15 := ((h13.setCell (p := ⟨w9.heap.size, 0, none⟩) h9l (.int .i64 on1)).setCell (p := ⟨w9.heap.size, 1, none⟩) h9l (.slice A13 n13 c13)).setCell (p := ⟨w9.heap.size, 2, none⟩) h9l (.slice B13 m13 d13)
              replace P10 := P10.step hb8; replace R8 := R8.step hb8; replace P14 := P14.step hb8; replace hBr := below_then hBr hb8
              obtain ⟨p0, p1, p2, pf⟩ := P15b.cells3
              clear h13 hb13 hb8 P10a P14a R8a P15a P15b hb9'
              go_upto_region 16 with fail
              clear p0 p1 p2 pf
              generalize (((w13.setCell ⟨w9.heap.size, 0, none⟩ (.int .i64 on1)).setCell ⟨w9.heap.size, 1, none⟩ (.slice A13 n13 c13)).setCell ⟨w9.heap.size, 2, none⟩ (.slice B13 m13 d13)) = W13 at *
              have h10 : w4.heap.size + 1 < W13.heap.size := P10.lt
              obtain ⟨p0, p1, p2, pf⟩ := P10.cells3
              obtain ⟨r0, r1, rf⟩ := P14.cells2
              go_wp2_with fail
              clear p0 p1 p2 pf r0 r1 rf
              refine (rstep_any nw A8 n8 c8 B8 m8 d8 ns8 os8 cpu true W13 R8 HGd.out).mono ?_
              rintro e w14 ⟨A14, n14, c14, B14, m14, d14, rfl, h14, hb14⟩
              rw [← HOC.out] at h14 ⊢
              dsimp only at h14 ⊢
              have bx := below_box w14 (.cells (rcs on1 A14 n14 c14 B14 m14 d14) 24)
              have P17 := Blk.new w14 24 (rcs on1 A14 n14 c14 B14 m14 d14)
              have O17 := h14.step bx
              have hb14' := below_then hb14 bx
              replace P10 := P10.step hb14'; replace P15 := P15.step hb14'; replace O15 := O15.step hb14'; replace hBr := below_then hBr hb14'
              clear bx hb14' hb14 h14 P14 R8
              obtain ⟨p0, p1, p2, pf⟩ := P15.cells3
              obtain ⟨k0, k1, k2, kf⟩ := P17.cells3
              have hcc : (oc != oc) = false := by simp
              go_wp2_with fail
              clear p0 p1 p2 pf k0 k1 k2 kf
              refine (rsame_any on1 A13 n13 c13 B13 m13 d13 ons oos on1 A14 n14 c14 B14 m14 d14 ons oos _ O15.rds O17.rds).mono ?_
              rintro e w15 ⟨rfl, hb15⟩
              rw [show sameR on1 ons oos on1 ons oos = true from decide_eq_true ⟨rfl, rfl, rfl⟩]
              replace P10 := P10.step hb15; replace P17 := P17.step hb15; replace O17 := O17.step hb15; replace hBr := below_then hBr hb15
              have HP10 := hid P10; have HO17 := hid O17; have HBr := hid hBr
              clear hb15 P15 O15 hcc hBr O17
              by_cases hc0 : oc = 0
              · have HZ := hid (HOK.out hc0)
                subst hc0
                obtain ⟨k0, k1, k2, kf⟩ := P17.cells3
                obtain ⟨p0, p1, p2, pf⟩ := P10.cells3
                clear P17 P10 HOK HNO
                go_wp2
                go_roundw
                case rel =>
                  obtain ⟨e1, e2⟩ := HZ.out
                  have o17 := ((HO17.out.setCell (p := ⟨w4.heap.size + 1, 0, none⟩) h10 (.int .i64 on1)).setCell (p := ⟨w4.heap.size + 1, 1, none⟩) h10 (.slice A14 n14 c14)).setCell (p := ⟨w4.heap.size + 1, 2, none⟩) h10 (.slice B14 m14 d14)
                  exact ⟨k + 1, A14, n14, c14, B14, m14, d14, (on1, ons, oos), by omega, by go_num, rfl, rfl, ((HP10.out.setCell 0 _).setCell 1 _).setCell 2 _, o17.rds, e1, e2, ((HBr.out.setCell h54 _).setCell h54 _).setCell h54 _⟩
                case measure => simp [intOf]; omega
              · have hc1 : (oc != 0) = true := by simpa using hc0
                have HZ := hid (HNO.out hc0)
                obtain ⟨p0, p1, p2, pf⟩ := P10.cells3
                clear P17 P10 hc0 HNO HOK
                go_wp2
                go_meet
                have e1 := HZ.out
                simp only [Prod.mk.injEq] at e1
                obtain ⟨rfl, rfl, rfl, rfl, rfl⟩ := e1
                exact ⟨rfl, rfl, none, 0, 0, none, 0, 0, ((HP10.out.setCell 0 _).setCell 1 _).setCell 2 _, (Rown.none _ 0).rds, ((HBr.out.setCell h54 _).setCell h54 _).setCell h54 _⟩
          · obtain rfl : k = K := by omega
            have HE := hid (show (code, cnt, (st, nsr, osr)) = ((0 : Int), (k : Int), (nw, ns8, os8)) by rw [HRUN.out, hrun, List.drop_of_length_le (by rw [HLK.out.len]; exact Nat.le_refl _)]; rfl)
            have HP10 := hid P10; have HR8 := hid R8; have HBr := hid hBr
            clear hrun P10 R8 hBr
            go_wp2
            go_meet
            have e1 := HE.out
            simp only [Prod.mk.injEq] at e1
            obtain ⟨rfl, rfl, rfl, rfl, rfl⟩ := e1
            exact ⟨rfl, rfl, A8, n8, c8, B8, m8, d8, HP10.out, HR8.out, HBr.out⟩
      · have hg : ¬ Good now ns os := of_decide_eq_false HGB.out.symm
        have HE := hid (show (code, cnt, (st, nsr, osr)) = ((210 : Int), (0 : Int), ((0 : Int), ([] : List Int), ([] : List Int))) from HR.out.trans (if_neg hg))
        clear hg
        go_wp2
        go_meet
        have e1 := HE.out
        simp only [Prod.mk.injEq] at e1
        obtain ⟨rfl, rfl, rfl, rfl, rfl⟩ := e1
        exact ⟨rfl, rfl, none, 0, 0, none, 0, 0, HP10.out, (Rown.none _ 0).rds, HA6.out⟩
    case rest =>
      obtain ⟨rfl, rfl, A8, n8, c8, B8, m8, d8, P8, R8, hb⟩ := hcut
      dsimp only at P8 R8 ⊢
      have P7 := HP7.out.step hb
      have O4 := HO4.out.step hb
      have hb3 := below_then HB5.out hb
      have hc1 : (code != code) = false := by simp
      have hc2 : (cnt != cnt) = false := by simp
      obtain ⟨p0, p1, p2, pf⟩ := P7.cells3
      obtain ⟨k0, k1, k2, kf⟩ := P8.cells3
      clear hb HLK
      go_wp2_with fail
      clear p0 p1 p2 pf k0 k1 k2 kf hc1 hc2
      refine (rsame_any st A4 n4 c4 B4 m4 d4 nsr osr st A8 n8 c8 B8 m8 d8 nsr osr _ O4.rds R8).mono ?_
      rintro e w15 ⟨rfl, hb15⟩
      rw [show sameR st nsr osr st nsr osr = true from decide_eq_true ⟨rfl, rfl, rfl⟩]
      have HP7 := hid (P7.step hb15); have HO := hid (O4.step hb15); have HB3 := hid (below_then hb3 hb15)
      have hnm : n4 = m4 := by have := O4.oa.len; have := O4.ob.len; have := HLEN.out; omega
      subst hnm
      have hn4 : n4 ≤ 1000 := O4.hn
      clear P7 O4 hb3 hb15 P8 R8
      obtain ⟨p0, p1, p2, pf⟩ := HP7.out.cells3
      go_wp2_with fail
      clear p0 p1 p2 pf
      have hz4' := hz4.out
      go_loopw [107] (fun i wr => ∃ j : Nat, ∃ xs' ys', j ≤ n4 ∧ i = .int .i64 j ∧ Ow i64 wr w3.heap.size 3 A4 n4 c4 xs' ∧ Ow i64 wr w3.heap.size 3 B4 n4 d4 ys' ∧ Blk wr w4.heap.size 24 (rcs st A4 n4 c4 B4 n4 d4) ∧ Below w3.heap.size w3 wr) (fun i _ => n4 - (intOf i).toNat)
      case atStart => exact ⟨0, _, _, Nat.zero_le _, rfl, HO.out.oa, HO.out.ob, HP7.out, HB3.out⟩
      case round =>
        obtain ⟨j, xs', ys', hj, rfl, oa, ob, P7, hb3⟩ := hrel
        clear HO HP7 HB3
        have HOA := hid oa; have HOB := hid ob; have HPP := hid P7; have HBB := hid hb3
        clear hb3
        by_cases hjl : j < n4
        · obtain ⟨ga, rfl, hga, _, a0, af⟩ := oa.at_ 0 hjl
          obtain ⟨gb, rfl, hgb, _, b0, bf⟩ := ob.at_ 0 hjl
          obtain ⟨ga', hq, _, hga4, _⟩ := HH4.out.oa.at_ 0 (k := 0) (by omega)
          obtain rfl : ga = ga' := by simpa using hq
          obtain ⟨gb', hq', _, hgb4, _⟩ := HH4.out.ob.at_ 0 (k := 0) (by omega)
          obtain rfl : gb = gb' := by simpa using hq'
          have hne : ga ≠ gb := HH4.out.apart _ _ rfl rfl
          have d1 : w4.heap.size ≠ ga := by omega
          have d2 : w4.heap.size ≠ gb := by omega
          obtain ⟨p0, p1, p2, pf⟩ := P7.cells3
          have q0 := fun v => (P7.far (p := ⟨ga, j, none⟩) d1 v).cells3.1
          have q1 := fun v => (P7.far (p := ⟨ga, j, none⟩) d1 v).cells3.2.1
          have q2 := fun v => (P7.far (p := ⟨ga, j, none⟩) d1 v).cells3.2.2.1
          have qb : ∀ v, (wr.setCell ⟨ga, j, none⟩ v).cell? ⟨gb, j, none⟩ = some (.int .i64 (ys'[j]?.getD 0)) := fun v => (World.cell?_setCell_other _ _ _ _ (by intro he; exact hne (by simpa using congrArg Addr.block he))).trans b0
          have qf := fun v => (ob.far (p := ⟨ga, j, none⟩) (Ne.symm hne) v).own.frozenAt j
          clear hq hq' oa ob P7
          generalize xs'[j]?.getD 0 = x at *
          generalize ys'[j]?.getD 0 = y at *
          go_wp2_with fail
          go_roundw
          case rel => exact ⟨j + 1, _, _, by omega, by go_num, (HOA.out.stored j _).far (p := ⟨gb, j, none⟩) hne _, (HOB.out.far (p := ⟨ga, j, none⟩) (Ne.symm hne) _).stored j _, (HPP.out.far (p := ⟨ga, j, none⟩) d1 _).far (p := ⟨gb, j, none⟩) d2 _, (HBB.out.setCell (p := ⟨ga, j, none⟩) hga _).setCell (p := ⟨gb, j, none⟩) hgb _⟩
          case measure => simp [intOf]; omega
        · obtain rfl : j = n4 := by omega
          have hx' := HX.out.step HBB.out.drew; have hy' := HY.out.step HBB.out.drew
          have P2d := HP2.out.step HBB.out.drew
          have P0d := HP0.out.step HBB.out.drew
          have R2d := HR2.out.step HBB.out.drew
          have HBd := hid (below_then HB.out HBB.out.drew)
          clear oa ob P7
          obtain ⟨p0, p1, p2, pf⟩ := P2d.cells3
          obtain ⟨k0, k1, k2, kf⟩ := P0d.cells3
          go_upto_region 31 with fail
          go_region_with (first
            | (go_at_call 7; (with_reducible refine (own_r now A n c B m d xs ys wr.drew hx' hy' hnc hmd).mono ?_); rintro e w20 ⟨A20, n20, c20, B20, m20, d20, rfl, R20, hb20⟩; obtain ⟨r0, r1, r2, rf⟩ := (P2d.step hb20).cells3)
            | (go_at_call 16; (with_reducible refine (rsame_any now A2 n2 c2 B2 m2 d2 ns os now A20 n20 c20 B20 m20 d20 (xs.take 9) (ys.take 9) w20 (R2d.step hb20) R20).mono ?_); rintro e w21 ⟨rfl, hb21⟩))
          all_goals
            rw [HNS.out, HOS.out, show sameR now (xs.take 9) (ys.take 9) now (xs.take 9) (ys.take 9) = true from decide_eq_true ⟨rfl, rfl, rfl⟩]
            have HBF := hid (below_then (below_then HBd.out hb20) hb21)
            clear hb20 hb21 R20 R2d hx' hy' P2d P0d
            go_wp2
            go_ret
            exact ⟨rfl, HBF.out⟩
end Go.Proofs.Ytannechjcdgeeaa
