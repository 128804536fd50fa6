/- afterglowlaw12: wakes. No condition. -/
import Derived.Test.YtbibfjncjklclaaGr12
import Derived.Test.YtbibfjncjklclaaRd7
namespace Go.Proofs.Ytbibfjncjklclaa
open Go.RowKit
attribute [local go_sem] Oper.semAt_some
theorem Blk.neG {w : World} {g k : Nat} {t u : TypeId} {cs ds : Array Value} (h : Blk w g t cs) (h2 : Blk w k u ds) (hne : t ≠ u) : g ≠ k := by
  intro e
  subst e
  unfold Blk at h h2
  rw [h] at h2
  simp at h2
  exact hne h2.2
theorem Blk.smT {w : World} {g n : Nat} {e : TypeId} {cs : Array Value} {xs : List (Int × Int)} (h : Blk w g e cs) (hn : xs.length = n) (hc : ∀ k, k < n → ∀ j, j < 2 → cs[k * 2 + j]? = some (encT (xs[k]?.getD (0, 0)) j)) : Sm 2 encT (0, 0) w 0 w.heap.size (some ⟨g, 0, none⟩) n xs := by
  refine ⟨hn, fun _ => ⟨g, 0, rfl, Nat.zero_le _, h.lt, fun k hk j hj => ?_⟩⟩
  rw [Nat.zero_add, h.cell, hc k hk j hj]
theorem nBoth {n : Nat} (h1 : 1 ≤ n) (h8 : n ≤ 8) : Both (0, List.replicate n 0, List.replicate n 0) (nGr n) := by
  refine ⟨good_iff.2 ⟨⟨by simpa using h1, by simpa using h8, by simp, by omega, by omega⟩, fun i hi => ?_⟩, nGr_ok h1 h8, by simp [nGr]⟩
  have e : ∀ i : Nat, (List.replicate n (0 : Int))[i]?.getD 0 = 0 := fun i => by rw [List.getElem?_replicate]; split <;> rfl
  unfold RowR
  simp only [e]
  exact ⟨by omega, by omega, fun _ => trivial, fun h => by omega, fun _ _ h => absurd rfl h⟩
/-- what Play hands back of known ticks -/
def WkPost (w : World) (dn ak : Int) (on : Bool) (nd : List Bool) (aq : List Int) (x : Ending) (w' : World) : Prop :=
  ∃ now A n k B m d D kd E ke, x = .returned (.tuple #[rv now A n k B m d, .agg #[.int .i64 dn, .int .i64 ak, .bool on, .slice D 2 kd], .slice E 1 ke, .int .i64 0]) ∧ Ow blv w' w.heap.size 4 D 2 kd nd ∧ Ow i64 w' w.heap.size 3 E 1 ke aq ∧ Below w.heap.size w w'
theorem play_wk1 (A B D : Option Addr) (T : Option Addr) (kt : Nat) (w : World) (hR : Rds w A 2 2 B 2 2 [0, 0] [0, 0]) (hD : Sl blv false w 0 w.heap.size D 2 [false, false]) (hT : Sm 2 encT (0, 0) w 0 w.heap.size T 5 [(1, 1), (3, 0), (4, 0), (4, 0), (4, 1)]) :
    Calls Try.prog 12 #[rv 0 A 2 2 B 2 2, .agg #[.int .i64 0, .int .i64 0, .bool false, .slice D 2 2], .slice T 5 kt] w (WkPost w 0 1 true [false, true] [1]) := by
  have h := play_any (0, [0, 0], [0, 0]) (nGr 2) A 2 2 B 2 2 D 2 T 5 kt _ w hR hD hT (nBoth (n := 2) (by omega) (by omega)) (by omega)
  have e : playA (0, [0, 0], [0, 0]) (nGr 2) [] [(1, 1), (3, 0), (4, 0), (4, 0), (4, 1)] = (0, (1, [0, 1], [0, 1]), ⟨[false, true], 0, 1, true⟩, [1]) := by kernel_rfl
  rw [e] at h
  refine h.mono ?_
  rintro x w' ⟨A, n, k, B, m, d, D, kd, E, ne, ke, rfl, h1, h2, h3, h4⟩
  obtain rfl : 1 = ne := h3.len
  exact ⟨1, A, n, k, B, m, d, D, kd, E, ke, rfl, h2, h3, h4⟩
theorem play_wk2 (A B D : Option Addr) (T : Option Addr) (kt : Nat) (w : World) (hR : Rds w A 2 2 B 2 2 [0, 0] [0, 0]) (hD : Sl blv false w 0 w.heap.size D 2 [false, false]) (hT : Sm 2 encT (0, 0) w 0 w.heap.size T 4 [(3, 0), (4, 0), (4, 0), (4, 1)]) :
    Calls Try.prog 12 #[rv 0 A 2 2 B 2 2, .agg #[.int .i64 0, .int .i64 0, .bool false, .slice D 2 2], .slice T 4 kt] w (WkPost w 1 1 false [false, false] [1]) := by
  have h := play_any (0, [0, 0], [0, 0]) (nGr 2) A 2 2 B 2 2 D 2 T 4 kt _ w hR hD hT (nBoth (n := 2) (by omega) (by omega)) (by omega)
  have e : playA (0, [0, 0], [0, 0]) (nGr 2) [] [(3, 0), (4, 0), (4, 0), (4, 1)] = (0, (0, [0, 0], [0, 0]), ⟨[false, false], 1, 1, false⟩, [1]) := by kernel_rfl
  rw [e] at h
  refine h.mono ?_
  rintro x w' ⟨A, n, k, B, m, d, D, kd, E, ne, ke, rfl, h1, h2, h3, h4⟩
  obtain rfl : 1 = ne := h3.len
  exact ⟨0, A, n, k, B, m, d, D, kd, E, ke, rfl, h2, h3, h4⟩
/-- a grace in a box, and what was asked for -/
def WkG (w0 wx : World) (g5 : Nat) (E : Option Addr) (ke : Nat) (dn ak : Int) (on : Bool) (nd : List Bool) : Prop :=
  (∃ D kd, Blk wx g5 27 #[.int .i64 dn, .int .i64 ak, .bool on, .slice D 2 kd] ∧ Ow blv wx w0.heap.size 4 D 2 kd nd) ∧ Ow i64 wx w0.heap.size 3 E 1 ke [1] ∧ Below w0.heap.size w0 wx ∧ w0.heap.size ≤ g5
set_option maxRecDepth 100000 in
set_option maxHeartbeats 8000000 in
theorem gwakes_any (w : World) : Calls Try.prog 8 #[] w fun x w' => x = .returned (.bool true) ∧ Below w.heap.size w w' := by
  have HB := hid (Below.refl w.heap.size w)
  go_enter Try.func8, Try.ntmps8
  go_wp2_with fail
  refine (begun_ok 2 w (by omega) (by omega)).mono ?_
  rintro e w1 ⟨A, B, D, rfl, ro, dq, hb⟩
  have RO := hid (show Rds w1 A 2 2 B 2 2 [0, 0] [0, 0] from ro.rds); have DO := hid (show Sl blv false w1 0 w1.heap.size D 2 [false, false] from (dq.sl (d := false)).mono (Nat.zero_le _) (Nat.le_refl _))
  clear ro dq
  replace HB := hid (below_then HB.out hb)
  clear hb
  have gvE : gv (nGr 2) D 2 2 = .agg #[.int .i64 0, .int .i64 0, .bool false, .slice D 2 2] := rfl
  rw [gvE]
  clear gvE
  have bx := below_box w1 (.cells #[.int .i64 0, .slice A 2 2, .slice B 2 2] 24)
  replace RO := hid (RO.out.step bx); replace DO := hid (DO.out.step bx); replace HB := hid (below_then HB.out bx)
  clear bx
  have P1 := hid (Blk.new w1 24 #[.int .i64 0, .slice A 2 2, .slice B 2 2])
  have bx := below_box (w1.alloc (.cells #[.int .i64 0, .slice A 2 2, .slice B 2 2] 24)) (.cells #[.int .i64 0, .int .i64 0, .bool false, .slice D 2 2] 27)
  replace RO := hid (RO.out.step bx); replace DO := hid (DO.out.step bx); replace P1 := hid (P1.out.step bx); replace HB := hid (below_then HB.out bx)
  clear bx
  have P2 := hid (Blk.new2 w1 27 #[.int .i64 0, .int .i64 0, .bool false, .slice D 2 2] (.cells #[.int .i64 0, .slice A 2 2, .slice B 2 2] 24))
  go_upto_region 2 with fail
  have hz0 := hid (show ((w1.alloc (.cells #[.int .i64 0, .slice A 2 2, .slice B 2 2] 24)).alloc (.cells #[.int .i64 0, .int .i64 0, .bool false, .slice D 2 2] 27)).heap.size = w1.heap.size + 2 by simp)
  generalize (w1.alloc (.cells #[.int .i64 0, .slice A 2 2, .slice B 2 2] 24)).alloc (.cells #[.int .i64 0, .int .i64 0, .bool false, .slice D 2 2] 27) = W0 at *
  have HQ := hid (Below.refl W0.heap.size W0)
  have XP1 := P1; have XP2 := P2; have XRO := RO; have XDO := DO
  clear P1 P2 RO DO
  go_cut [4, 5, 6, 7] (fun s4 s5 s6 s7 wx => ∃ g4 g5 E ke, s4 = ptr g4 ∧ s5 = ptr g5 ∧ s6 = .slice E 1 ke ∧ s7 = .int .i64 0 ∧ WkG W0 wx g5 E ke 0 1 true [false, true])
  case first =>
      have hKP := hid (show ∀ W' : World, Below W0.heap.size W0 W' → (fun W' : World => W'.cell? ⟨w1.heap.size, 0, none⟩ = some (.int .i64 0) ∧ W'.cell? ⟨w1.heap.size, 1, none⟩ = some (.slice A 2 2) ∧ W'.cell? ⟨w1.heap.size, 2, none⟩ = some (.slice B 2 2) ∧ W'.cell? ⟨(w1.heap.size + 1), 0, none⟩ = some (.int .i64 0) ∧ W'.cell? ⟨(w1.heap.size + 1), 1, none⟩ = some (.int .i64 0) ∧ W'.cell? ⟨(w1.heap.size + 1), 2, none⟩ = some (.bool false) ∧ W'.cell? ⟨(w1.heap.size + 1), 3, none⟩ = some (.slice D 2 2)) W' from fun W' hb => ⟨(XP1.out.step hb).cells3.1, (XP1.out.step hb).cells3.2.1, (XP1.out.step hb).cells3.2.2.1, (XP2.out.step hb).cells4.1, (XP2.out.step hb).cells4.2.1, (XP2.out.step hb).cells4.2.2.1, (XP2.out.step hb).cells4.2.2.2.1⟩)
      refine' merge_by (fun K0 => ?_) ?_
      rotate_left
      refine' merge_by (fun K1 => ?_) ?_
      rotate_left
      refine' merge_by (fun K2 => ?_) ?_
      rotate_left
      refine' merge_by (fun K3 => ?_) ?_
      rotate_left
      refine' merge_by (fun K4 => ?_) ?_
      rotate_left
      refine' merge_by (fun K5 => ?_) ?_
      rotate_left
      refine' merge_by (fun K6 => ?_) ?_
      rotate_left
      refine' merge_by (fun K7 => ?_) ?_
      rotate_left
      refine' merge_by (fun K8 => ?_) ?_
      rotate_left
      refine' merge_by (fun K9 => ?_) ?_
      rotate_left
      refine' merge_by (fun K10 => ?_) ?_
      rotate_left
      refine' merge_by (fun K11 => ?_) ?_
      rotate_left
      refine' merge_by (fun K12 => ?_) ?_
      rotate_left
      refine' merge_by (fun K13 => ?_) ?_
      rotate_left
      refine' merge_by (fun K14 => ?_) ?_
      rotate_left
      refine' merge_by (fun K15 => ?_) ?_
      rotate_left
      ·skip
       have bx := (Below.refl W0.heap.size W0).drew
       replace HQ := hid (below_then HQ.out bx)
       clear bx
       refine wp_region_noPanic ?_
       refine wp_region_held_drew (S := (fun W' : World => W'.cell? ⟨w1.heap.size, 0, none⟩ = some (.int .i64 0) ∧ W'.cell? ⟨w1.heap.size, 1, none⟩ = some (.slice A 2 2) ∧ W'.cell? ⟨w1.heap.size, 2, none⟩ = some (.slice B 2 2) ∧ W'.cell? ⟨(w1.heap.size + 1), 0, none⟩ = some (.int .i64 0) ∧ W'.cell? ⟨(w1.heap.size + 1), 1, none⟩ = some (.int .i64 0) ∧ W'.cell? ⟨(w1.heap.size + 1), 2, none⟩ = some (.bool false) ∧ W'.cell? ⟨(w1.heap.size + 1), 3, none⟩ = some (.slice D 2 2))) (by kernel_rfl) (hKP.out _ HQ.out) (fun hS => ?_)
       generalize W0.drew = Wd at *
       refine tk1 (i := 0) (v := ?_) (hy := Or.inl ⟨by rfl, ?_⟩) (hS := hS) (h := ?_)
       rotate_left
       · intro w' hSw; (try dsimp only at hSw); go_split_ands; go_simp; (try with_reducible rfl)
       (try simp only [Act.put, List.setIfInBounds_toArray, List.set_cons_zero, List.set_cons_succ])
       refine tk1 (i := 1) (v := ?_) (hy := Or.inl ⟨by rfl, ?_⟩) (hS := hS) (h := ?_)
       rotate_left
       · intro w' hSw; (try dsimp only at hSw); go_split_ands; go_simp; (try with_reducible rfl)
       (try simp only [Act.put, List.setIfInBounds_toArray, List.set_cons_zero, List.set_cons_succ])
       refine tk1 (i := 2) (v := ?_) (hy := Or.inl ⟨by rfl, ?_⟩) (hS := hS) (h := ?_)
       rotate_left
       · intro w' hSw; (try dsimp only at hSw); go_split_ands; go_simp; (try with_reducible rfl)
       (try simp only [Act.put, List.setIfInBounds_toArray, List.set_cons_zero, List.set_cons_succ])
       refine tk1 (i := 3) (v := ?_) (hy := Or.inl ⟨by rfl, ?_⟩) (hS := hS) (h := ?_)
       rotate_left
       · intro w' hSw; (try dsimp only at hSw); go_split_ands; go_simp; (try with_reducible rfl)
       (try simp only [Act.put, List.setIfInBounds_toArray, List.set_cons_zero, List.set_cons_succ])
       refine rd1 (rs := [4, 14, 15]) (h := ?_)
       refine cs1 (h := fun K hK => ?_) (hs := ?_)
       ·skip
        have hpre := hid (show W0.heap.size ≤ Wd.heap.size from HQ.out.size)
        go_simp
        refine (lpick_any 0 _).mono ?_
        rintro e wp4 ⟨rfl, hb⟩
        replace HQ := hid (below_then HQ.out hb)
        clear hb
        go_wp2_with fail
        clear hpre
        refine hK.out _ _ (hKP.out _ HQ.out) (fun hS' => ?_)
        clear hK K hS
        have hS := hS'
        clear hS'
        (try simp only [Act.put, List.setIfInBounds_toArray, List.set_cons_zero, List.set_cons_succ])
        refine rd1 (rs := [5, 14, 15]) (h := ?_)
        refine cs1 (h := fun K hK => ?_) (hs := ?_)
        ·skip
         have hpre := hid (show W0.heap.size ≤ wp4.heap.size from HQ.out.size)
         go_simp
         refine (lpick_any 0 _).mono ?_
         rintro e wp5 ⟨rfl, hb⟩
         replace HQ := hid (below_then HQ.out hb)
         clear hb
         go_wp2_with fail
         clear hpre
         refine hK.out _ _ (hKP.out _ HQ.out) (fun hS' => ?_)
         clear hK K hS
         have hS := hS'
         clear hS'
         (try simp only [Act.put, List.setIfInBounds_toArray, List.set_cons_zero, List.set_cons_succ])
         refine rd1 (rs := [6, 14, 15]) (h := ?_)
         refine cs1 (h := fun K hK => ?_) (hs := ?_)
         ·skip
          have hpre := hid (show W0.heap.size ≤ wp5.heap.size from HQ.out.size)
          go_simp
          refine (lpick_any 1 _).mono ?_
          rintro e wp6 ⟨rfl, hb⟩
          replace HQ := hid (below_then HQ.out hb)
          clear hb
          go_wp2_with fail
          clear hpre
          refine hK.out _ _ (hKP.out _ HQ.out) (fun hS' => ?_)
          clear hK K hS
          have hS := hS'
          clear hS'
          (try simp only [Act.put, List.setIfInBounds_toArray, List.set_cons_zero, List.set_cons_succ])
          refine rd1 (rs := [7, 14, 15]) (h := ?_)
          refine cs1 (h := fun K hK => ?_) (hs := ?_)
          ·skip
           have hpre := hid (show W0.heap.size ≤ wp6.heap.size from HQ.out.size)
           go_simp
           refine named_alloc ?_
           intro Wa7 hbk hb hsz
           replace HQ := hid (below_then HQ.out hb)
           obtain ⟨ga7, hga⟩ : ∃ g, g = wp6.heap.size := ⟨_, rfl⟩
           rw [← hga] at hbk ⊢
           have hlo7 := hid (show W0.heap.size ≤ ga7 by have := hpre.out; omega)
           have PT := hid hbk
           clear hb hbk hsz hga hpre
           refine hK.out _ _ (hKP.out _ HQ.out) (fun hS' => ?_)
           clear hK K hS
           have hS := hS'
           clear hS'
           (try simp only [Act.put, List.setIfInBounds_toArray, List.set_cons_zero, List.set_cons_succ])
           refine rd1 (rs := [8, 14, 15]) (h := ?_)
           refine cs1 (h := fun K hK => ?_) (hs := ?_)
           ·skip
            have hpre := hid (show W0.heap.size ≤ Wa7.heap.size from HQ.out.size)
            have hpl7 := hid PT.out.lt
            go_simp
            refine (play_wk1 A B D (some ⟨ga7, 0, none⟩) 5 _ (XRO.out.step HQ.out) (XDO.out.step HQ.out) (PT.out.smT (xs := [(1, 1), (3, 0), (4, 0), (4, 0), (4, 1)]) rfl (by intro k hk j hj; have hk' : k < 5 := hk; have hj' : j < 2 := hj; match k, hk', j, hj' with | 0, _, 0, _ => rfl | 0, _, 1, _ => rfl | 1, _, 0, _ => rfl | 1, _, 1, _ => rfl | 2, _, 0, _ => rfl | 2, _, 1, _ => rfl | 3, _, 0, _ => rfl | 3, _, 1, _ => rfl | 4, _, 0, _ => rfl | 4, _, 1, _ => rfl))).mono ?_
            rintro e wpl ⟨now, A9, n9, k9, B9, m9, d9, D9, kd9, E9, ke9, rfl, dq, eq, hb⟩
            replace PT := hid (PT.out.step hb); replace HQ := hid (below_then HQ.out hb)
            clear hb
            have DQ := hid (dq.mono (show W0.heap.size ≤ _ by have := HQ.out.size; have := hpre.out; have := hpl7.out; have := hlo7.out; have := PT.out.lt; omega)); have EQ := hid (eq.mono (show W0.heap.size ≤ _ by have := HQ.out.size; have := hpre.out; have := hpl7.out; have := hlo7.out; have := PT.out.lt; omega))
            clear dq eq
            go_wp2_with fail
            clear hpre hpl7
            refine hK.out _ _ (hKP.out _ HQ.out) (fun hS' => ?_)
            clear hK K hS
            have hS := hS'
            clear hS'
            (try simp only [Act.put, List.setIfInBounds_toArray, List.set_cons_zero, List.set_cons_succ])
            refine tk1 (i := 9) (v := ?_) (hy := Or.inl ⟨by rfl, ?_⟩) (hS := hS) (h := ?_)
            rotate_left
            · intro w' hSw; (try dsimp only at hSw); go_split_ands; go_simp; (try with_reducible rfl)
            (try simp only [Act.put, List.setIfInBounds_toArray, List.set_cons_zero, List.set_cons_succ])
            refine tk1 (i := 10) (v := ?_) (hy := Or.inl ⟨by rfl, ?_⟩) (hS := hS) (h := ?_)
            rotate_left
            · intro w' hSw; (try dsimp only at hSw); go_split_ands; go_simp; (try with_reducible rfl)
            (try simp only [Act.put, List.setIfInBounds_toArray, List.set_cons_zero, List.set_cons_succ])
            refine tk1 (i := 11) (v := ?_) (hy := Or.inl ⟨by rfl, ?_⟩) (hS := hS) (h := ?_)
            rotate_left
            · intro w' hSw; (try dsimp only at hSw); go_split_ands; go_simp; (try with_reducible rfl)
            (try simp only [Act.put, List.setIfInBounds_toArray, List.set_cons_zero, List.set_cons_succ])
            refine tk1 (i := 12) (v := ?_) (hy := Or.inl ⟨by rfl, ?_⟩) (hS := hS) (h := ?_)
            rotate_left
            · intro w' hSw; (try dsimp only at hSw); go_split_ands; go_simp; (try with_reducible rfl)
            (try simp only [Act.put, List.setIfInBounds_toArray, List.set_cons_zero, List.set_cons_succ])
            refine tk1 (i := 13) (v := ?_) (hy := Or.inl ⟨by rfl, ?_⟩) (hS := hS) (h := ?_)
            rotate_left
            · intro w' hSw; (try dsimp only at hSw); go_split_ands; go_simp; (try with_reducible rfl)
            (try simp only [Act.put, List.setIfInBounds_toArray, List.set_cons_zero, List.set_cons_succ])
            refine rd1 (rs := [14, 15]) (h := ?_)
            refine cs1 (h := fun K hK => ?_) (hs := ?_)
            ·skip
             have hpre := hid (show W0.heap.size ≤ wpl.heap.size from HQ.out.size)
             go_simp
             refine named_alloc ?_
             intro Wa14 hbk hb hsz
             replace PT := hid (PT.out.step hb); replace DQ := hid (DQ.out.step hb); replace EQ := hid (EQ.out.step hb); replace HQ := hid (below_then HQ.out hb)
             obtain ⟨ga14, hga⟩ : ∃ g, g = wpl.heap.size := ⟨_, rfl⟩
             rw [← hga] at hbk ⊢
             have hlo14 := hid (show W0.heap.size ≤ ga14 by have := hpre.out; omega)
             have ZR := hid hbk
             clear hb hbk hsz hga hpre
             refine hK.out _ _ (hKP.out _ HQ.out) (fun hS' => ?_)
             clear hK K hS
             have hS := hS'
             clear hS'
             (try simp only [Act.put, List.setIfInBounds_toArray, List.set_cons_zero, List.set_cons_succ])
             revert hS; revert hlo14; revert hlo7; revert HQ; revert ZR; revert PT; revert EQ; revert DQ; revert ga14; revert ke9; revert E9; revert kd9; revert D9; revert d9; revert m9; revert B9; revert k9; revert n9; revert A9; revert now; revert ga7; revert Wa14
             exact K1.out
            refine cs1 (h := fun K hK => ?_) (hs := ?_)
            ·skip
             have hpre := hid (show W0.heap.size ≤ wpl.heap.size from HQ.out.size)
             go_simp
             refine named_alloc ?_
             intro Wa15 hbk hb hsz
             replace PT := hid (PT.out.step hb); replace DQ := hid (DQ.out.step hb); replace EQ := hid (EQ.out.step hb); replace HQ := hid (below_then HQ.out hb)
             obtain ⟨ga15, hga⟩ : ∃ g, g = wpl.heap.size := ⟨_, rfl⟩
             rw [← hga] at hbk ⊢
             have hlo15 := hid (show W0.heap.size ≤ ga15 by have := hpre.out; omega)
             have ZG := hid hbk
             clear hb hbk hsz hga hpre
             refine hK.out _ _ (hKP.out _ HQ.out) (fun hS' => ?_)
             clear hK K hS
             have hS := hS'
             clear hS'
             (try simp only [Act.put, List.setIfInBounds_toArray, List.set_cons_zero, List.set_cons_succ])
             revert hS; revert hlo15; revert hlo7; revert HQ; revert ZG; revert PT; revert EQ; revert DQ; revert ga15; revert ke9; revert E9; revert kd9; revert D9; revert d9; revert m9; revert B9; revert k9; revert n9; revert A9; revert now; revert ga7; revert Wa15
             exact K2.out
            exact AllReadyH.nil
           refine cs1 (h := fun K hK => ?_) (hs := ?_)
           ·skip
            have hpre := hid (show W0.heap.size ≤ Wa7.heap.size from HQ.out.size)
            go_simp
            refine named_alloc ?_
            intro Wa14 hbk hb hsz
            replace PT := hid (PT.out.step hb); replace HQ := hid (below_then HQ.out hb)
            obtain ⟨ga14, hga⟩ : ∃ g, g = Wa7.heap.size := ⟨_, rfl⟩
            rw [← hga] at hbk ⊢
            have hlo14 := hid (show W0.heap.size ≤ ga14 by have := hpre.out; omega)
            have ZR := hid hbk
            clear hb hbk hsz hga hpre
            refine hK.out _ _ (hKP.out _ HQ.out) (fun hS' => ?_)
            clear hK K hS
            have hS := hS'
            clear hS'
            (try simp only [Act.put, List.setIfInBounds_toArray, List.set_cons_zero, List.set_cons_succ])
            revert hS; revert hlo14; revert hlo7; revert HQ; revert ZR; revert PT; revert ga14; revert ga7; revert Wa14
            exact K4.out
           refine cs1 (h := fun K hK => ?_) (hs := ?_)
           ·skip
            have hpre := hid (show W0.heap.size ≤ Wa7.heap.size from HQ.out.size)
            go_simp
            refine named_alloc ?_
            intro Wa15 hbk hb hsz
            replace PT := hid (PT.out.step hb); replace HQ := hid (below_then HQ.out hb)
            obtain ⟨ga15, hga⟩ : ∃ g, g = Wa7.heap.size := ⟨_, rfl⟩
            rw [← hga] at hbk ⊢
            have hlo15 := hid (show W0.heap.size ≤ ga15 by have := hpre.out; omega)
            have ZG := hid hbk
            clear hb hbk hsz hga hpre
            refine hK.out _ _ (hKP.out _ HQ.out) (fun hS' => ?_)
            clear hK K hS
            have hS := hS'
            clear hS'
            (try simp only [Act.put, List.setIfInBounds_toArray, List.set_cons_zero, List.set_cons_succ])
            revert hS; revert hlo15; revert hlo7; revert HQ; revert ZG; revert PT; revert ga15; revert ga7; revert Wa15
            exact K5.out
           exact AllReadyH.nil
          refine cs1 (h := fun K hK => ?_) (hs := ?_)
          ·skip
           have hpre := hid (show W0.heap.size ≤ wp6.heap.size from HQ.out.size)
           go_simp
           refine named_alloc ?_
           intro Wa14 hbk hb hsz
           replace HQ := hid (below_then HQ.out hb)
           obtain ⟨ga14, hga⟩ : ∃ g, g = wp6.heap.size := ⟨_, rfl⟩
           rw [← hga] at hbk ⊢
           have hlo14 := hid (show W0.heap.size ≤ ga14 by have := hpre.out; omega)
           have ZR := hid hbk
           clear hb hbk hsz hga hpre
           refine hK.out _ _ (hKP.out _ HQ.out) (fun hS' => ?_)
           clear hK K hS
           have hS := hS'
           clear hS'
           (try simp only [Act.put, List.setIfInBounds_toArray, List.set_cons_zero, List.set_cons_succ])
           revert hS; revert hlo14; revert HQ; revert ZR; revert ga14; revert Wa14
           exact K7.out
          refine cs1 (h := fun K hK => ?_) (hs := ?_)
          ·skip
           have hpre := hid (show W0.heap.size ≤ wp6.heap.size from HQ.out.size)
           go_simp
           refine named_alloc ?_
           intro Wa15 hbk hb hsz
           replace HQ := hid (below_then HQ.out hb)
           obtain ⟨ga15, hga⟩ : ∃ g, g = wp6.heap.size := ⟨_, rfl⟩
           rw [← hga] at hbk ⊢
           have hlo15 := hid (show W0.heap.size ≤ ga15 by have := hpre.out; omega)
           have ZG := hid hbk
           clear hb hbk hsz hga hpre
           refine hK.out _ _ (hKP.out _ HQ.out) (fun hS' => ?_)
           clear hK K hS
           have hS := hS'
           clear hS'
           (try simp only [Act.put, List.setIfInBounds_toArray, List.set_cons_zero, List.set_cons_succ])
           revert hS; revert hlo15; revert HQ; revert ZG; revert ga15; revert Wa15
           exact K8.out
          exact AllReadyH.nil
         refine cs1 (h := fun K hK => ?_) (hs := ?_)
         ·skip
          have hpre := hid (show W0.heap.size ≤ wp5.heap.size from HQ.out.size)
          go_simp
          refine named_alloc ?_
          intro Wa14 hbk hb hsz
          replace HQ := hid (below_then HQ.out hb)
          obtain ⟨ga14, hga⟩ : ∃ g, g = wp5.heap.size := ⟨_, rfl⟩
          rw [← hga] at hbk ⊢
          have hlo14 := hid (show W0.heap.size ≤ ga14 by have := hpre.out; omega)
          have ZR := hid hbk
          clear hb hbk hsz hga hpre
          refine hK.out _ _ (hKP.out _ HQ.out) (fun hS' => ?_)
          clear hK K hS
          have hS := hS'
          clear hS'
          (try simp only [Act.put, List.setIfInBounds_toArray, List.set_cons_zero, List.set_cons_succ])
          revert hS; revert hlo14; revert HQ; revert ZR; revert ga14; revert Wa14
          exact K10.out
         refine cs1 (h := fun K hK => ?_) (hs := ?_)
         ·skip
          have hpre := hid (show W0.heap.size ≤ wp5.heap.size from HQ.out.size)
          go_simp
          refine named_alloc ?_
          intro Wa15 hbk hb hsz
          replace HQ := hid (below_then HQ.out hb)
          obtain ⟨ga15, hga⟩ : ∃ g, g = wp5.heap.size := ⟨_, rfl⟩
          rw [← hga] at hbk ⊢
          have hlo15 := hid (show W0.heap.size ≤ ga15 by have := hpre.out; omega)
          have ZG := hid hbk
          clear hb hbk hsz hga hpre
          refine hK.out _ _ (hKP.out _ HQ.out) (fun hS' => ?_)
          clear hK K hS
          have hS := hS'
          clear hS'
          (try simp only [Act.put, List.setIfInBounds_toArray, List.set_cons_zero, List.set_cons_succ])
          revert hS; revert hlo15; revert HQ; revert ZG; revert ga15; revert Wa15
          exact K11.out
         exact AllReadyH.nil
        refine cs1 (h := fun K hK => ?_) (hs := ?_)
        ·skip
         have hpre := hid (show W0.heap.size ≤ wp4.heap.size from HQ.out.size)
         go_simp
         refine named_alloc ?_
         intro Wa14 hbk hb hsz
         replace HQ := hid (below_then HQ.out hb)
         obtain ⟨ga14, hga⟩ : ∃ g, g = wp4.heap.size := ⟨_, rfl⟩
         rw [← hga] at hbk ⊢
         have hlo14 := hid (show W0.heap.size ≤ ga14 by have := hpre.out; omega)
         have ZR := hid hbk
         clear hb hbk hsz hga hpre
         refine hK.out _ _ (hKP.out _ HQ.out) (fun hS' => ?_)
         clear hK K hS
         have hS := hS'
         clear hS'
         (try simp only [Act.put, List.setIfInBounds_toArray, List.set_cons_zero, List.set_cons_succ])
         revert hS; revert hlo14; revert HQ; revert ZR; revert ga14; revert Wa14
         exact K13.out
        refine cs1 (h := fun K hK => ?_) (hs := ?_)
        ·skip
         have hpre := hid (show W0.heap.size ≤ wp4.heap.size from HQ.out.size)
         go_simp
         refine named_alloc ?_
         intro Wa15 hbk hb hsz
         replace HQ := hid (below_then HQ.out hb)
         obtain ⟨ga15, hga⟩ : ∃ g, g = wp4.heap.size := ⟨_, rfl⟩
         rw [← hga] at hbk ⊢
         have hlo15 := hid (show W0.heap.size ≤ ga15 by have := hpre.out; omega)
         have ZG := hid hbk
         clear hb hbk hsz hga hpre
         refine hK.out _ _ (hKP.out _ HQ.out) (fun hS' => ?_)
         clear hK K hS
         have hS := hS'
         clear hS'
         (try simp only [Act.put, List.setIfInBounds_toArray, List.set_cons_zero, List.set_cons_succ])
         revert hS; revert hlo15; revert HQ; revert ZG; revert ga15; revert Wa15
         exact K14.out
        exact AllReadyH.nil
       refine cs1 (h := fun K hK => ?_) (hs := ?_)
       ·skip
        have hpre := hid (show W0.heap.size ≤ Wd.heap.size from HQ.out.size)
        go_simp
        refine named_alloc ?_
        intro Wa14 hbk hb hsz
        replace HQ := hid (below_then HQ.out hb)
        obtain ⟨ga14, hga⟩ : ∃ g, g = Wd.heap.size := ⟨_, rfl⟩
        rw [← hga] at hbk ⊢
        have hlo14 := hid (show W0.heap.size ≤ ga14 by have := hpre.out; omega)
        have ZR := hid hbk
        clear hb hbk hsz hga hpre
        refine hK.out _ _ (hKP.out _ HQ.out) (fun hS' => ?_)
        clear hK K hS
        have hS := hS'
        clear hS'
        (try simp only [Act.put, List.setIfInBounds_toArray, List.set_cons_zero, List.set_cons_succ])
        refine rd1 (rs := [4, 15]) (h := ?_)
        refine cs1 (h := fun K hK => ?_) (hs := ?_)
        ·skip
         have hpre := hid (show W0.heap.size ≤ Wa14.heap.size from HQ.out.size)
         have hpl14 := hid ZR.out.lt
         go_simp
         refine (lpick_any 0 _).mono ?_
         rintro e wp4 ⟨rfl, hb⟩
         replace ZR := hid (ZR.out.step hb); replace HQ := hid (below_then HQ.out hb)
         clear hb
         go_wp2_with fail
         clear hpre hpl14
         refine hK.out _ _ (hKP.out _ HQ.out) (fun hS' => ?_)
         clear hK K hS
         have hS := hS'
         clear hS'
         (try simp only [Act.put, List.setIfInBounds_toArray, List.set_cons_zero, List.set_cons_succ])
         revert hS; revert hlo14; revert HQ; revert ZR; revert ga14; revert wp4
         exact K13.out
        refine cs1 (h := fun K hK => ?_) (hs := ?_)
        ·skip
         have hpre := hid (show W0.heap.size ≤ Wa14.heap.size from HQ.out.size)
         go_simp
         refine named_alloc ?_
         intro Wa15 hbk hb hsz
         replace ZR := hid (ZR.out.step hb); replace HQ := hid (below_then HQ.out hb)
         obtain ⟨ga15, hga⟩ : ∃ g, g = Wa14.heap.size := ⟨_, rfl⟩
         rw [← hga] at hbk ⊢
         have hlo15 := hid (show W0.heap.size ≤ ga15 by have := hpre.out; omega)
         have ZG := hid hbk
         clear hb hbk hsz hga hpre
         refine hK.out _ _ (hKP.out _ HQ.out) (fun hS' => ?_)
         clear hK K hS
         have hS := hS'
         clear hS'
         (try simp only [Act.put, List.setIfInBounds_toArray, List.set_cons_zero, List.set_cons_succ])
         revert hS; revert hlo15; revert hlo14; revert HQ; revert ZR; revert ZG; revert ga15; revert ga14; revert Wa15
         exact K15.out
        exact AllReadyH.nil
       refine cs1 (h := fun K hK => ?_) (hs := ?_)
       ·skip
        have hpre := hid (show W0.heap.size ≤ Wd.heap.size from HQ.out.size)
        go_simp
        refine named_alloc ?_
        intro Wa15 hbk hb hsz
        replace HQ := hid (below_then HQ.out hb)
        obtain ⟨ga15, hga⟩ : ∃ g, g = Wd.heap.size := ⟨_, rfl⟩
        rw [← hga] at hbk ⊢
        have hlo15 := hid (show W0.heap.size ≤ ga15 by have := hpre.out; omega)
        have ZG := hid hbk
        clear hb hbk hsz hga hpre
        refine hK.out _ _ (hKP.out _ HQ.out) (fun hS' => ?_)
        clear hK K hS
        have hS := hS'
        clear hS'
        (try simp only [Act.put, List.setIfInBounds_toArray, List.set_cons_zero, List.set_cons_succ])
        refine rd1 (rs := [4, 14]) (h := ?_)
        refine cs1 (h := fun K hK => ?_) (hs := ?_)
        ·skip
         have hpre := hid (show W0.heap.size ≤ Wa15.heap.size from HQ.out.size)
         have hpl15 := hid ZG.out.lt
         go_simp
         refine (lpick_any 0 _).mono ?_
         rintro e wp4 ⟨rfl, hb⟩
         replace ZG := hid (ZG.out.step hb); replace HQ := hid (below_then HQ.out hb)
         clear hb
         go_wp2_with fail
         clear hpre hpl15
         refine hK.out _ _ (hKP.out _ HQ.out) (fun hS' => ?_)
         clear hK K hS
         have hS := hS'
         clear hS'
         (try simp only [Act.put, List.setIfInBounds_toArray, List.set_cons_zero, List.set_cons_succ])
         revert hS; revert hlo15; revert HQ; revert ZG; revert ga15; revert wp4
         exact K14.out
        refine cs1 (h := fun K hK => ?_) (hs := ?_)
        ·skip
         have hpre := hid (show W0.heap.size ≤ Wa15.heap.size from HQ.out.size)
         go_simp
         refine named_alloc ?_
         intro Wa14 hbk hb hsz
         replace ZG := hid (ZG.out.step hb); replace HQ := hid (below_then HQ.out hb)
         obtain ⟨ga14, hga⟩ : ∃ g, g = Wa15.heap.size := ⟨_, rfl⟩
         rw [← hga] at hbk ⊢
         have hlo14 := hid (show W0.heap.size ≤ ga14 by have := hpre.out; omega)
         have ZR := hid hbk
         clear hb hbk hsz hga hpre
         refine hK.out _ _ (hKP.out _ HQ.out) (fun hS' => ?_)
         clear hK K hS
         have hS := hS'
         clear hS'
         (try simp only [Act.put, List.setIfInBounds_toArray, List.set_cons_zero, List.set_cons_succ])
         revert hS; revert hlo15; revert hlo14; revert HQ; revert ZR; revert ZG; revert ga15; revert ga14; revert Wa14
         exact K15.out
        exact AllReadyH.nil
       exact AllReadyH.nil
      ·skip
       intro Wm ga14 ga15 ZG ZR HQ hlo14 hlo15 hS
       refine rd1 (rs := [4]) (h := ?_)
       refine cs1 (h := fun K hK => ?_) (hs := ?_)
       ·skip
        have hpre := hid (show W0.heap.size ≤ Wm.heap.size from HQ.out.size)
        have hpl14 := hid ZR.out.lt
        have hpl15 := hid ZG.out.lt
        go_simp
        refine (lpick_any 0 _).mono ?_
        rintro e wp4 ⟨rfl, hb⟩
        replace ZG := hid (ZG.out.step hb); replace ZR := hid (ZR.out.step hb); replace HQ := hid (below_then HQ.out hb)
        clear hb
        go_wp2_with fail
        clear hpre hpl14 hpl15
        refine hK.out _ _ (hKP.out _ HQ.out) (fun hS' => ?_)
        clear hK K hS
        have hS := hS'
        clear hS'
        (try simp only [Act.put, List.setIfInBounds_toArray, List.set_cons_zero, List.set_cons_succ])
        revert hS; revert hlo15; revert hlo14; revert HQ; revert ZR; revert ZG; revert ga15; revert ga14; revert wp4
        exact K12.out
       exact AllReadyH.nil
      ·skip
       intro Wm ga15 ZG HQ hlo15 hS
       refine rd1 (rs := [5, 14]) (h := ?_)
       refine cs1 (h := fun K hK => ?_) (hs := ?_)
       ·skip
        have hpre := hid (show W0.heap.size ≤ Wm.heap.size from HQ.out.size)
        have hpl15 := hid ZG.out.lt
        go_simp
        refine (lpick_any 0 _).mono ?_
        rintro e wp5 ⟨rfl, hb⟩
        replace ZG := hid (ZG.out.step hb); replace HQ := hid (below_then HQ.out hb)
        clear hb
        go_wp2_with fail
        clear hpre hpl15
        refine hK.out _ _ (hKP.out _ HQ.out) (fun hS' => ?_)
        clear hK K hS
        have hS := hS'
        clear hS'
        (try simp only [Act.put, List.setIfInBounds_toArray, List.set_cons_zero, List.set_cons_succ])
        revert hS; revert hlo15; revert HQ; revert ZG; revert ga15; revert wp5
        exact K11.out
       refine cs1 (h := fun K hK => ?_) (hs := ?_)
       ·skip
        have hpre := hid (show W0.heap.size ≤ Wm.heap.size from HQ.out.size)
        go_simp
        refine named_alloc ?_
        intro Wa14 hbk hb hsz
        replace ZG := hid (ZG.out.step hb); replace HQ := hid (below_then HQ.out hb)
        obtain ⟨ga14, hga⟩ : ∃ g, g = Wm.heap.size := ⟨_, rfl⟩
        rw [← hga] at hbk ⊢
        have hlo14 := hid (show W0.heap.size ≤ ga14 by have := hpre.out; omega)
        have ZR := hid hbk
        clear hb hbk hsz hga hpre
        refine hK.out _ _ (hKP.out _ HQ.out) (fun hS' => ?_)
        clear hK K hS
        have hS := hS'
        clear hS'
        (try simp only [Act.put, List.setIfInBounds_toArray, List.set_cons_zero, List.set_cons_succ])
        revert hS; revert hlo15; revert hlo14; revert HQ; revert ZR; revert ZG; revert ga15; revert ga14; revert Wa14
        exact K12.out
       exact AllReadyH.nil
      ·skip
       intro Wm ga14 ZR HQ hlo14 hS
       refine rd1 (rs := [5, 15]) (h := ?_)
       refine cs1 (h := fun K hK => ?_) (hs := ?_)
       ·skip
        have hpre := hid (show W0.heap.size ≤ Wm.heap.size from HQ.out.size)
        have hpl14 := hid ZR.out.lt
        go_simp
        refine (lpick_any 0 _).mono ?_
        rintro e wp5 ⟨rfl, hb⟩
        replace ZR := hid (ZR.out.step hb); replace HQ := hid (below_then HQ.out hb)
        clear hb
        go_wp2_with fail
        clear hpre hpl14
        refine hK.out _ _ (hKP.out _ HQ.out) (fun hS' => ?_)
        clear hK K hS
        have hS := hS'
        clear hS'
        (try simp only [Act.put, List.setIfInBounds_toArray, List.set_cons_zero, List.set_cons_succ])
        revert hS; revert hlo14; revert HQ; revert ZR; revert ga14; revert wp5
        exact K10.out
       refine cs1 (h := fun K hK => ?_) (hs := ?_)
       ·skip
        have hpre := hid (show W0.heap.size ≤ Wm.heap.size from HQ.out.size)
        go_simp
        refine named_alloc ?_
        intro Wa15 hbk hb hsz
        replace ZR := hid (ZR.out.step hb); replace HQ := hid (below_then HQ.out hb)
        obtain ⟨ga15, hga⟩ : ∃ g, g = Wm.heap.size := ⟨_, rfl⟩
        rw [← hga] at hbk ⊢
        have hlo15 := hid (show W0.heap.size ≤ ga15 by have := hpre.out; omega)
        have ZG := hid hbk
        clear hb hbk hsz hga hpre
        refine hK.out _ _ (hKP.out _ HQ.out) (fun hS' => ?_)
        clear hK K hS
        have hS := hS'
        clear hS'
        (try simp only [Act.put, List.setIfInBounds_toArray, List.set_cons_zero, List.set_cons_succ])
        revert hS; revert hlo15; revert hlo14; revert HQ; revert ZR; revert ZG; revert ga15; revert ga14; revert Wa15
        exact K12.out
       exact AllReadyH.nil
      ·skip
       intro Wm ga14 ga15 ZG ZR HQ hlo14 hlo15 hS
       refine rd1 (rs := [5]) (h := ?_)
       refine cs1 (h := fun K hK => ?_) (hs := ?_)
       ·skip
        have hpre := hid (show W0.heap.size ≤ Wm.heap.size from HQ.out.size)
        have hpl14 := hid ZR.out.lt
        have hpl15 := hid ZG.out.lt
        go_simp
        refine (lpick_any 0 _).mono ?_
        rintro e wp5 ⟨rfl, hb⟩
        replace ZG := hid (ZG.out.step hb); replace ZR := hid (ZR.out.step hb); replace HQ := hid (below_then HQ.out hb)
        clear hb
        go_wp2_with fail
        clear hpre hpl14 hpl15
        refine hK.out _ _ (hKP.out _ HQ.out) (fun hS' => ?_)
        clear hK K hS
        have hS := hS'
        clear hS'
        (try simp only [Act.put, List.setIfInBounds_toArray, List.set_cons_zero, List.set_cons_succ])
        revert hS; revert hlo15; revert hlo14; revert HQ; revert ZR; revert ZG; revert ga15; revert ga14; revert wp5
        exact K9.out
       exact AllReadyH.nil
      ·skip
       intro Wm ga15 ZG HQ hlo15 hS
       refine rd1 (rs := [6, 14]) (h := ?_)
       refine cs1 (h := fun K hK => ?_) (hs := ?_)
       ·skip
        have hpre := hid (show W0.heap.size ≤ Wm.heap.size from HQ.out.size)
        have hpl15 := hid ZG.out.lt
        go_simp
        refine (lpick_any 1 _).mono ?_
        rintro e wp6 ⟨rfl, hb⟩
        replace ZG := hid (ZG.out.step hb); replace HQ := hid (below_then HQ.out hb)
        clear hb
        go_wp2_with fail
        clear hpre hpl15
        refine hK.out _ _ (hKP.out _ HQ.out) (fun hS' => ?_)
        clear hK K hS
        have hS := hS'
        clear hS'
        (try simp only [Act.put, List.setIfInBounds_toArray, List.set_cons_zero, List.set_cons_succ])
        revert hS; revert hlo15; revert HQ; revert ZG; revert ga15; revert wp6
        exact K8.out
       refine cs1 (h := fun K hK => ?_) (hs := ?_)
       ·skip
        have hpre := hid (show W0.heap.size ≤ Wm.heap.size from HQ.out.size)
        go_simp
        refine named_alloc ?_
        intro Wa14 hbk hb hsz
        replace ZG := hid (ZG.out.step hb); replace HQ := hid (below_then HQ.out hb)
        obtain ⟨ga14, hga⟩ : ∃ g, g = Wm.heap.size := ⟨_, rfl⟩
        rw [← hga] at hbk ⊢
        have hlo14 := hid (show W0.heap.size ≤ ga14 by have := hpre.out; omega)
        have ZR := hid hbk
        clear hb hbk hsz hga hpre
        refine hK.out _ _ (hKP.out _ HQ.out) (fun hS' => ?_)
        clear hK K hS
        have hS := hS'
        clear hS'
        (try simp only [Act.put, List.setIfInBounds_toArray, List.set_cons_zero, List.set_cons_succ])
        revert hS; revert hlo15; revert hlo14; revert HQ; revert ZR; revert ZG; revert ga15; revert ga14; revert Wa14
        exact K9.out
       exact AllReadyH.nil
      ·skip
       intro Wm ga14 ZR HQ hlo14 hS
       refine rd1 (rs := [6, 15]) (h := ?_)
       refine cs1 (h := fun K hK => ?_) (hs := ?_)
       ·skip
        have hpre := hid (show W0.heap.size ≤ Wm.heap.size from HQ.out.size)
        have hpl14 := hid ZR.out.lt
        go_simp
        refine (lpick_any 1 _).mono ?_
        rintro e wp6 ⟨rfl, hb⟩
        replace ZR := hid (ZR.out.step hb); replace HQ := hid (below_then HQ.out hb)
        clear hb
        go_wp2_with fail
        clear hpre hpl14
        refine hK.out _ _ (hKP.out _ HQ.out) (fun hS' => ?_)
        clear hK K hS
        have hS := hS'
        clear hS'
        (try simp only [Act.put, List.setIfInBounds_toArray, List.set_cons_zero, List.set_cons_succ])
        revert hS; revert hlo14; revert HQ; revert ZR; revert ga14; revert wp6
        exact K7.out
       refine cs1 (h := fun K hK => ?_) (hs := ?_)
       ·skip
        have hpre := hid (show W0.heap.size ≤ Wm.heap.size from HQ.out.size)
        go_simp
        refine named_alloc ?_
        intro Wa15 hbk hb hsz
        replace ZR := hid (ZR.out.step hb); replace HQ := hid (below_then HQ.out hb)
        obtain ⟨ga15, hga⟩ : ∃ g, g = Wm.heap.size := ⟨_, rfl⟩
        rw [← hga] at hbk ⊢
        have hlo15 := hid (show W0.heap.size ≤ ga15 by have := hpre.out; omega)
        have ZG := hid hbk
        clear hb hbk hsz hga hpre
        refine hK.out _ _ (hKP.out _ HQ.out) (fun hS' => ?_)
        clear hK K hS
        have hS := hS'
        clear hS'
        (try simp only [Act.put, List.setIfInBounds_toArray, List.set_cons_zero, List.set_cons_succ])
        revert hS; revert hlo15; revert hlo14; revert HQ; revert ZR; revert ZG; revert ga15; revert ga14; revert Wa15
        exact K9.out
       exact AllReadyH.nil
      ·skip
       intro Wm ga14 ga15 ZG ZR HQ hlo14 hlo15 hS
       refine rd1 (rs := [6]) (h := ?_)
       refine cs1 (h := fun K hK => ?_) (hs := ?_)
       ·skip
        have hpre := hid (show W0.heap.size ≤ Wm.heap.size from HQ.out.size)
        have hpl14 := hid ZR.out.lt
        have hpl15 := hid ZG.out.lt
        go_simp
        refine (lpick_any 1 _).mono ?_
        rintro e wp6 ⟨rfl, hb⟩
        replace ZG := hid (ZG.out.step hb); replace ZR := hid (ZR.out.step hb); replace HQ := hid (below_then HQ.out hb)
        clear hb
        go_wp2_with fail
        clear hpre hpl14 hpl15
        refine hK.out _ _ (hKP.out _ HQ.out) (fun hS' => ?_)
        clear hK K hS
        have hS := hS'
        clear hS'
        (try simp only [Act.put, List.setIfInBounds_toArray, List.set_cons_zero, List.set_cons_succ])
        revert hS; revert hlo15; revert hlo14; revert HQ; revert ZR; revert ZG; revert ga15; revert ga14; revert wp6
        exact K6.out
       exact AllReadyH.nil
      ·skip
       intro Wm ga15 ZG HQ hlo15 hS
       refine rd1 (rs := [7, 14]) (h := ?_)
       refine cs1 (h := fun K hK => ?_) (hs := ?_)
       ·skip
        have hpre := hid (show W0.heap.size ≤ Wm.heap.size from HQ.out.size)
        go_simp
        refine named_alloc ?_
        intro Wa7 hbk hb hsz
        replace ZG := hid (ZG.out.step hb); replace HQ := hid (below_then HQ.out hb)
        obtain ⟨ga7, hga⟩ : ∃ g, g = Wm.heap.size := ⟨_, rfl⟩
        rw [← hga] at hbk ⊢
        have hlo7 := hid (show W0.heap.size ≤ ga7 by have := hpre.out; omega)
        have PT := hid hbk
        clear hb hbk hsz hga hpre
        refine hK.out _ _ (hKP.out _ HQ.out) (fun hS' => ?_)
        clear hK K hS
        have hS := hS'
        clear hS'
        (try simp only [Act.put, List.setIfInBounds_toArray, List.set_cons_zero, List.set_cons_succ])
        revert hS; revert hlo15; revert hlo7; revert HQ; revert ZG; revert PT; revert ga15; revert ga7; revert Wa7
        exact K5.out
       refine cs1 (h := fun K hK => ?_) (hs := ?_)
       ·skip
        have hpre := hid (show W0.heap.size ≤ Wm.heap.size from HQ.out.size)
        go_simp
        refine named_alloc ?_
        intro Wa14 hbk hb hsz
        replace ZG := hid (ZG.out.step hb); replace HQ := hid (below_then HQ.out hb)
        obtain ⟨ga14, hga⟩ : ∃ g, g = Wm.heap.size := ⟨_, rfl⟩
        rw [← hga] at hbk ⊢
        have hlo14 := hid (show W0.heap.size ≤ ga14 by have := hpre.out; omega)
        have ZR := hid hbk
        clear hb hbk hsz hga hpre
        refine hK.out _ _ (hKP.out _ HQ.out) (fun hS' => ?_)
        clear hK K hS
        have hS := hS'
        clear hS'
        (try simp only [Act.put, List.setIfInBounds_toArray, List.set_cons_zero, List.set_cons_succ])
        revert hS; revert hlo15; revert hlo14; revert HQ; revert ZR; revert ZG; revert ga15; revert ga14; revert Wa14
        exact K6.out
       exact AllReadyH.nil
      ·skip
       intro Wm ga14 ZR HQ hlo14 hS
       refine rd1 (rs := [7, 15]) (h := ?_)
       refine cs1 (h := fun K hK => ?_) (hs := ?_)
       ·skip
        have hpre := hid (show W0.heap.size ≤ Wm.heap.size from HQ.out.size)
        go_simp
        refine named_alloc ?_
        intro Wa7 hbk hb hsz
        replace ZR := hid (ZR.out.step hb); replace HQ := hid (below_then HQ.out hb)
        obtain ⟨ga7, hga⟩ : ∃ g, g = Wm.heap.size := ⟨_, rfl⟩
        rw [← hga] at hbk ⊢
        have hlo7 := hid (show W0.heap.size ≤ ga7 by have := hpre.out; omega)
        have PT := hid hbk
        clear hb hbk hsz hga hpre
        refine hK.out _ _ (hKP.out _ HQ.out) (fun hS' => ?_)
        clear hK K hS
        have hS := hS'
        clear hS'
        (try simp only [Act.put, List.setIfInBounds_toArray, List.set_cons_zero, List.set_cons_succ])
        revert hS; revert hlo14; revert hlo7; revert HQ; revert ZR; revert PT; revert ga14; revert ga7; revert Wa7
        exact K4.out
       refine cs1 (h := fun K hK => ?_) (hs := ?_)
       ·skip
        have hpre := hid (show W0.heap.size ≤ Wm.heap.size from HQ.out.size)
        go_simp
        refine named_alloc ?_
        intro Wa15 hbk hb hsz
        replace ZR := hid (ZR.out.step hb); replace HQ := hid (below_then HQ.out hb)
        obtain ⟨ga15, hga⟩ : ∃ g, g = Wm.heap.size := ⟨_, rfl⟩
        rw [← hga] at hbk ⊢
        have hlo15 := hid (show W0.heap.size ≤ ga15 by have := hpre.out; omega)
        have ZG := hid hbk
        clear hb hbk hsz hga hpre
        refine hK.out _ _ (hKP.out _ HQ.out) (fun hS' => ?_)
        clear hK K hS
        have hS := hS'
        clear hS'
        (try simp only [Act.put, List.setIfInBounds_toArray, List.set_cons_zero, List.set_cons_succ])
        revert hS; revert hlo15; revert hlo14; revert HQ; revert ZR; revert ZG; revert ga15; revert ga14; revert Wa15
        exact K6.out
       exact AllReadyH.nil
      ·skip
       intro Wm ga14 ga15 ZG ZR HQ hlo14 hlo15 hS
       refine rd1 (rs := [7]) (h := ?_)
       refine cs1 (h := fun K hK => ?_) (hs := ?_)
       ·skip
        have hpre := hid (show W0.heap.size ≤ Wm.heap.size from HQ.out.size)
        go_simp
        refine named_alloc ?_
        intro Wa7 hbk hb hsz
        replace ZG := hid (ZG.out.step hb); replace ZR := hid (ZR.out.step hb); replace HQ := hid (below_then HQ.out hb)
        obtain ⟨ga7, hga⟩ : ∃ g, g = Wm.heap.size := ⟨_, rfl⟩
        rw [← hga] at hbk ⊢
        have hlo7 := hid (show W0.heap.size ≤ ga7 by have := hpre.out; omega)
        have PT := hid hbk
        clear hb hbk hsz hga hpre
        refine hK.out _ _ (hKP.out _ HQ.out) (fun hS' => ?_)
        clear hK K hS
        have hS := hS'
        clear hS'
        (try simp only [Act.put, List.setIfInBounds_toArray, List.set_cons_zero, List.set_cons_succ])
        revert hS; revert hlo15; revert hlo14; revert hlo7; revert HQ; revert ZR; revert ZG; revert PT; revert ga15; revert ga14; revert ga7; revert Wa7
        exact K3.out
       exact AllReadyH.nil
      ·skip
       intro Wm ga7 ga15 PT ZG HQ hlo7 hlo15 hS
       refine rd1 (rs := [8, 14]) (h := ?_)
       refine cs1 (h := fun K hK => ?_) (hs := ?_)
       ·skip
        have hpre := hid (show W0.heap.size ≤ Wm.heap.size from HQ.out.size)
        have hpl7 := hid PT.out.lt
        have hpl15 := hid ZG.out.lt
        go_simp
        refine (play_wk1 A B D (some ⟨ga7, 0, none⟩) 5 _ (XRO.out.step HQ.out) (XDO.out.step HQ.out) (PT.out.smT (xs := [(1, 1), (3, 0), (4, 0), (4, 0), (4, 1)]) rfl (by intro k hk j hj; have hk' : k < 5 := hk; have hj' : j < 2 := hj; match k, hk', j, hj' with | 0, _, 0, _ => rfl | 0, _, 1, _ => rfl | 1, _, 0, _ => rfl | 1, _, 1, _ => rfl | 2, _, 0, _ => rfl | 2, _, 1, _ => rfl | 3, _, 0, _ => rfl | 3, _, 1, _ => rfl | 4, _, 0, _ => rfl | 4, _, 1, _ => rfl))).mono ?_
        rintro e wpl ⟨now, A9, n9, k9, B9, m9, d9, D9, kd9, E9, ke9, rfl, dq, eq, hb⟩
        replace PT := hid (PT.out.step hb); replace ZG := hid (ZG.out.step hb); replace HQ := hid (below_then HQ.out hb)
        clear hb
        have DQ := hid (dq.mono (show W0.heap.size ≤ _ by have := HQ.out.size; have := hpre.out; have := hpl7.out; have := hpl15.out; have := hlo7.out; have := PT.out.lt; have := hlo15.out; have := ZG.out.lt; omega)); have EQ := hid (eq.mono (show W0.heap.size ≤ _ by have := HQ.out.size; have := hpre.out; have := hpl7.out; have := hpl15.out; have := hlo7.out; have := PT.out.lt; have := hlo15.out; have := ZG.out.lt; omega))
        clear dq eq
        go_wp2_with fail
        clear hpre hpl7 hpl15
        refine hK.out _ _ (hKP.out _ HQ.out) (fun hS' => ?_)
        clear hK K hS
        have hS := hS'
        clear hS'
        (try simp only [Act.put, List.setIfInBounds_toArray, List.set_cons_zero, List.set_cons_succ])
        refine tk1 (i := 9) (v := ?_) (hy := Or.inl ⟨by rfl, ?_⟩) (hS := hS) (h := ?_)
        rotate_left
        · intro w' hSw; (try dsimp only at hSw); go_split_ands; go_simp; (try with_reducible rfl)
        (try simp only [Act.put, List.setIfInBounds_toArray, List.set_cons_zero, List.set_cons_succ])
        refine tk1 (i := 10) (v := ?_) (hy := Or.inl ⟨by rfl, ?_⟩) (hS := hS) (h := ?_)
        rotate_left
        · intro w' hSw; (try dsimp only at hSw); go_split_ands; go_simp; (try with_reducible rfl)
        (try simp only [Act.put, List.setIfInBounds_toArray, List.set_cons_zero, List.set_cons_succ])
        refine tk1 (i := 11) (v := ?_) (hy := Or.inl ⟨by rfl, ?_⟩) (hS := hS) (h := ?_)
        rotate_left
        · intro w' hSw; (try dsimp only at hSw); go_split_ands; go_simp; (try with_reducible rfl)
        (try simp only [Act.put, List.setIfInBounds_toArray, List.set_cons_zero, List.set_cons_succ])
        refine tk1 (i := 12) (v := ?_) (hy := Or.inl ⟨by rfl, ?_⟩) (hS := hS) (h := ?_)
        rotate_left
        · intro w' hSw; (try dsimp only at hSw); go_split_ands; go_simp; (try with_reducible rfl)
        (try simp only [Act.put, List.setIfInBounds_toArray, List.set_cons_zero, List.set_cons_succ])
        refine tk1 (i := 13) (v := ?_) (hy := Or.inl ⟨by rfl, ?_⟩) (hS := hS) (h := ?_)
        rotate_left
        · intro w' hSw; (try dsimp only at hSw); go_split_ands; go_simp; (try with_reducible rfl)
        (try simp only [Act.put, List.setIfInBounds_toArray, List.set_cons_zero, List.set_cons_succ])
        revert hS; revert hlo15; revert hlo7; revert HQ; revert ZG; revert PT; revert EQ; revert DQ; revert ga15; revert ke9; revert E9; revert kd9; revert D9; revert d9; revert m9; revert B9; revert k9; revert n9; revert A9; revert now; revert ga7; revert wpl
        exact K2.out
       refine cs1 (h := fun K hK => ?_) (hs := ?_)
       ·skip
        have hpre := hid (show W0.heap.size ≤ Wm.heap.size from HQ.out.size)
        go_simp
        refine named_alloc ?_
        intro Wa14 hbk hb hsz
        replace PT := hid (PT.out.step hb); replace ZG := hid (ZG.out.step hb); replace HQ := hid (below_then HQ.out hb)
        obtain ⟨ga14, hga⟩ : ∃ g, g = Wm.heap.size := ⟨_, rfl⟩
        rw [← hga] at hbk ⊢
        have hlo14 := hid (show W0.heap.size ≤ ga14 by have := hpre.out; omega)
        have ZR := hid hbk
        clear hb hbk hsz hga hpre
        refine hK.out _ _ (hKP.out _ HQ.out) (fun hS' => ?_)
        clear hK K hS
        have hS := hS'
        clear hS'
        (try simp only [Act.put, List.setIfInBounds_toArray, List.set_cons_zero, List.set_cons_succ])
        revert hS; revert hlo15; revert hlo14; revert hlo7; revert HQ; revert ZR; revert ZG; revert PT; revert ga15; revert ga14; revert ga7; revert Wa14
        exact K3.out
       exact AllReadyH.nil
      ·skip
       intro Wm ga7 ga14 PT ZR HQ hlo7 hlo14 hS
       refine rd1 (rs := [8, 15]) (h := ?_)
       refine cs1 (h := fun K hK => ?_) (hs := ?_)
       ·skip
        have hpre := hid (show W0.heap.size ≤ Wm.heap.size from HQ.out.size)
        have hpl7 := hid PT.out.lt
        have hpl14 := hid ZR.out.lt
        go_simp
        refine (play_wk1 A B D (some ⟨ga7, 0, none⟩) 5 _ (XRO.out.step HQ.out) (XDO.out.step HQ.out) (PT.out.smT (xs := [(1, 1), (3, 0), (4, 0), (4, 0), (4, 1)]) rfl (by intro k hk j hj; have hk' : k < 5 := hk; have hj' : j < 2 := hj; match k, hk', j, hj' with | 0, _, 0, _ => rfl | 0, _, 1, _ => rfl | 1, _, 0, _ => rfl | 1, _, 1, _ => rfl | 2, _, 0, _ => rfl | 2, _, 1, _ => rfl | 3, _, 0, _ => rfl | 3, _, 1, _ => rfl | 4, _, 0, _ => rfl | 4, _, 1, _ => rfl))).mono ?_
        rintro e wpl ⟨now, A9, n9, k9, B9, m9, d9, D9, kd9, E9, ke9, rfl, dq, eq, hb⟩
        replace PT := hid (PT.out.step hb); replace ZR := hid (ZR.out.step hb); replace HQ := hid (below_then HQ.out hb)
        clear hb
        have DQ := hid (dq.mono (show W0.heap.size ≤ _ by have := HQ.out.size; have := hpre.out; have := hpl7.out; have := hpl14.out; have := hlo7.out; have := PT.out.lt; have := hlo14.out; have := ZR.out.lt; omega)); have EQ := hid (eq.mono (show W0.heap.size ≤ _ by have := HQ.out.size; have := hpre.out; have := hpl7.out; have := hpl14.out; have := hlo7.out; have := PT.out.lt; have := hlo14.out; have := ZR.out.lt; omega))
        clear dq eq
        go_wp2_with fail
        clear hpre hpl7 hpl14
        refine hK.out _ _ (hKP.out _ HQ.out) (fun hS' => ?_)
        clear hK K hS
        have hS := hS'
        clear hS'
        (try simp only [Act.put, List.setIfInBounds_toArray, List.set_cons_zero, List.set_cons_succ])
        refine tk1 (i := 9) (v := ?_) (hy := Or.inl ⟨by rfl, ?_⟩) (hS := hS) (h := ?_)
        rotate_left
        · intro w' hSw; (try dsimp only at hSw); go_split_ands; go_simp; (try with_reducible rfl)
        (try simp only [Act.put, List.setIfInBounds_toArray, List.set_cons_zero, List.set_cons_succ])
        refine tk1 (i := 10) (v := ?_) (hy := Or.inl ⟨by rfl, ?_⟩) (hS := hS) (h := ?_)
        rotate_left
        · intro w' hSw; (try dsimp only at hSw); go_split_ands; go_simp; (try with_reducible rfl)
        (try simp only [Act.put, List.setIfInBounds_toArray, List.set_cons_zero, List.set_cons_succ])
        refine tk1 (i := 11) (v := ?_) (hy := Or.inl ⟨by rfl, ?_⟩) (hS := hS) (h := ?_)
        rotate_left
        · intro w' hSw; (try dsimp only at hSw); go_split_ands; go_simp; (try with_reducible rfl)
        (try simp only [Act.put, List.setIfInBounds_toArray, List.set_cons_zero, List.set_cons_succ])
        refine tk1 (i := 12) (v := ?_) (hy := Or.inl ⟨by rfl, ?_⟩) (hS := hS) (h := ?_)
        rotate_left
        · intro w' hSw; (try dsimp only at hSw); go_split_ands; go_simp; (try with_reducible rfl)
        (try simp only [Act.put, List.setIfInBounds_toArray, List.set_cons_zero, List.set_cons_succ])
        refine tk1 (i := 13) (v := ?_) (hy := Or.inl ⟨by rfl, ?_⟩) (hS := hS) (h := ?_)
        rotate_left
        · intro w' hSw; (try dsimp only at hSw); go_split_ands; go_simp; (try with_reducible rfl)
        (try simp only [Act.put, List.setIfInBounds_toArray, List.set_cons_zero, List.set_cons_succ])
        revert hS; revert hlo14; revert hlo7; revert HQ; revert ZR; revert PT; revert EQ; revert DQ; revert ga14; revert ke9; revert E9; revert kd9; revert D9; revert d9; revert m9; revert B9; revert k9; revert n9; revert A9; revert now; revert ga7; revert wpl
        exact K1.out
       refine cs1 (h := fun K hK => ?_) (hs := ?_)
       ·skip
        have hpre := hid (show W0.heap.size ≤ Wm.heap.size from HQ.out.size)
        go_simp
        refine named_alloc ?_
        intro Wa15 hbk hb hsz
        replace PT := hid (PT.out.step hb); replace ZR := hid (ZR.out.step hb); replace HQ := hid (below_then HQ.out hb)
        obtain ⟨ga15, hga⟩ : ∃ g, g = Wm.heap.size := ⟨_, rfl⟩
        rw [← hga] at hbk ⊢
        have hlo15 := hid (show W0.heap.size ≤ ga15 by have := hpre.out; omega)
        have ZG := hid hbk
        clear hb hbk hsz hga hpre
        refine hK.out _ _ (hKP.out _ HQ.out) (fun hS' => ?_)
        clear hK K hS
        have hS := hS'
        clear hS'
        (try simp only [Act.put, List.setIfInBounds_toArray, List.set_cons_zero, List.set_cons_succ])
        revert hS; revert hlo15; revert hlo14; revert hlo7; revert HQ; revert ZR; revert ZG; revert PT; revert ga15; revert ga14; revert ga7; revert Wa15
        exact K3.out
       exact AllReadyH.nil
      ·skip
       intro Wm ga7 ga14 ga15 PT ZG ZR HQ hlo7 hlo14 hlo15 hS
       refine rd1 (rs := [8]) (h := ?_)
       refine cs1 (h := fun K hK => ?_) (hs := ?_)
       ·skip
        have hpre := hid (show W0.heap.size ≤ Wm.heap.size from HQ.out.size)
        have hpl7 := hid PT.out.lt
        have hpl14 := hid ZR.out.lt
        have hpl15 := hid ZG.out.lt
        go_simp
        refine (play_wk1 A B D (some ⟨ga7, 0, none⟩) 5 _ (XRO.out.step HQ.out) (XDO.out.step HQ.out) (PT.out.smT (xs := [(1, 1), (3, 0), (4, 0), (4, 0), (4, 1)]) rfl (by intro k hk j hj; have hk' : k < 5 := hk; have hj' : j < 2 := hj; match k, hk', j, hj' with | 0, _, 0, _ => rfl | 0, _, 1, _ => rfl | 1, _, 0, _ => rfl | 1, _, 1, _ => rfl | 2, _, 0, _ => rfl | 2, _, 1, _ => rfl | 3, _, 0, _ => rfl | 3, _, 1, _ => rfl | 4, _, 0, _ => rfl | 4, _, 1, _ => rfl))).mono ?_
        rintro e wpl ⟨now, A9, n9, k9, B9, m9, d9, D9, kd9, E9, ke9, rfl, dq, eq, hb⟩
        replace PT := hid (PT.out.step hb); replace ZG := hid (ZG.out.step hb); replace ZR := hid (ZR.out.step hb); replace HQ := hid (below_then HQ.out hb)
        clear hb
        have DQ := hid (dq.mono (show W0.heap.size ≤ _ by have := HQ.out.size; have := hpre.out; have := hpl7.out; have := hpl14.out; have := hpl15.out; have := hlo7.out; have := PT.out.lt; have := hlo14.out; have := ZR.out.lt; have := hlo15.out; have := ZG.out.lt; omega)); have EQ := hid (eq.mono (show W0.heap.size ≤ _ by have := HQ.out.size; have := hpre.out; have := hpl7.out; have := hpl14.out; have := hpl15.out; have := hlo7.out; have := PT.out.lt; have := hlo14.out; have := ZR.out.lt; have := hlo15.out; have := ZG.out.lt; omega))
        clear dq eq
        go_wp2_with fail
        clear hpre hpl7 hpl14 hpl15
        refine hK.out _ _ (hKP.out _ HQ.out) (fun hS' => ?_)
        clear hK K hS
        have hS := hS'
        clear hS'
        (try simp only [Act.put, List.setIfInBounds_toArray, List.set_cons_zero, List.set_cons_succ])
        refine tk1 (i := 9) (v := ?_) (hy := Or.inl ⟨by rfl, ?_⟩) (hS := hS) (h := ?_)
        rotate_left
        · intro w' hSw; (try dsimp only at hSw); go_split_ands; go_simp; (try with_reducible rfl)
        (try simp only [Act.put, List.setIfInBounds_toArray, List.set_cons_zero, List.set_cons_succ])
        refine tk1 (i := 10) (v := ?_) (hy := Or.inl ⟨by rfl, ?_⟩) (hS := hS) (h := ?_)
        rotate_left
        · intro w' hSw; (try dsimp only at hSw); go_split_ands; go_simp; (try with_reducible rfl)
        (try simp only [Act.put, List.setIfInBounds_toArray, List.set_cons_zero, List.set_cons_succ])
        refine tk1 (i := 11) (v := ?_) (hy := Or.inl ⟨by rfl, ?_⟩) (hS := hS) (h := ?_)
        rotate_left
        · intro w' hSw; (try dsimp only at hSw); go_split_ands; go_simp; (try with_reducible rfl)
        (try simp only [Act.put, List.setIfInBounds_toArray, List.set_cons_zero, List.set_cons_succ])
        refine tk1 (i := 12) (v := ?_) (hy := Or.inl ⟨by rfl, ?_⟩) (hS := hS) (h := ?_)
        rotate_left
        · intro w' hSw; (try dsimp only at hSw); go_split_ands; go_simp; (try with_reducible rfl)
        (try simp only [Act.put, List.setIfInBounds_toArray, List.set_cons_zero, List.set_cons_succ])
        refine tk1 (i := 13) (v := ?_) (hy := Or.inl ⟨by rfl, ?_⟩) (hS := hS) (h := ?_)
        rotate_left
        · intro w' hSw; (try dsimp only at hSw); go_split_ands; go_simp; (try with_reducible rfl)
        (try simp only [Act.put, List.setIfInBounds_toArray, List.set_cons_zero, List.set_cons_succ])
        revert hS; revert hlo15; revert hlo14; revert hlo7; revert HQ; revert ZR; revert ZG; revert PT; revert EQ; revert DQ; revert ga15; revert ga14; revert ke9; revert E9; revert kd9; revert D9; revert d9; revert m9; revert B9; revert k9; revert n9; revert A9; revert now; revert ga7; revert wpl
        exact K0.out
       exact AllReadyH.nil
      ·skip
       intro Wm ga7 now A9 n9 k9 B9 m9 d9 D9 kd9 E9 ke9 ga15 DQ EQ PT ZG HQ hlo7 hlo15 hS
       refine rd1 (rs := [14]) (h := ?_)
       refine cs1 (h := fun K hK => ?_) (hs := ?_)
       ·skip
        have hpre := hid (show W0.heap.size ≤ Wm.heap.size from HQ.out.size)
        go_simp
        refine named_alloc ?_
        intro Wa14 hbk hb hsz
        replace DQ := hid (DQ.out.step hb); replace EQ := hid (EQ.out.step hb); replace PT := hid (PT.out.step hb); replace ZG := hid (ZG.out.step hb); replace HQ := hid (below_then HQ.out hb)
        obtain ⟨ga14, hga⟩ : ∃ g, g = Wm.heap.size := ⟨_, rfl⟩
        rw [← hga] at hbk ⊢
        have hlo14 := hid (show W0.heap.size ≤ ga14 by have := hpre.out; omega)
        have ZR := hid hbk
        clear hb hbk hsz hga hpre
        refine hK.out _ _ (hKP.out _ HQ.out) (fun hS' => ?_)
        clear hK K hS
        have hS := hS'
        clear hS'
        (try simp only [Act.put, List.setIfInBounds_toArray, List.set_cons_zero, List.set_cons_succ])
        revert hS; revert hlo15; revert hlo14; revert hlo7; revert HQ; revert ZR; revert ZG; revert PT; revert EQ; revert DQ; revert ga15; revert ga14; revert ke9; revert E9; revert kd9; revert D9; revert d9; revert m9; revert B9; revert k9; revert n9; revert A9; revert now; revert ga7; revert Wa14
        exact K0.out
       exact AllReadyH.nil
      ·skip
       intro Wm ga7 now A9 n9 k9 B9 m9 d9 D9 kd9 E9 ke9 ga14 DQ EQ PT ZR HQ hlo7 hlo14 hS
       refine rd1 (rs := [15]) (h := ?_)
       refine cs1 (h := fun K hK => ?_) (hs := ?_)
       ·skip
        have hpre := hid (show W0.heap.size ≤ Wm.heap.size from HQ.out.size)
        go_simp
        refine named_alloc ?_
        intro Wa15 hbk hb hsz
        replace DQ := hid (DQ.out.step hb); replace EQ := hid (EQ.out.step hb); replace PT := hid (PT.out.step hb); replace ZR := hid (ZR.out.step hb); replace HQ := hid (below_then HQ.out hb)
        obtain ⟨ga15, hga⟩ : ∃ g, g = Wm.heap.size := ⟨_, rfl⟩
        rw [← hga] at hbk ⊢
        have hlo15 := hid (show W0.heap.size ≤ ga15 by have := hpre.out; omega)
        have ZG := hid hbk
        clear hb hbk hsz hga hpre
        refine hK.out _ _ (hKP.out _ HQ.out) (fun hS' => ?_)
        clear hK K hS
        have hS := hS'
        clear hS'
        (try simp only [Act.put, List.setIfInBounds_toArray, List.set_cons_zero, List.set_cons_succ])
        revert hS; revert hlo15; revert hlo14; revert hlo7; revert HQ; revert ZR; revert ZG; revert PT; revert EQ; revert DQ; revert ga15; revert ga14; revert ke9; revert E9; revert kd9; revert D9; revert d9; revert m9; revert B9; revert k9; revert n9; revert A9; revert now; revert ga7; revert Wa15
        exact K0.out
       exact AllReadyH.nil
      ·skip
       intro Wm ga7 now A9 n9 k9 B9 m9 d9 D9 kd9 E9 ke9 ga14 ga15 DQ EQ PT ZG ZR HQ hlo7 hlo14 hlo15 hS
       refine rd1 (rs := [16]) (h := ?_)
       refine cs1 (h := fun K hK => ?_) (hs := ?_)
       ·skip
        have hpre := hid (show W0.heap.size ≤ Wm.heap.size from HQ.out.size)
        obtain ⟨y00, y01, y02, yf0⟩ := ZR.out.cells3
        go_simp
        clear y00 y01 y02 yf0
        refine named_store3 ZR.out ?_
        intro Ws16 hbk hgr hsz
        clear hsz
        replace ZG := hid (ZG.out.grown hgr (fun e => ZR.out.neG ZG.out (by decide) (by simpa using e.symm)))
        replace DQ := hid (DQ.out.keptR ZR.out (by decide) hgr)
        replace EQ := hid (EQ.out.keptR ZR.out (by decide) hgr)
        replace HQ := hid (HQ.out.grown hgr HQ.out.size (fun r e => by cases e; have := HQ.out.size; have := hlo7.out; have := PT.out.lt; have := hlo14.out; have := ZR.out.lt; have := hlo15.out; have := ZG.out.lt; omega))
        replace ZR := hid hbk
        clear hbk hgr hpre
        refine hK.out _ _ (hKP.out _ HQ.out) (fun hS' => ?_)
        clear hK K hS
        have hS := hS'
        clear hS'
        (try simp only [Act.put, List.setIfInBounds_toArray, List.set_cons_zero, List.set_cons_succ])
        refine rd1 (rs := [17]) (h := ?_)
        refine cs1 (h := fun K hK => ?_) (hs := ?_)
        ·skip
         have hpre := hid (show W0.heap.size ≤ Ws16.heap.size from HQ.out.size)
         obtain ⟨y00, y01, y02, y03, yf0⟩ := ZG.out.cells4
         go_simp
         clear y00 y01 y02 y03 yf0
         refine named_store4 ZG.out ?_
         intro Ws17 hbk hgr hsz
         clear hsz
         replace ZR := hid (ZR.out.grown hgr (fun e => ZR.out.neG ZG.out (by decide) (by simpa using e)))
         replace DQ := hid (DQ.out.keptR ZG.out (by decide) hgr)
         replace EQ := hid (EQ.out.keptR ZG.out (by decide) hgr)
         replace HQ := hid (HQ.out.grown hgr HQ.out.size (fun r e => by cases e; have := HQ.out.size; have := hlo7.out; have := PT.out.lt; have := hlo14.out; have := ZR.out.lt; have := hlo15.out; have := ZG.out.lt; omega))
         replace ZG := hid hbk
         clear hbk hgr hpre
         refine hK.out _ _ (hKP.out _ HQ.out) (fun hS' => ?_)
         clear hK K hS
         have hS := hS'
         clear hS'
         (try simp only [Act.put, List.setIfInBounds_toArray, List.set_cons_zero, List.set_cons_succ])
         refine tk1 (i := 18) (v := ?_) (hy := Or.inl ⟨by rfl, ?_⟩) (hS := hS) (h := ?_)
         rotate_left
         · intro w' hSw; (try dsimp only at hSw); go_split_ands; go_simp; (try with_reducible rfl)
         (try simp only [Act.put, List.setIfInBounds_toArray, List.set_cons_zero, List.set_cons_succ])
         refine tk1 (i := 19) (v := ?_) (hy := Or.inl ⟨by rfl, ?_⟩) (hS := hS) (h := ?_)
         rotate_left
         · intro w' hSw; (try dsimp only at hSw); go_split_ands; go_simp; (try with_reducible rfl)
         (try simp only [Act.put, List.setIfInBounds_toArray, List.set_cons_zero, List.set_cons_succ])
         refine wpAnyH_done (by kernel_rfl) ?_ _
         refine NoPanic.normal ?_
         clear hS
         go_wp2_with fail
         go_meet
         exact ⟨_, _, _, _, rfl, rfl, rfl, rfl, ⟨⟨_, _, ZG.out, DQ.out⟩, EQ.out, HQ.out, by have := HQ.out.size; have := hlo7.out; have := PT.out.lt; have := hlo14.out; have := ZR.out.lt; have := hlo15.out; have := ZG.out.lt; omega⟩⟩
        exact AllReadyH.nil
       exact AllReadyH.nil
  case rest =>
    obtain ⟨g4, g5, E, ke, rfl, rfl, rfl, rfl, ⟨D5, kd5, h1, h2⟩, h3, h4, h5⟩ := hcut
    rename World => W2
    have PH := hid h1; have DH := hid h2; have EL := hid h3; have HL5 := hid h5
    replace HB := hid (below_then HB.out h4)
    replace XP1 := hid (XP1.out.step h4); replace XP2 := hid (XP2.out.step h4); replace XRO := hid (XRO.out.step h4); replace XDO := hid (XDO.out.step h4)
    have HZ2 := hid h4.size
    clear h1 h2 h3 h4 h5 HQ
    have HQ := hid (Below.refl W2.heap.size W2)
    go_upto_region 3 with fail
    go_cut [8, 9, 10, 11] (fun s8 s9 s10 s11 wx => ∃ g8 g9 E2 ke2, s8 = ptr g8 ∧ s9 = ptr g9 ∧ s10 = .slice E2 1 ke2 ∧ s11 = .int .i64 0 ∧ WkG W2 wx g9 E2 ke2 1 1 false [false, false])
    case first =>
        have hKP := hid (show ∀ W' : World, Below W2.heap.size W2 W' → (fun W' : World => W'.cell? ⟨w1.heap.size, 0, none⟩ = some (.int .i64 0) ∧ W'.cell? ⟨w1.heap.size, 1, none⟩ = some (.slice A 2 2) ∧ W'.cell? ⟨w1.heap.size, 2, none⟩ = some (.slice B 2 2) ∧ W'.cell? ⟨(w1.heap.size + 1), 0, none⟩ = some (.int .i64 0) ∧ W'.cell? ⟨(w1.heap.size + 1), 1, none⟩ = some (.int .i64 0) ∧ W'.cell? ⟨(w1.heap.size + 1), 2, none⟩ = some (.bool false) ∧ W'.cell? ⟨(w1.heap.size + 1), 3, none⟩ = some (.slice D 2 2)) W' from fun W' hb => ⟨(XP1.out.step hb).cells3.1, (XP1.out.step hb).cells3.2.1, (XP1.out.step hb).cells3.2.2.1, (XP2.out.step hb).cells4.1, (XP2.out.step hb).cells4.2.1, (XP2.out.step hb).cells4.2.2.1, (XP2.out.step hb).cells4.2.2.2.1⟩)
        refine' merge_by (fun K0 => ?_) ?_
        rotate_left
        refine' merge_by (fun K1 => ?_) ?_
        rotate_left
        refine' merge_by (fun K2 => ?_) ?_
        rotate_left
        refine' merge_by (fun K3 => ?_) ?_
        rotate_left
        refine' merge_by (fun K4 => ?_) ?_
        rotate_left
        refine' merge_by (fun K5 => ?_) ?_
        rotate_left
        refine' merge_by (fun K6 => ?_) ?_
        rotate_left
        refine' merge_by (fun K7 => ?_) ?_
        rotate_left
        refine' merge_by (fun K8 => ?_) ?_
        rotate_left
        refine' merge_by (fun K9 => ?_) ?_
        rotate_left
        refine' merge_by (fun K10 => ?_) ?_
        rotate_left
        refine' merge_by (fun K11 => ?_) ?_
        rotate_left
        refine' merge_by (fun K12 => ?_) ?_
        rotate_left
        refine' merge_by (fun K13 => ?_) ?_
        rotate_left
        refine' merge_by (fun K14 => ?_) ?_
        rotate_left
        refine' merge_by (fun K15 => ?_) ?_
        rotate_left
        ·skip
         have bx := (Below.refl W2.heap.size W2).drew
         replace HQ := hid (below_then HQ.out bx)
         clear bx
         refine wp_region_noPanic ?_
         refine wp_region_held_drew (S := (fun W' : World => W'.cell? ⟨w1.heap.size, 0, none⟩ = some (.int .i64 0) ∧ W'.cell? ⟨w1.heap.size, 1, none⟩ = some (.slice A 2 2) ∧ W'.cell? ⟨w1.heap.size, 2, none⟩ = some (.slice B 2 2) ∧ W'.cell? ⟨(w1.heap.size + 1), 0, none⟩ = some (.int .i64 0) ∧ W'.cell? ⟨(w1.heap.size + 1), 1, none⟩ = some (.int .i64 0) ∧ W'.cell? ⟨(w1.heap.size + 1), 2, none⟩ = some (.bool false) ∧ W'.cell? ⟨(w1.heap.size + 1), 3, none⟩ = some (.slice D 2 2))) (by kernel_rfl) (hKP.out _ HQ.out) (fun hS => ?_)
         generalize W2.drew = Wd at *
         refine tk1 (i := 0) (v := ?_) (hy := Or.inl ⟨by rfl, ?_⟩) (hS := hS) (h := ?_)
         rotate_left
         · intro w' hSw; (try dsimp only at hSw); go_split_ands; go_simp; (try with_reducible rfl)
         (try simp only [Act.put, List.setIfInBounds_toArray, List.set_cons_zero, List.set_cons_succ])
         refine tk1 (i := 1) (v := ?_) (hy := Or.inl ⟨by rfl, ?_⟩) (hS := hS) (h := ?_)
         rotate_left
         · intro w' hSw; (try dsimp only at hSw); go_split_ands; go_simp; (try with_reducible rfl)
         (try simp only [Act.put, List.setIfInBounds_toArray, List.set_cons_zero, List.set_cons_succ])
         refine tk1 (i := 2) (v := ?_) (hy := Or.inl ⟨by rfl, ?_⟩) (hS := hS) (h := ?_)
         rotate_left
         · intro w' hSw; (try dsimp only at hSw); go_split_ands; go_simp; (try with_reducible rfl)
         (try simp only [Act.put, List.setIfInBounds_toArray, List.set_cons_zero, List.set_cons_succ])
         refine rd1 (rs := [3, 13, 14]) (h := ?_)
         refine cs1 (h := fun K hK => ?_) (hs := ?_)
         ·skip
          have hpre := hid (show W2.heap.size ≤ Wd.heap.size from HQ.out.size)
          go_simp
          refine (lpick_any 0 _).mono ?_
          rintro e wp3 ⟨rfl, hb⟩
          replace HQ := hid (below_then HQ.out hb)
          clear hb
          go_wp2_with fail
          clear hpre
          refine hK.out _ _ (hKP.out _ HQ.out) (fun hS' => ?_)
          clear hK K hS
          have hS := hS'
          clear hS'
          (try simp only [Act.put, List.setIfInBounds_toArray, List.set_cons_zero, List.set_cons_succ])
          refine rd1 (rs := [4, 13, 14]) (h := ?_)
          refine cs1 (h := fun K hK => ?_) (hs := ?_)
          ·skip
           have hpre := hid (show W2.heap.size ≤ wp3.heap.size from HQ.out.size)
           go_simp
           refine (lpick_any 0 _).mono ?_
           rintro e wp4 ⟨rfl, hb⟩
           replace HQ := hid (below_then HQ.out hb)
           clear hb
           go_wp2_with fail
           clear hpre
           refine hK.out _ _ (hKP.out _ HQ.out) (fun hS' => ?_)
           clear hK K hS
           have hS := hS'
           clear hS'
           (try simp only [Act.put, List.setIfInBounds_toArray, List.set_cons_zero, List.set_cons_succ])
           refine rd1 (rs := [5, 13, 14]) (h := ?_)
           refine cs1 (h := fun K hK => ?_) (hs := ?_)
           ·skip
            have hpre := hid (show W2.heap.size ≤ wp4.heap.size from HQ.out.size)
            go_simp
            refine (lpick_any 1 _).mono ?_
            rintro e wp5 ⟨rfl, hb⟩
            replace HQ := hid (below_then HQ.out hb)
            clear hb
            go_wp2_with fail
            clear hpre
            refine hK.out _ _ (hKP.out _ HQ.out) (fun hS' => ?_)
            clear hK K hS
            have hS := hS'
            clear hS'
            (try simp only [Act.put, List.setIfInBounds_toArray, List.set_cons_zero, List.set_cons_succ])
            refine rd1 (rs := [6, 13, 14]) (h := ?_)
            refine cs1 (h := fun K hK => ?_) (hs := ?_)
            ·skip
             have hpre := hid (show W2.heap.size ≤ wp5.heap.size from HQ.out.size)
             go_simp
             refine named_alloc ?_
             intro Wa6 hbk hb hsz
             replace HQ := hid (below_then HQ.out hb)
             obtain ⟨ga6, hga⟩ : ∃ g, g = wp5.heap.size := ⟨_, rfl⟩
             rw [← hga] at hbk ⊢
             have hlo6 := hid (show W2.heap.size ≤ ga6 by have := hpre.out; omega)
             have PT := hid hbk
             clear hb hbk hsz hga hpre
             refine hK.out _ _ (hKP.out _ HQ.out) (fun hS' => ?_)
             clear hK K hS
             have hS := hS'
             clear hS'
             (try simp only [Act.put, List.setIfInBounds_toArray, List.set_cons_zero, List.set_cons_succ])
             refine rd1 (rs := [7, 13, 14]) (h := ?_)
             refine cs1 (h := fun K hK => ?_) (hs := ?_)
             ·skip
              have hpre := hid (show W2.heap.size ≤ Wa6.heap.size from HQ.out.size)
              have hpl6 := hid PT.out.lt
              go_simp
              refine (play_wk2 A B D (some ⟨ga6, 0, none⟩) 4 _ (XRO.out.step HQ.out) (XDO.out.step HQ.out) (PT.out.smT (xs := [(3, 0), (4, 0), (4, 0), (4, 1)]) rfl (by intro k hk j hj; have hk' : k < 4 := hk; have hj' : j < 2 := hj; match k, hk', j, hj' with | 0, _, 0, _ => rfl | 0, _, 1, _ => rfl | 1, _, 0, _ => rfl | 1, _, 1, _ => rfl | 2, _, 0, _ => rfl | 2, _, 1, _ => rfl | 3, _, 0, _ => rfl | 3, _, 1, _ => rfl))).mono ?_
              rintro e wpl ⟨now, A9, n9, k9, B9, m9, d9, D9, kd9, E9, ke9, rfl, dq, eq, hb⟩
              replace PT := hid (PT.out.step hb); replace HQ := hid (below_then HQ.out hb)
              clear hb
              have DQ := hid (dq.mono (show W2.heap.size ≤ _ by have := HQ.out.size; have := hpre.out; have := hpl6.out; have := hlo6.out; have := PT.out.lt; omega)); have EQ := hid (eq.mono (show W2.heap.size ≤ _ by have := HQ.out.size; have := hpre.out; have := hpl6.out; have := hlo6.out; have := PT.out.lt; omega))
              clear dq eq
              go_wp2_with fail
              clear hpre hpl6
              refine hK.out _ _ (hKP.out _ HQ.out) (fun hS' => ?_)
              clear hK K hS
              have hS := hS'
              clear hS'
              (try simp only [Act.put, List.setIfInBounds_toArray, List.set_cons_zero, List.set_cons_succ])
              refine tk1 (i := 8) (v := ?_) (hy := Or.inl ⟨by rfl, ?_⟩) (hS := hS) (h := ?_)
              rotate_left
              · intro w' hSw; (try dsimp only at hSw); go_split_ands; go_simp; (try with_reducible rfl)
              (try simp only [Act.put, List.setIfInBounds_toArray, List.set_cons_zero, List.set_cons_succ])
              refine tk1 (i := 9) (v := ?_) (hy := Or.inl ⟨by rfl, ?_⟩) (hS := hS) (h := ?_)
              rotate_left
              · intro w' hSw; (try dsimp only at hSw); go_split_ands; go_simp; (try with_reducible rfl)
              (try simp only [Act.put, List.setIfInBounds_toArray, List.set_cons_zero, List.set_cons_succ])
              refine tk1 (i := 10) (v := ?_) (hy := Or.inl ⟨by rfl, ?_⟩) (hS := hS) (h := ?_)
              rotate_left
              · intro w' hSw; (try dsimp only at hSw); go_split_ands; go_simp; (try with_reducible rfl)
              (try simp only [Act.put, List.setIfInBounds_toArray, List.set_cons_zero, List.set_cons_succ])
              refine tk1 (i := 11) (v := ?_) (hy := Or.inl ⟨by rfl, ?_⟩) (hS := hS) (h := ?_)
              rotate_left
              · intro w' hSw; (try dsimp only at hSw); go_split_ands; go_simp; (try with_reducible rfl)
              (try simp only [Act.put, List.setIfInBounds_toArray, List.set_cons_zero, List.set_cons_succ])
              refine tk1 (i := 12) (v := ?_) (hy := Or.inl ⟨by rfl, ?_⟩) (hS := hS) (h := ?_)
              rotate_left
              · intro w' hSw; (try dsimp only at hSw); go_split_ands; go_simp; (try with_reducible rfl)
              (try simp only [Act.put, List.setIfInBounds_toArray, List.set_cons_zero, List.set_cons_succ])
              refine rd1 (rs := [13, 14]) (h := ?_)
              refine cs1 (h := fun K hK => ?_) (hs := ?_)
              ·skip
               have hpre := hid (show W2.heap.size ≤ wpl.heap.size from HQ.out.size)
               go_simp
               refine named_alloc ?_
               intro Wa13 hbk hb hsz
               replace PT := hid (PT.out.step hb); replace DQ := hid (DQ.out.step hb); replace EQ := hid (EQ.out.step hb); replace HQ := hid (below_then HQ.out hb)
               obtain ⟨ga13, hga⟩ : ∃ g, g = wpl.heap.size := ⟨_, rfl⟩
               rw [← hga] at hbk ⊢
               have hlo13 := hid (show W2.heap.size ≤ ga13 by have := hpre.out; omega)
               have ZR := hid hbk
               clear hb hbk hsz hga hpre
               refine hK.out _ _ (hKP.out _ HQ.out) (fun hS' => ?_)
               clear hK K hS
               have hS := hS'
               clear hS'
               (try simp only [Act.put, List.setIfInBounds_toArray, List.set_cons_zero, List.set_cons_succ])
               revert hS; revert hlo13; revert hlo6; revert HQ; revert ZR; revert PT; revert EQ; revert DQ; revert ga13; revert ke9; revert E9; revert kd9; revert D9; revert d9; revert m9; revert B9; revert k9; revert n9; revert A9; revert now; revert ga6; revert Wa13
               exact K1.out
              refine cs1 (h := fun K hK => ?_) (hs := ?_)
              ·skip
               have hpre := hid (show W2.heap.size ≤ wpl.heap.size from HQ.out.size)
               go_simp
               refine named_alloc ?_
               intro Wa14 hbk hb hsz
               replace PT := hid (PT.out.step hb); replace DQ := hid (DQ.out.step hb); replace EQ := hid (EQ.out.step hb); replace HQ := hid (below_then HQ.out hb)
               obtain ⟨ga14, hga⟩ : ∃ g, g = wpl.heap.size := ⟨_, rfl⟩
               rw [← hga] at hbk ⊢
               have hlo14 := hid (show W2.heap.size ≤ ga14 by have := hpre.out; omega)
               have ZG := hid hbk
               clear hb hbk hsz hga hpre
               refine hK.out _ _ (hKP.out _ HQ.out) (fun hS' => ?_)
               clear hK K hS
               have hS := hS'
               clear hS'
               (try simp only [Act.put, List.setIfInBounds_toArray, List.set_cons_zero, List.set_cons_succ])
               revert hS; revert hlo14; revert hlo6; revert HQ; revert ZG; revert PT; revert EQ; revert DQ; revert ga14; revert ke9; revert E9; revert kd9; revert D9; revert d9; revert m9; revert B9; revert k9; revert n9; revert A9; revert now; revert ga6; revert Wa14
               exact K2.out
              exact AllReadyH.nil
             refine cs1 (h := fun K hK => ?_) (hs := ?_)
             ·skip
              have hpre := hid (show W2.heap.size ≤ Wa6.heap.size from HQ.out.size)
              go_simp
              refine named_alloc ?_
              intro Wa13 hbk hb hsz
              replace PT := hid (PT.out.step hb); replace HQ := hid (below_then HQ.out hb)
              obtain ⟨ga13, hga⟩ : ∃ g, g = Wa6.heap.size := ⟨_, rfl⟩
              rw [← hga] at hbk ⊢
              have hlo13 := hid (show W2.heap.size ≤ ga13 by have := hpre.out; omega)
              have ZR := hid hbk
              clear hb hbk hsz hga hpre
              refine hK.out _ _ (hKP.out _ HQ.out) (fun hS' => ?_)
              clear hK K hS
              have hS := hS'
              clear hS'
              (try simp only [Act.put, List.setIfInBounds_toArray, List.set_cons_zero, List.set_cons_succ])
              revert hS; revert hlo13; revert hlo6; revert HQ; revert ZR; revert PT; revert ga13; revert ga6; revert Wa13
              exact K4.out
             refine cs1 (h := fun K hK => ?_) (hs := ?_)
             ·skip
              have hpre := hid (show W2.heap.size ≤ Wa6.heap.size from HQ.out.size)
              go_simp
              refine named_alloc ?_
              intro Wa14 hbk hb hsz
              replace PT := hid (PT.out.step hb); replace HQ := hid (below_then HQ.out hb)
              obtain ⟨ga14, hga⟩ : ∃ g, g = Wa6.heap.size := ⟨_, rfl⟩
              rw [← hga] at hbk ⊢
              have hlo14 := hid (show W2.heap.size ≤ ga14 by have := hpre.out; omega)
              have ZG := hid hbk
              clear hb hbk hsz hga hpre
              refine hK.out _ _ (hKP.out _ HQ.out) (fun hS' => ?_)
              clear hK K hS
              have hS := hS'
              clear hS'
              (try simp only [Act.put, List.setIfInBounds_toArray, List.set_cons_zero, List.set_cons_succ])
              revert hS; revert hlo14; revert hlo6; revert HQ; revert ZG; revert PT; revert ga14; revert ga6; revert Wa14
              exact K5.out
             exact AllReadyH.nil
            refine cs1 (h := fun K hK => ?_) (hs := ?_)
            ·skip
             have hpre := hid (show W2.heap.size ≤ wp5.heap.size from HQ.out.size)
             go_simp
             refine named_alloc ?_
             intro Wa13 hbk hb hsz
             replace HQ := hid (below_then HQ.out hb)
             obtain ⟨ga13, hga⟩ : ∃ g, g = wp5.heap.size := ⟨_, rfl⟩
             rw [← hga] at hbk ⊢
             have hlo13 := hid (show W2.heap.size ≤ ga13 by have := hpre.out; omega)
             have ZR := hid hbk
             clear hb hbk hsz hga hpre
             refine hK.out _ _ (hKP.out _ HQ.out) (fun hS' => ?_)
             clear hK K hS
             have hS := hS'
             clear hS'
             (try simp only [Act.put, List.setIfInBounds_toArray, List.set_cons_zero, List.set_cons_succ])
             revert hS; revert hlo13; revert HQ; revert ZR; revert ga13; revert Wa13
             exact K7.out
            refine cs1 (h := fun K hK => ?_) (hs := ?_)
            ·skip
             have hpre := hid (show W2.heap.size ≤ wp5.heap.size from HQ.out.size)
             go_simp
             refine named_alloc ?_
             intro Wa14 hbk hb hsz
             replace HQ := hid (below_then HQ.out hb)
             obtain ⟨ga14, hga⟩ : ∃ g, g = wp5.heap.size := ⟨_, rfl⟩
             rw [← hga] at hbk ⊢
             have hlo14 := hid (show W2.heap.size ≤ ga14 by have := hpre.out; omega)
             have ZG := hid hbk
             clear hb hbk hsz hga hpre
             refine hK.out _ _ (hKP.out _ HQ.out) (fun hS' => ?_)
             clear hK K hS
             have hS := hS'
             clear hS'
             (try simp only [Act.put, List.setIfInBounds_toArray, List.set_cons_zero, List.set_cons_succ])
             revert hS; revert hlo14; revert HQ; revert ZG; revert ga14; revert Wa14
             exact K8.out
            exact AllReadyH.nil
           refine cs1 (h := fun K hK => ?_) (hs := ?_)
           ·skip
            have hpre := hid (show W2.heap.size ≤ wp4.heap.size from HQ.out.size)
            go_simp
            refine named_alloc ?_
            intro Wa13 hbk hb hsz
            replace HQ := hid (below_then HQ.out hb)
            obtain ⟨ga13, hga⟩ : ∃ g, g = wp4.heap.size := ⟨_, rfl⟩
            rw [← hga] at hbk ⊢
            have hlo13 := hid (show W2.heap.size ≤ ga13 by have := hpre.out; omega)
            have ZR := hid hbk
            clear hb hbk hsz hga hpre
            refine hK.out _ _ (hKP.out _ HQ.out) (fun hS' => ?_)
            clear hK K hS
            have hS := hS'
            clear hS'
            (try simp only [Act.put, List.setIfInBounds_toArray, List.set_cons_zero, List.set_cons_succ])
            revert hS; revert hlo13; revert HQ; revert ZR; revert ga13; revert Wa13
            exact K10.out
           refine cs1 (h := fun K hK => ?_) (hs := ?_)
           ·skip
            have hpre := hid (show W2.heap.size ≤ wp4.heap.size from HQ.out.size)
            go_simp
            refine named_alloc ?_
            intro Wa14 hbk hb hsz
            replace HQ := hid (below_then HQ.out hb)
            obtain ⟨ga14, hga⟩ : ∃ g, g = wp4.heap.size := ⟨_, rfl⟩
            rw [← hga] at hbk ⊢
            have hlo14 := hid (show W2.heap.size ≤ ga14 by have := hpre.out; omega)
            have ZG := hid hbk
            clear hb hbk hsz hga hpre
            refine hK.out _ _ (hKP.out _ HQ.out) (fun hS' => ?_)
            clear hK K hS
            have hS := hS'
            clear hS'
            (try simp only [Act.put, List.setIfInBounds_toArray, List.set_cons_zero, List.set_cons_succ])
            revert hS; revert hlo14; revert HQ; revert ZG; revert ga14; revert Wa14
            exact K11.out
           exact AllReadyH.nil
          refine cs1 (h := fun K hK => ?_) (hs := ?_)
          ·skip
           have hpre := hid (show W2.heap.size ≤ wp3.heap.size from HQ.out.size)
           go_simp
           refine named_alloc ?_
           intro Wa13 hbk hb hsz
           replace HQ := hid (below_then HQ.out hb)
           obtain ⟨ga13, hga⟩ : ∃ g, g = wp3.heap.size := ⟨_, rfl⟩
           rw [← hga] at hbk ⊢
           have hlo13 := hid (show W2.heap.size ≤ ga13 by have := hpre.out; omega)
           have ZR := hid hbk
           clear hb hbk hsz hga hpre
           refine hK.out _ _ (hKP.out _ HQ.out) (fun hS' => ?_)
           clear hK K hS
           have hS := hS'
           clear hS'
           (try simp only [Act.put, List.setIfInBounds_toArray, List.set_cons_zero, List.set_cons_succ])
           revert hS; revert hlo13; revert HQ; revert ZR; revert ga13; revert Wa13
           exact K13.out
          refine cs1 (h := fun K hK => ?_) (hs := ?_)
          ·skip
           have hpre := hid (show W2.heap.size ≤ wp3.heap.size from HQ.out.size)
           go_simp
           refine named_alloc ?_
           intro Wa14 hbk hb hsz
           replace HQ := hid (below_then HQ.out hb)
           obtain ⟨ga14, hga⟩ : ∃ g, g = wp3.heap.size := ⟨_, rfl⟩
           rw [← hga] at hbk ⊢
           have hlo14 := hid (show W2.heap.size ≤ ga14 by have := hpre.out; omega)
           have ZG := hid hbk
           clear hb hbk hsz hga hpre
           refine hK.out _ _ (hKP.out _ HQ.out) (fun hS' => ?_)
           clear hK K hS
           have hS := hS'
           clear hS'
           (try simp only [Act.put, List.setIfInBounds_toArray, List.set_cons_zero, List.set_cons_succ])
           revert hS; revert hlo14; revert HQ; revert ZG; revert ga14; revert Wa14
           exact K14.out
          exact AllReadyH.nil
         refine cs1 (h := fun K hK => ?_) (hs := ?_)
         ·skip
          have hpre := hid (show W2.heap.size ≤ Wd.heap.size from HQ.out.size)
          go_simp
          refine named_alloc ?_
          intro Wa13 hbk hb hsz
          replace HQ := hid (below_then HQ.out hb)
          obtain ⟨ga13, hga⟩ : ∃ g, g = Wd.heap.size := ⟨_, rfl⟩
          rw [← hga] at hbk ⊢
          have hlo13 := hid (show W2.heap.size ≤ ga13 by have := hpre.out; omega)
          have ZR := hid hbk
          clear hb hbk hsz hga hpre
          refine hK.out _ _ (hKP.out _ HQ.out) (fun hS' => ?_)
          clear hK K hS
          have hS := hS'
          clear hS'
          (try simp only [Act.put, List.setIfInBounds_toArray, List.set_cons_zero, List.set_cons_succ])
          refine rd1 (rs := [3, 14]) (h := ?_)
          refine cs1 (h := fun K hK => ?_) (hs := ?_)
          ·skip
           have hpre := hid (show W2.heap.size ≤ Wa13.heap.size from HQ.out.size)
           have hpl13 := hid ZR.out.lt
           go_simp
           refine (lpick_any 0 _).mono ?_
           rintro e wp3 ⟨rfl, hb⟩
           replace ZR := hid (ZR.out.step hb); replace HQ := hid (below_then HQ.out hb)
           clear hb
           go_wp2_with fail
           clear hpre hpl13
           refine hK.out _ _ (hKP.out _ HQ.out) (fun hS' => ?_)
           clear hK K hS
           have hS := hS'
           clear hS'
           (try simp only [Act.put, List.setIfInBounds_toArray, List.set_cons_zero, List.set_cons_succ])
           revert hS; revert hlo13; revert HQ; revert ZR; revert ga13; revert wp3
           exact K13.out
          refine cs1 (h := fun K hK => ?_) (hs := ?_)
          ·skip
           have hpre := hid (show W2.heap.size ≤ Wa13.heap.size from HQ.out.size)
           go_simp
           refine named_alloc ?_
           intro Wa14 hbk hb hsz
           replace ZR := hid (ZR.out.step hb); replace HQ := hid (below_then HQ.out hb)
           obtain ⟨ga14, hga⟩ : ∃ g, g = Wa13.heap.size := ⟨_, rfl⟩
           rw [← hga] at hbk ⊢
           have hlo14 := hid (show W2.heap.size ≤ ga14 by have := hpre.out; omega)
           have ZG := hid hbk
           clear hb hbk hsz hga hpre
           refine hK.out _ _ (hKP.out _ HQ.out) (fun hS' => ?_)
           clear hK K hS
           have hS := hS'
           clear hS'
           (try simp only [Act.put, List.setIfInBounds_toArray, List.set_cons_zero, List.set_cons_succ])
           revert hS; revert hlo14; revert hlo13; revert HQ; revert ZR; revert ZG; revert ga14; revert ga13; revert Wa14
           exact K15.out
          exact AllReadyH.nil
         refine cs1 (h := fun K hK => ?_) (hs := ?_)
         ·skip
          have hpre := hid (show W2.heap.size ≤ Wd.heap.size from HQ.out.size)
          go_simp
          refine named_alloc ?_
          intro Wa14 hbk hb hsz
          replace HQ := hid (below_then HQ.out hb)
          obtain ⟨ga14, hga⟩ : ∃ g, g = Wd.heap.size := ⟨_, rfl⟩
          rw [← hga] at hbk ⊢
          have hlo14 := hid (show W2.heap.size ≤ ga14 by have := hpre.out; omega)
          have ZG := hid hbk
          clear hb hbk hsz hga hpre
          refine hK.out _ _ (hKP.out _ HQ.out) (fun hS' => ?_)
          clear hK K hS
          have hS := hS'
          clear hS'
          (try simp only [Act.put, List.setIfInBounds_toArray, List.set_cons_zero, List.set_cons_succ])
          refine rd1 (rs := [3, 13]) (h := ?_)
          refine cs1 (h := fun K hK => ?_) (hs := ?_)
          ·skip
           have hpre := hid (show W2.heap.size ≤ Wa14.heap.size from HQ.out.size)
           have hpl14 := hid ZG.out.lt
           go_simp
           refine (lpick_any 0 _).mono ?_
           rintro e wp3 ⟨rfl, hb⟩
           replace ZG := hid (ZG.out.step hb); replace HQ := hid (below_then HQ.out hb)
           clear hb
           go_wp2_with fail
           clear hpre hpl14
           refine hK.out _ _ (hKP.out _ HQ.out) (fun hS' => ?_)
           clear hK K hS
           have hS := hS'
           clear hS'
           (try simp only [Act.put, List.setIfInBounds_toArray, List.set_cons_zero, List.set_cons_succ])
           revert hS; revert hlo14; revert HQ; revert ZG; revert ga14; revert wp3
           exact K14.out
          refine cs1 (h := fun K hK => ?_) (hs := ?_)
          ·skip
           have hpre := hid (show W2.heap.size ≤ Wa14.heap.size from HQ.out.size)
           go_simp
           refine named_alloc ?_
           intro Wa13 hbk hb hsz
           replace ZG := hid (ZG.out.step hb); replace HQ := hid (below_then HQ.out hb)
           obtain ⟨ga13, hga⟩ : ∃ g, g = Wa14.heap.size := ⟨_, rfl⟩
           rw [← hga] at hbk ⊢
           have hlo13 := hid (show W2.heap.size ≤ ga13 by have := hpre.out; omega)
           have ZR := hid hbk
           clear hb hbk hsz hga hpre
           refine hK.out _ _ (hKP.out _ HQ.out) (fun hS' => ?_)
           clear hK K hS
           have hS := hS'
           clear hS'
           (try simp only [Act.put, List.setIfInBounds_toArray, List.set_cons_zero, List.set_cons_succ])
           revert hS; revert hlo14; revert hlo13; revert HQ; revert ZR; revert ZG; revert ga14; revert ga13; revert Wa13
           exact K15.out
          exact AllReadyH.nil
         exact AllReadyH.nil
        ·skip
         intro Wm ga13 ga14 ZG ZR HQ hlo13 hlo14 hS
         refine rd1 (rs := [3]) (h := ?_)
         refine cs1 (h := fun K hK => ?_) (hs := ?_)
         ·skip
          have hpre := hid (show W2.heap.size ≤ Wm.heap.size from HQ.out.size)
          have hpl13 := hid ZR.out.lt
          have hpl14 := hid ZG.out.lt
          go_simp
          refine (lpick_any 0 _).mono ?_
          rintro e wp3 ⟨rfl, hb⟩
          replace ZG := hid (ZG.out.step hb); replace ZR := hid (ZR.out.step hb); replace HQ := hid (below_then HQ.out hb)
          clear hb
          go_wp2_with fail
          clear hpre hpl13 hpl14
          refine hK.out _ _ (hKP.out _ HQ.out) (fun hS' => ?_)
          clear hK K hS
          have hS := hS'
          clear hS'
          (try simp only [Act.put, List.setIfInBounds_toArray, List.set_cons_zero, List.set_cons_succ])
          revert hS; revert hlo14; revert hlo13; revert HQ; revert ZR; revert ZG; revert ga14; revert ga13; revert wp3
          exact K12.out
         exact AllReadyH.nil
        ·skip
         intro Wm ga14 ZG HQ hlo14 hS
         refine rd1 (rs := [4, 13]) (h := ?_)
         refine cs1 (h := fun K hK => ?_) (hs := ?_)
         ·skip
          have hpre := hid (show W2.heap.size ≤ Wm.heap.size from HQ.out.size)
          have hpl14 := hid ZG.out.lt
          go_simp
          refine (lpick_any 0 _).mono ?_
          rintro e wp4 ⟨rfl, hb⟩
          replace ZG := hid (ZG.out.step hb); replace HQ := hid (below_then HQ.out hb)
          clear hb
          go_wp2_with fail
          clear hpre hpl14
          refine hK.out _ _ (hKP.out _ HQ.out) (fun hS' => ?_)
          clear hK K hS
          have hS := hS'
          clear hS'
          (try simp only [Act.put, List.setIfInBounds_toArray, List.set_cons_zero, List.set_cons_succ])
          revert hS; revert hlo14; revert HQ; revert ZG; revert ga14; revert wp4
          exact K11.out
         refine cs1 (h := fun K hK => ?_) (hs := ?_)
         ·skip
          have hpre := hid (show W2.heap.size ≤ Wm.heap.size from HQ.out.size)
          go_simp
          refine named_alloc ?_
          intro Wa13 hbk hb hsz
          replace ZG := hid (ZG.out.step hb); replace HQ := hid (below_then HQ.out hb)
          obtain ⟨ga13, hga⟩ : ∃ g, g = Wm.heap.size := ⟨_, rfl⟩
          rw [← hga] at hbk ⊢
          have hlo13 := hid (show W2.heap.size ≤ ga13 by have := hpre.out; omega)
          have ZR := hid hbk
          clear hb hbk hsz hga hpre
          refine hK.out _ _ (hKP.out _ HQ.out) (fun hS' => ?_)
          clear hK K hS
          have hS := hS'
          clear hS'
          (try simp only [Act.put, List.setIfInBounds_toArray, List.set_cons_zero, List.set_cons_succ])
          revert hS; revert hlo14; revert hlo13; revert HQ; revert ZR; revert ZG; revert ga14; revert ga13; revert Wa13
          exact K12.out
         exact AllReadyH.nil
        ·skip
         intro Wm ga13 ZR HQ hlo13 hS
         refine rd1 (rs := [4, 14]) (h := ?_)
         refine cs1 (h := fun K hK => ?_) (hs := ?_)
         ·skip
          have hpre := hid (show W2.heap.size ≤ Wm.heap.size from HQ.out.size)
          have hpl13 := hid ZR.out.lt
          go_simp
          refine (lpick_any 0 _).mono ?_
          rintro e wp4 ⟨rfl, hb⟩
          replace ZR := hid (ZR.out.step hb); replace HQ := hid (below_then HQ.out hb)
          clear hb
          go_wp2_with fail
          clear hpre hpl13
          refine hK.out _ _ (hKP.out _ HQ.out) (fun hS' => ?_)
          clear hK K hS
          have hS := hS'
          clear hS'
          (try simp only [Act.put, List.setIfInBounds_toArray, List.set_cons_zero, List.set_cons_succ])
          revert hS; revert hlo13; revert HQ; revert ZR; revert ga13; revert wp4
          exact K10.out
         refine cs1 (h := fun K hK => ?_) (hs := ?_)
         ·skip
          have hpre := hid (show W2.heap.size ≤ Wm.heap.size from HQ.out.size)
          go_simp
          refine named_alloc ?_
          intro Wa14 hbk hb hsz
          replace ZR := hid (ZR.out.step hb); replace HQ := hid (below_then HQ.out hb)
          obtain ⟨ga14, hga⟩ : ∃ g, g = Wm.heap.size := ⟨_, rfl⟩
          rw [← hga] at hbk ⊢
          have hlo14 := hid (show W2.heap.size ≤ ga14 by have := hpre.out; omega)
          have ZG := hid hbk
          clear hb hbk hsz hga hpre
          refine hK.out _ _ (hKP.out _ HQ.out) (fun hS' => ?_)
          clear hK K hS
          have hS := hS'
          clear hS'
          (try simp only [Act.put, List.setIfInBounds_toArray, List.set_cons_zero, List.set_cons_succ])
          revert hS; revert hlo14; revert hlo13; revert HQ; revert ZR; revert ZG; revert ga14; revert ga13; revert Wa14
          exact K12.out
         exact AllReadyH.nil
        ·skip
         intro Wm ga13 ga14 ZG ZR HQ hlo13 hlo14 hS
         refine rd1 (rs := [4]) (h := ?_)
         refine cs1 (h := fun K hK => ?_) (hs := ?_)
         ·skip
          have hpre := hid (show W2.heap.size ≤ Wm.heap.size from HQ.out.size)
          have hpl13 := hid ZR.out.lt
          have hpl14 := hid ZG.out.lt
          go_simp
          refine (lpick_any 0 _).mono ?_
          rintro e wp4 ⟨rfl, hb⟩
          replace ZG := hid (ZG.out.step hb); replace ZR := hid (ZR.out.step hb); replace HQ := hid (below_then HQ.out hb)
          clear hb
          go_wp2_with fail
          clear hpre hpl13 hpl14
          refine hK.out _ _ (hKP.out _ HQ.out) (fun hS' => ?_)
          clear hK K hS
          have hS := hS'
          clear hS'
          (try simp only [Act.put, List.setIfInBounds_toArray, List.set_cons_zero, List.set_cons_succ])
          revert hS; revert hlo14; revert hlo13; revert HQ; revert ZR; revert ZG; revert ga14; revert ga13; revert wp4
          exact K9.out
         exact AllReadyH.nil
        ·skip
         intro Wm ga14 ZG HQ hlo14 hS
         refine rd1 (rs := [5, 13]) (h := ?_)
         refine cs1 (h := fun K hK => ?_) (hs := ?_)
         ·skip
          have hpre := hid (show W2.heap.size ≤ Wm.heap.size from HQ.out.size)
          have hpl14 := hid ZG.out.lt
          go_simp
          refine (lpick_any 1 _).mono ?_
          rintro e wp5 ⟨rfl, hb⟩
          replace ZG := hid (ZG.out.step hb); replace HQ := hid (below_then HQ.out hb)
          clear hb
          go_wp2_with fail
          clear hpre hpl14
          refine hK.out _ _ (hKP.out _ HQ.out) (fun hS' => ?_)
          clear hK K hS
          have hS := hS'
          clear hS'
          (try simp only [Act.put, List.setIfInBounds_toArray, List.set_cons_zero, List.set_cons_succ])
          revert hS; revert hlo14; revert HQ; revert ZG; revert ga14; revert wp5
          exact K8.out
         refine cs1 (h := fun K hK => ?_) (hs := ?_)
         ·skip
          have hpre := hid (show W2.heap.size ≤ Wm.heap.size from HQ.out.size)
          go_simp
          refine named_alloc ?_
          intro Wa13 hbk hb hsz
          replace ZG := hid (ZG.out.step hb); replace HQ := hid (below_then HQ.out hb)
          obtain ⟨ga13, hga⟩ : ∃ g, g = Wm.heap.size := ⟨_, rfl⟩
          rw [← hga] at hbk ⊢
          have hlo13 := hid (show W2.heap.size ≤ ga13 by have := hpre.out; omega)
          have ZR := hid hbk
          clear hb hbk hsz hga hpre
          refine hK.out _ _ (hKP.out _ HQ.out) (fun hS' => ?_)
          clear hK K hS
          have hS := hS'
          clear hS'
          (try simp only [Act.put, List.setIfInBounds_toArray, List.set_cons_zero, List.set_cons_succ])
          revert hS; revert hlo14; revert hlo13; revert HQ; revert ZR; revert ZG; revert ga14; revert ga13; revert Wa13
          exact K9.out
         exact AllReadyH.nil
        ·skip
         intro Wm ga13 ZR HQ hlo13 hS
         refine rd1 (rs := [5, 14]) (h := ?_)
         refine cs1 (h := fun K hK => ?_) (hs := ?_)
         ·skip
          have hpre := hid (show W2.heap.size ≤ Wm.heap.size from HQ.out.size)
          have hpl13 := hid ZR.out.lt
          go_simp
          refine (lpick_any 1 _).mono ?_
          rintro e wp5 ⟨rfl, hb⟩
          replace ZR := hid (ZR.out.step hb); replace HQ := hid (below_then HQ.out hb)
          clear hb
          go_wp2_with fail
          clear hpre hpl13
          refine hK.out _ _ (hKP.out _ HQ.out) (fun hS' => ?_)
          clear hK K hS
          have hS := hS'
          clear hS'
          (try simp only [Act.put, List.setIfInBounds_toArray, List.set_cons_zero, List.set_cons_succ])
          revert hS; revert hlo13; revert HQ; revert ZR; revert ga13; revert wp5
          exact K7.out
         refine cs1 (h := fun K hK => ?_) (hs := ?_)
         ·skip
          have hpre := hid (show W2.heap.size ≤ Wm.heap.size from HQ.out.size)
          go_simp
          refine named_alloc ?_
          intro Wa14 hbk hb hsz
          replace ZR := hid (ZR.out.step hb); replace HQ := hid (below_then HQ.out hb)
          obtain ⟨ga14, hga⟩ : ∃ g, g = Wm.heap.size := ⟨_, rfl⟩
          rw [← hga] at hbk ⊢
          have hlo14 := hid (show W2.heap.size ≤ ga14 by have := hpre.out; omega)
          have ZG := hid hbk
          clear hb hbk hsz hga hpre
          refine hK.out _ _ (hKP.out _ HQ.out) (fun hS' => ?_)
          clear hK K hS
          have hS := hS'
          clear hS'
          (try simp only [Act.put, List.setIfInBounds_toArray, List.set_cons_zero, List.set_cons_succ])
          revert hS; revert hlo14; revert hlo13; revert HQ; revert ZR; revert ZG; revert ga14; revert ga13; revert Wa14
          exact K9.out
         exact AllReadyH.nil
        ·skip
         intro Wm ga13 ga14 ZG ZR HQ hlo13 hlo14 hS
         refine rd1 (rs := [5]) (h := ?_)
         refine cs1 (h := fun K hK => ?_) (hs := ?_)
         ·skip
          have hpre := hid (show W2.heap.size ≤ Wm.heap.size from HQ.out.size)
          have hpl13 := hid ZR.out.lt
          have hpl14 := hid ZG.out.lt
          go_simp
          refine (lpick_any 1 _).mono ?_
          rintro e wp5 ⟨rfl, hb⟩
          replace ZG := hid (ZG.out.step hb); replace ZR := hid (ZR.out.step hb); replace HQ := hid (below_then HQ.out hb)
          clear hb
          go_wp2_with fail
          clear hpre hpl13 hpl14
          refine hK.out _ _ (hKP.out _ HQ.out) (fun hS' => ?_)
          clear hK K hS
          have hS := hS'
          clear hS'
          (try simp only [Act.put, List.setIfInBounds_toArray, List.set_cons_zero, List.set_cons_succ])
          revert hS; revert hlo14; revert hlo13; revert HQ; revert ZR; revert ZG; revert ga14; revert ga13; revert wp5
          exact K6.out
         exact AllReadyH.nil
        ·skip
         intro Wm ga14 ZG HQ hlo14 hS
         refine rd1 (rs := [6, 13]) (h := ?_)
         refine cs1 (h := fun K hK => ?_) (hs := ?_)
         ·skip
          have hpre := hid (show W2.heap.size ≤ Wm.heap.size from HQ.out.size)
          go_simp
          refine named_alloc ?_
          intro Wa6 hbk hb hsz
          replace ZG := hid (ZG.out.step hb); replace HQ := hid (below_then HQ.out hb)
          obtain ⟨ga6, hga⟩ : ∃ g, g = Wm.heap.size := ⟨_, rfl⟩
          rw [← hga] at hbk ⊢
          have hlo6 := hid (show W2.heap.size ≤ ga6 by have := hpre.out; omega)
          have PT := hid hbk
          clear hb hbk hsz hga hpre
          refine hK.out _ _ (hKP.out _ HQ.out) (fun hS' => ?_)
          clear hK K hS
          have hS := hS'
          clear hS'
          (try simp only [Act.put, List.setIfInBounds_toArray, List.set_cons_zero, List.set_cons_succ])
          revert hS; revert hlo14; revert hlo6; revert HQ; revert ZG; revert PT; revert ga14; revert ga6; revert Wa6
          exact K5.out
         refine cs1 (h := fun K hK => ?_) (hs := ?_)
         ·skip
          have hpre := hid (show W2.heap.size ≤ Wm.heap.size from HQ.out.size)
          go_simp
          refine named_alloc ?_
          intro Wa13 hbk hb hsz
          replace ZG := hid (ZG.out.step hb); replace HQ := hid (below_then HQ.out hb)
          obtain ⟨ga13, hga⟩ : ∃ g, g = Wm.heap.size := ⟨_, rfl⟩
          rw [← hga] at hbk ⊢
          have hlo13 := hid (show W2.heap.size ≤ ga13 by have := hpre.out; omega)
          have ZR := hid hbk
          clear hb hbk hsz hga hpre
          refine hK.out _ _ (hKP.out _ HQ.out) (fun hS' => ?_)
          clear hK K hS
          have hS := hS'
          clear hS'
          (try simp only [Act.put, List.setIfInBounds_toArray, List.set_cons_zero, List.set_cons_succ])
          revert hS; revert hlo14; revert hlo13; revert HQ; revert ZR; revert ZG; revert ga14; revert ga13; revert Wa13
          exact K6.out
         exact AllReadyH.nil
        ·skip
         intro Wm ga13 ZR HQ hlo13 hS
         refine rd1 (rs := [6, 14]) (h := ?_)
         refine cs1 (h := fun K hK => ?_) (hs := ?_)
         ·skip
          have hpre := hid (show W2.heap.size ≤ Wm.heap.size from HQ.out.size)
          go_simp
          refine named_alloc ?_
          intro Wa6 hbk hb hsz
          replace ZR := hid (ZR.out.step hb); replace HQ := hid (below_then HQ.out hb)
          obtain ⟨ga6, hga⟩ : ∃ g, g = Wm.heap.size := ⟨_, rfl⟩
          rw [← hga] at hbk ⊢
          have hlo6 := hid (show W2.heap.size ≤ ga6 by have := hpre.out; omega)
          have PT := hid hbk
          clear hb hbk hsz hga hpre
          refine hK.out _ _ (hKP.out _ HQ.out) (fun hS' => ?_)
          clear hK K hS
          have hS := hS'
          clear hS'
          (try simp only [Act.put, List.setIfInBounds_toArray, List.set_cons_zero, List.set_cons_succ])
          revert hS; revert hlo13; revert hlo6; revert HQ; revert ZR; revert PT; revert ga13; revert ga6; revert Wa6
          exact K4.out
         refine cs1 (h := fun K hK => ?_) (hs := ?_)
         ·skip
          have hpre := hid (show W2.heap.size ≤ Wm.heap.size from HQ.out.size)
          go_simp
          refine named_alloc ?_
          intro Wa14 hbk hb hsz
          replace ZR := hid (ZR.out.step hb); replace HQ := hid (below_then HQ.out hb)
          obtain ⟨ga14, hga⟩ : ∃ g, g = Wm.heap.size := ⟨_, rfl⟩
          rw [← hga] at hbk ⊢
          have hlo14 := hid (show W2.heap.size ≤ ga14 by have := hpre.out; omega)
          have ZG := hid hbk
          clear hb hbk hsz hga hpre
          refine hK.out _ _ (hKP.out _ HQ.out) (fun hS' => ?_)
          clear hK K hS
          have hS := hS'
          clear hS'
          (try simp only [Act.put, List.setIfInBounds_toArray, List.set_cons_zero, List.set_cons_succ])
          revert hS; revert hlo14; revert hlo13; revert HQ; revert ZR; revert ZG; revert ga14; revert ga13; revert Wa14
          exact K6.out
         exact AllReadyH.nil
        ·skip
         intro Wm ga13 ga14 ZG ZR HQ hlo13 hlo14 hS
         refine rd1 (rs := [6]) (h := ?_)
         refine cs1 (h := fun K hK => ?_) (hs := ?_)
         ·skip
          have hpre := hid (show W2.heap.size ≤ Wm.heap.size from HQ.out.size)
          go_simp
          refine named_alloc ?_
          intro Wa6 hbk hb hsz
          replace ZG := hid (ZG.out.step hb); replace ZR := hid (ZR.out.step hb); replace HQ := hid (below_then HQ.out hb)
          obtain ⟨ga6, hga⟩ : ∃ g, g = Wm.heap.size := ⟨_, rfl⟩
          rw [← hga] at hbk ⊢
          have hlo6 := hid (show W2.heap.size ≤ ga6 by have := hpre.out; omega)
          have PT := hid hbk
          clear hb hbk hsz hga hpre
          refine hK.out _ _ (hKP.out _ HQ.out) (fun hS' => ?_)
          clear hK K hS
          have hS := hS'
          clear hS'
          (try simp only [Act.put, List.setIfInBounds_toArray, List.set_cons_zero, List.set_cons_succ])
          revert hS; revert hlo14; revert hlo13; revert hlo6; revert HQ; revert ZR; revert ZG; revert PT; revert ga14; revert ga13; revert ga6; revert Wa6
          exact K3.out
         exact AllReadyH.nil
        ·skip
         intro Wm ga6 ga14 PT ZG HQ hlo6 hlo14 hS
         refine rd1 (rs := [7, 13]) (h := ?_)
         refine cs1 (h := fun K hK => ?_) (hs := ?_)
         ·skip
          have hpre := hid (show W2.heap.size ≤ Wm.heap.size from HQ.out.size)
          have hpl6 := hid PT.out.lt
          have hpl14 := hid ZG.out.lt
          go_simp
          refine (play_wk2 A B D (some ⟨ga6, 0, none⟩) 4 _ (XRO.out.step HQ.out) (XDO.out.step HQ.out) (PT.out.smT (xs := [(3, 0), (4, 0), (4, 0), (4, 1)]) rfl (by intro k hk j hj; have hk' : k < 4 := hk; have hj' : j < 2 := hj; match k, hk', j, hj' with | 0, _, 0, _ => rfl | 0, _, 1, _ => rfl | 1, _, 0, _ => rfl | 1, _, 1, _ => rfl | 2, _, 0, _ => rfl | 2, _, 1, _ => rfl | 3, _, 0, _ => rfl | 3, _, 1, _ => rfl))).mono ?_
          rintro e wpl ⟨now, A9, n9, k9, B9, m9, d9, D9, kd9, E9, ke9, rfl, dq, eq, hb⟩
          replace PT := hid (PT.out.step hb); replace ZG := hid (ZG.out.step hb); replace HQ := hid (below_then HQ.out hb)
          clear hb
          have DQ := hid (dq.mono (show W2.heap.size ≤ _ by have := HQ.out.size; have := hpre.out; have := hpl6.out; have := hpl14.out; have := hlo6.out; have := PT.out.lt; have := hlo14.out; have := ZG.out.lt; omega)); have EQ := hid (eq.mono (show W2.heap.size ≤ _ by have := HQ.out.size; have := hpre.out; have := hpl6.out; have := hpl14.out; have := hlo6.out; have := PT.out.lt; have := hlo14.out; have := ZG.out.lt; omega))
          clear dq eq
          go_wp2_with fail
          clear hpre hpl6 hpl14
          refine hK.out _ _ (hKP.out _ HQ.out) (fun hS' => ?_)
          clear hK K hS
          have hS := hS'
          clear hS'
          (try simp only [Act.put, List.setIfInBounds_toArray, List.set_cons_zero, List.set_cons_succ])
          refine tk1 (i := 8) (v := ?_) (hy := Or.inl ⟨by rfl, ?_⟩) (hS := hS) (h := ?_)
          rotate_left
          · intro w' hSw; (try dsimp only at hSw); go_split_ands; go_simp; (try with_reducible rfl)
          (try simp only [Act.put, List.setIfInBounds_toArray, List.set_cons_zero, List.set_cons_succ])
          refine tk1 (i := 9) (v := ?_) (hy := Or.inl ⟨by rfl, ?_⟩) (hS := hS) (h := ?_)
          rotate_left
          · intro w' hSw; (try dsimp only at hSw); go_split_ands; go_simp; (try with_reducible rfl)
          (try simp only [Act.put, List.setIfInBounds_toArray, List.set_cons_zero, List.set_cons_succ])
          refine tk1 (i := 10) (v := ?_) (hy := Or.inl ⟨by rfl, ?_⟩) (hS := hS) (h := ?_)
          rotate_left
          · intro w' hSw; (try dsimp only at hSw); go_split_ands; go_simp; (try with_reducible rfl)
          (try simp only [Act.put, List.setIfInBounds_toArray, List.set_cons_zero, List.set_cons_succ])
          refine tk1 (i := 11) (v := ?_) (hy := Or.inl ⟨by rfl, ?_⟩) (hS := hS) (h := ?_)
          rotate_left
          · intro w' hSw; (try dsimp only at hSw); go_split_ands; go_simp; (try with_reducible rfl)
          (try simp only [Act.put, List.setIfInBounds_toArray, List.set_cons_zero, List.set_cons_succ])
          refine tk1 (i := 12) (v := ?_) (hy := Or.inl ⟨by rfl, ?_⟩) (hS := hS) (h := ?_)
          rotate_left
          · intro w' hSw; (try dsimp only at hSw); go_split_ands; go_simp; (try with_reducible rfl)
          (try simp only [Act.put, List.setIfInBounds_toArray, List.set_cons_zero, List.set_cons_succ])
          revert hS; revert hlo14; revert hlo6; revert HQ; revert ZG; revert PT; revert EQ; revert DQ; revert ga14; revert ke9; revert E9; revert kd9; revert D9; revert d9; revert m9; revert B9; revert k9; revert n9; revert A9; revert now; revert ga6; revert wpl
          exact K2.out
         refine cs1 (h := fun K hK => ?_) (hs := ?_)
         ·skip
          have hpre := hid (show W2.heap.size ≤ Wm.heap.size from HQ.out.size)
          go_simp
          refine named_alloc ?_
          intro Wa13 hbk hb hsz
          replace PT := hid (PT.out.step hb); replace ZG := hid (ZG.out.step hb); replace HQ := hid (below_then HQ.out hb)
          obtain ⟨ga13, hga⟩ : ∃ g, g = Wm.heap.size := ⟨_, rfl⟩
          rw [← hga] at hbk ⊢
          have hlo13 := hid (show W2.heap.size ≤ ga13 by have := hpre.out; omega)
          have ZR := hid hbk
          clear hb hbk hsz hga hpre
          refine hK.out _ _ (hKP.out _ HQ.out) (fun hS' => ?_)
          clear hK K hS
          have hS := hS'
          clear hS'
          (try simp only [Act.put, List.setIfInBounds_toArray, List.set_cons_zero, List.set_cons_succ])
          revert hS; revert hlo14; revert hlo13; revert hlo6; revert HQ; revert ZR; revert ZG; revert PT; revert ga14; revert ga13; revert ga6; revert Wa13
          exact K3.out
         exact AllReadyH.nil
        ·skip
         intro Wm ga6 ga13 PT ZR HQ hlo6 hlo13 hS
         refine rd1 (rs := [7, 14]) (h := ?_)
         refine cs1 (h := fun K hK => ?_) (hs := ?_)
         ·skip
          have hpre := hid (show W2.heap.size ≤ Wm.heap.size from HQ.out.size)
          have hpl6 := hid PT.out.lt
          have hpl13 := hid ZR.out.lt
          go_simp
          refine (play_wk2 A B D (some ⟨ga6, 0, none⟩) 4 _ (XRO.out.step HQ.out) (XDO.out.step HQ.out) (PT.out.smT (xs := [(3, 0), (4, 0), (4, 0), (4, 1)]) rfl (by intro k hk j hj; have hk' : k < 4 := hk; have hj' : j < 2 := hj; match k, hk', j, hj' with | 0, _, 0, _ => rfl | 0, _, 1, _ => rfl | 1, _, 0, _ => rfl | 1, _, 1, _ => rfl | 2, _, 0, _ => rfl | 2, _, 1, _ => rfl | 3, _, 0, _ => rfl | 3, _, 1, _ => rfl))).mono ?_
          rintro e wpl ⟨now, A9, n9, k9, B9, m9, d9, D9, kd9, E9, ke9, rfl, dq, eq, hb⟩
          replace PT := hid (PT.out.step hb); replace ZR := hid (ZR.out.step hb); replace HQ := hid (below_then HQ.out hb)
          clear hb
          have DQ := hid (dq.mono (show W2.heap.size ≤ _ by have := HQ.out.size; have := hpre.out; have := hpl6.out; have := hpl13.out; have := hlo6.out; have := PT.out.lt; have := hlo13.out; have := ZR.out.lt; omega)); have EQ := hid (eq.mono (show W2.heap.size ≤ _ by have := HQ.out.size; have := hpre.out; have := hpl6.out; have := hpl13.out; have := hlo6.out; have := PT.out.lt; have := hlo13.out; have := ZR.out.lt; omega))
          clear dq eq
          go_wp2_with fail
          clear hpre hpl6 hpl13
          refine hK.out _ _ (hKP.out _ HQ.out) (fun hS' => ?_)
          clear hK K hS
          have hS := hS'
          clear hS'
          (try simp only [Act.put, List.setIfInBounds_toArray, List.set_cons_zero, List.set_cons_succ])
          refine tk1 (i := 8) (v := ?_) (hy := Or.inl ⟨by rfl, ?_⟩) (hS := hS) (h := ?_)
          rotate_left
          · intro w' hSw; (try dsimp only at hSw); go_split_ands; go_simp; (try with_reducible rfl)
          (try simp only [Act.put, List.setIfInBounds_toArray, List.set_cons_zero, List.set_cons_succ])
          refine tk1 (i := 9) (v := ?_) (hy := Or.inl ⟨by rfl, ?_⟩) (hS := hS) (h := ?_)
          rotate_left
          · intro w' hSw; (try dsimp only at hSw); go_split_ands; go_simp; (try with_reducible rfl)
          (try simp only [Act.put, List.setIfInBounds_toArray, List.set_cons_zero, List.set_cons_succ])
          refine tk1 (i := 10) (v := ?_) (hy := Or.inl ⟨by rfl, ?_⟩) (hS := hS) (h := ?_)
          rotate_left
          · intro w' hSw; (try dsimp only at hSw); go_split_ands; go_simp; (try with_reducible rfl)
          (try simp only [Act.put, List.setIfInBounds_toArray, List.set_cons_zero, List.set_cons_succ])
          refine tk1 (i := 11) (v := ?_) (hy := Or.inl ⟨by rfl, ?_⟩) (hS := hS) (h := ?_)
          rotate_left
          · intro w' hSw; (try dsimp only at hSw); go_split_ands; go_simp; (try with_reducible rfl)
          (try simp only [Act.put, List.setIfInBounds_toArray, List.set_cons_zero, List.set_cons_succ])
          refine tk1 (i := 12) (v := ?_) (hy := Or.inl ⟨by rfl, ?_⟩) (hS := hS) (h := ?_)
          rotate_left
          · intro w' hSw; (try dsimp only at hSw); go_split_ands; go_simp; (try with_reducible rfl)
          (try simp only [Act.put, List.setIfInBounds_toArray, List.set_cons_zero, List.set_cons_succ])
          revert hS; revert hlo13; revert hlo6; revert HQ; revert ZR; revert PT; revert EQ; revert DQ; revert ga13; revert ke9; revert E9; revert kd9; revert D9; revert d9; revert m9; revert B9; revert k9; revert n9; revert A9; revert now; revert ga6; revert wpl
          exact K1.out
         refine cs1 (h := fun K hK => ?_) (hs := ?_)
         ·skip
          have hpre := hid (show W2.heap.size ≤ Wm.heap.size from HQ.out.size)
          go_simp
          refine named_alloc ?_
          intro Wa14 hbk hb hsz
          replace PT := hid (PT.out.step hb); replace ZR := hid (ZR.out.step hb); replace HQ := hid (below_then HQ.out hb)
          obtain ⟨ga14, hga⟩ : ∃ g, g = Wm.heap.size := ⟨_, rfl⟩
          rw [← hga] at hbk ⊢
          have hlo14 := hid (show W2.heap.size ≤ ga14 by have := hpre.out; omega)
          have ZG := hid hbk
          clear hb hbk hsz hga hpre
          refine hK.out _ _ (hKP.out _ HQ.out) (fun hS' => ?_)
          clear hK K hS
          have hS := hS'
          clear hS'
          (try simp only [Act.put, List.setIfInBounds_toArray, List.set_cons_zero, List.set_cons_succ])
          revert hS; revert hlo14; revert hlo13; revert hlo6; revert HQ; revert ZR; revert ZG; revert PT; revert ga14; revert ga13; revert ga6; revert Wa14
          exact K3.out
         exact AllReadyH.nil
        ·skip
         intro Wm ga6 ga13 ga14 PT ZG ZR HQ hlo6 hlo13 hlo14 hS
         refine rd1 (rs := [7]) (h := ?_)
         refine cs1 (h := fun K hK => ?_) (hs := ?_)
         ·skip
          have hpre := hid (show W2.heap.size ≤ Wm.heap.size from HQ.out.size)
          have hpl6 := hid PT.out.lt
          have hpl13 := hid ZR.out.lt
          have hpl14 := hid ZG.out.lt
          go_simp
          refine (play_wk2 A B D (some ⟨ga6, 0, none⟩) 4 _ (XRO.out.step HQ.out) (XDO.out.step HQ.out) (PT.out.smT (xs := [(3, 0), (4, 0), (4, 0), (4, 1)]) rfl (by intro k hk j hj; have hk' : k < 4 := hk; have hj' : j < 2 := hj; match k, hk', j, hj' with | 0, _, 0, _ => rfl | 0, _, 1, _ => rfl | 1, _, 0, _ => rfl | 1, _, 1, _ => rfl | 2, _, 0, _ => rfl | 2, _, 1, _ => rfl | 3, _, 0, _ => rfl | 3, _, 1, _ => rfl))).mono ?_
          rintro e wpl ⟨now, A9, n9, k9, B9, m9, d9, D9, kd9, E9, ke9, rfl, dq, eq, hb⟩
          replace PT := hid (PT.out.step hb); replace ZG := hid (ZG.out.step hb); replace ZR := hid (ZR.out.step hb); replace HQ := hid (below_then HQ.out hb)
          clear hb
          have DQ := hid (dq.mono (show W2.heap.size ≤ _ by have := HQ.out.size; have := hpre.out; have := hpl6.out; have := hpl13.out; have := hpl14.out; have := hlo6.out; have := PT.out.lt; have := hlo13.out; have := ZR.out.lt; have := hlo14.out; have := ZG.out.lt; omega)); have EQ := hid (eq.mono (show W2.heap.size ≤ _ by have := HQ.out.size; have := hpre.out; have := hpl6.out; have := hpl13.out; have := hpl14.out; have := hlo6.out; have := PT.out.lt; have := hlo13.out; have := ZR.out.lt; have := hlo14.out; have := ZG.out.lt; omega))
          clear dq eq
          go_wp2_with fail
          clear hpre hpl6 hpl13 hpl14
          refine hK.out _ _ (hKP.out _ HQ.out) (fun hS' => ?_)
          clear hK K hS
          have hS := hS'
          clear hS'
          (try simp only [Act.put, List.setIfInBounds_toArray, List.set_cons_zero, List.set_cons_succ])
          refine tk1 (i := 8) (v := ?_) (hy := Or.inl ⟨by rfl, ?_⟩) (hS := hS) (h := ?_)
          rotate_left
          · intro w' hSw; (try dsimp only at hSw); go_split_ands; go_simp; (try with_reducible rfl)
          (try simp only [Act.put, List.setIfInBounds_toArray, List.set_cons_zero, List.set_cons_succ])
          refine tk1 (i := 9) (v := ?_) (hy := Or.inl ⟨by rfl, ?_⟩) (hS := hS) (h := ?_)
          rotate_left
          · intro w' hSw; (try dsimp only at hSw); go_split_ands; go_simp; (try with_reducible rfl)
          (try simp only [Act.put, List.setIfInBounds_toArray, List.set_cons_zero, List.set_cons_succ])
          refine tk1 (i := 10) (v := ?_) (hy := Or.inl ⟨by rfl, ?_⟩) (hS := hS) (h := ?_)
          rotate_left
          · intro w' hSw; (try dsimp only at hSw); go_split_ands; go_simp; (try with_reducible rfl)
          (try simp only [Act.put, List.setIfInBounds_toArray, List.set_cons_zero, List.set_cons_succ])
          refine tk1 (i := 11) (v := ?_) (hy := Or.inl ⟨by rfl, ?_⟩) (hS := hS) (h := ?_)
          rotate_left
          · intro w' hSw; (try dsimp only at hSw); go_split_ands; go_simp; (try with_reducible rfl)
          (try simp only [Act.put, List.setIfInBounds_toArray, List.set_cons_zero, List.set_cons_succ])
          refine tk1 (i := 12) (v := ?_) (hy := Or.inl ⟨by rfl, ?_⟩) (hS := hS) (h := ?_)
          rotate_left
          · intro w' hSw; (try dsimp only at hSw); go_split_ands; go_simp; (try with_reducible rfl)
          (try simp only [Act.put, List.setIfInBounds_toArray, List.set_cons_zero, List.set_cons_succ])
          revert hS; revert hlo14; revert hlo13; revert hlo6; revert HQ; revert ZR; revert ZG; revert PT; revert EQ; revert DQ; revert ga14; revert ga13; revert ke9; revert E9; revert kd9; revert D9; revert d9; revert m9; revert B9; revert k9; revert n9; revert A9; revert now; revert ga6; revert wpl
          exact K0.out
         exact AllReadyH.nil
        ·skip
         intro Wm ga6 now A9 n9 k9 B9 m9 d9 D9 kd9 E9 ke9 ga14 DQ EQ PT ZG HQ hlo6 hlo14 hS
         refine rd1 (rs := [13]) (h := ?_)
         refine cs1 (h := fun K hK => ?_) (hs := ?_)
         ·skip
          have hpre := hid (show W2.heap.size ≤ Wm.heap.size from HQ.out.size)
          go_simp
          refine named_alloc ?_
          intro Wa13 hbk hb hsz
          replace DQ := hid (DQ.out.step hb); replace EQ := hid (EQ.out.step hb); replace PT := hid (PT.out.step hb); replace ZG := hid (ZG.out.step hb); replace HQ := hid (below_then HQ.out hb)
          obtain ⟨ga13, hga⟩ : ∃ g, g = Wm.heap.size := ⟨_, rfl⟩
          rw [← hga] at hbk ⊢
          have hlo13 := hid (show W2.heap.size ≤ ga13 by have := hpre.out; omega)
          have ZR := hid hbk
          clear hb hbk hsz hga hpre
          refine hK.out _ _ (hKP.out _ HQ.out) (fun hS' => ?_)
          clear hK K hS
          have hS := hS'
          clear hS'
          (try simp only [Act.put, List.setIfInBounds_toArray, List.set_cons_zero, List.set_cons_succ])
          revert hS; revert hlo14; revert hlo13; revert hlo6; revert HQ; revert ZR; revert ZG; revert PT; revert EQ; revert DQ; revert ga14; revert ga13; revert ke9; revert E9; revert kd9; revert D9; revert d9; revert m9; revert B9; revert k9; revert n9; revert A9; revert now; revert ga6; revert Wa13
          exact K0.out
         exact AllReadyH.nil
        ·skip
         intro Wm ga6 now A9 n9 k9 B9 m9 d9 D9 kd9 E9 ke9 ga13 DQ EQ PT ZR HQ hlo6 hlo13 hS
         refine rd1 (rs := [14]) (h := ?_)
         refine cs1 (h := fun K hK => ?_) (hs := ?_)
         ·skip
          have hpre := hid (show W2.heap.size ≤ Wm.heap.size from HQ.out.size)
          go_simp
          refine named_alloc ?_
          intro Wa14 hbk hb hsz
          replace DQ := hid (DQ.out.step hb); replace EQ := hid (EQ.out.step hb); replace PT := hid (PT.out.step hb); replace ZR := hid (ZR.out.step hb); replace HQ := hid (below_then HQ.out hb)
          obtain ⟨ga14, hga⟩ : ∃ g, g = Wm.heap.size := ⟨_, rfl⟩
          rw [← hga] at hbk ⊢
          have hlo14 := hid (show W2.heap.size ≤ ga14 by have := hpre.out; omega)
          have ZG := hid hbk
          clear hb hbk hsz hga hpre
          refine hK.out _ _ (hKP.out _ HQ.out) (fun hS' => ?_)
          clear hK K hS
          have hS := hS'
          clear hS'
          (try simp only [Act.put, List.setIfInBounds_toArray, List.set_cons_zero, List.set_cons_succ])
          revert hS; revert hlo14; revert hlo13; revert hlo6; revert HQ; revert ZR; revert ZG; revert PT; revert EQ; revert DQ; revert ga14; revert ga13; revert ke9; revert E9; revert kd9; revert D9; revert d9; revert m9; revert B9; revert k9; revert n9; revert A9; revert now; revert ga6; revert Wa14
          exact K0.out
         exact AllReadyH.nil
        ·skip
         intro Wm ga6 now A9 n9 k9 B9 m9 d9 D9 kd9 E9 ke9 ga13 ga14 DQ EQ PT ZG ZR HQ hlo6 hlo13 hlo14 hS
         refine rd1 (rs := [15]) (h := ?_)
         refine cs1 (h := fun K hK => ?_) (hs := ?_)
         ·skip
          have hpre := hid (show W2.heap.size ≤ Wm.heap.size from HQ.out.size)
          obtain ⟨y00, y01, y02, yf0⟩ := ZR.out.cells3
          go_simp
          clear y00 y01 y02 yf0
          refine named_store3 ZR.out ?_
          intro Ws15 hbk hgr hsz
          clear hsz
          replace ZG := hid (ZG.out.grown hgr (fun e => ZR.out.neG ZG.out (by decide) (by simpa using e.symm)))
          replace DQ := hid (DQ.out.keptR ZR.out (by decide) hgr)
          replace EQ := hid (EQ.out.keptR ZR.out (by decide) hgr)
          replace HQ := hid (HQ.out.grown hgr HQ.out.size (fun r e => by cases e; have := HQ.out.size; have := hlo6.out; have := PT.out.lt; have := hlo13.out; have := ZR.out.lt; have := hlo14.out; have := ZG.out.lt; omega))
          replace ZR := hid hbk
          clear hbk hgr hpre
          refine hK.out _ _ (hKP.out _ HQ.out) (fun hS' => ?_)
          clear hK K hS
          have hS := hS'
          clear hS'
          (try simp only [Act.put, List.setIfInBounds_toArray, List.set_cons_zero, List.set_cons_succ])
          refine rd1 (rs := [16]) (h := ?_)
          refine cs1 (h := fun K hK => ?_) (hs := ?_)
          ·skip
           have hpre := hid (show W2.heap.size ≤ Ws15.heap.size from HQ.out.size)
           obtain ⟨y00, y01, y02, y03, yf0⟩ := ZG.out.cells4
           go_simp
           clear y00 y01 y02 y03 yf0
           refine named_store4 ZG.out ?_
           intro Ws16 hbk hgr hsz
           clear hsz
           replace ZR := hid (ZR.out.grown hgr (fun e => ZR.out.neG ZG.out (by decide) (by simpa using e)))
           replace DQ := hid (DQ.out.keptR ZG.out (by decide) hgr)
           replace EQ := hid (EQ.out.keptR ZG.out (by decide) hgr)
           replace HQ := hid (HQ.out.grown hgr HQ.out.size (fun r e => by cases e; have := HQ.out.size; have := hlo6.out; have := PT.out.lt; have := hlo13.out; have := ZR.out.lt; have := hlo14.out; have := ZG.out.lt; omega))
           replace ZG := hid hbk
           clear hbk hgr hpre
           refine hK.out _ _ (hKP.out _ HQ.out) (fun hS' => ?_)
           clear hK K hS
           have hS := hS'
           clear hS'
           (try simp only [Act.put, List.setIfInBounds_toArray, List.set_cons_zero, List.set_cons_succ])
           refine tk1 (i := 17) (v := ?_) (hy := Or.inl ⟨by rfl, ?_⟩) (hS := hS) (h := ?_)
           rotate_left
           · intro w' hSw; (try dsimp only at hSw); go_split_ands; go_simp; (try with_reducible rfl)
           (try simp only [Act.put, List.setIfInBounds_toArray, List.set_cons_zero, List.set_cons_succ])
           refine tk1 (i := 18) (v := ?_) (hy := Or.inl ⟨by rfl, ?_⟩) (hS := hS) (h := ?_)
           rotate_left
           · intro w' hSw; (try dsimp only at hSw); go_split_ands; go_simp; (try with_reducible rfl)
           (try simp only [Act.put, List.setIfInBounds_toArray, List.set_cons_zero, List.set_cons_succ])
           refine wpAnyH_done (by kernel_rfl) ?_ _
           refine NoPanic.normal ?_
           clear hS
           go_wp2_with fail
           go_meet
           exact ⟨_, _, _, _, rfl, rfl, rfl, rfl, ⟨⟨_, _, ZG.out, DQ.out⟩, EQ.out, HQ.out, by have := HQ.out.size; have := hlo6.out; have := PT.out.lt; have := hlo13.out; have := ZR.out.lt; have := hlo14.out; have := ZG.out.lt; omega⟩⟩
          exact AllReadyH.nil
         exact AllReadyH.nil
    case rest =>
      obtain ⟨g8, g9, E2, ke2, rfl, rfl, rfl, rfl, ⟨D9, kd9, h1, h2⟩, h3, h4, h5⟩ := hcut
      rename World => W3
      have PI := hid h1; have DI := hid h2; have EM := hid h3
      replace PH := hid (PH.out.step h4); replace DH := hid (DH.out.step h4); replace EL := hid (EL.out.step h4); replace HB := hid (below_then HB.out h4)
      clear h1 h2 h3 h4 h5 HQ XP1 XP2 XRO XDO
      obtain ⟨y00, y01, y02, y03, yf0⟩ := PH.out.cells4
      go_wp2_with fail
      clear y00 y01 y02 y03 yf0
      have hgo1 : GrOk ⟨[false, true], 0, 1, true⟩ := ⟨by decide, by decide, by decide, by decide, by decide, by decide, by decide⟩
      have hgo2 : GrOk ⟨[false, false], 1, 1, false⟩ := ⟨by decide, by decide, by decide, by decide, by decide, by decide, by decide⟩
      have HO1 := hid hgo1; have HO2 := hid hgo2
      clear hgo1 hgo2
      refine (gbegin_on ⟨[false, true], 0, 1, true⟩ D5 2 kd5 W3 ((DH.out.sl (d := false)).mono (Nat.zero_le _) (Nat.le_refl _)) (by omega) HO1.out rfl).mono ?_
      rintro e W4 ⟨rfl, hb⟩
      replace PI := hid (PI.out.step hb); replace DI := hid (DI.out.step hb); replace EM := hid (EM.out.step hb); replace PH := hid (PH.out.step hb); replace DH := hid (DH.out.step hb); replace EL := hid (EL.out.step hb); replace HB := hid (below_then HB.out hb)
      clear hb
      have zE : gv zGr none 0 0 = .agg #[.int .i64 0, .int .i64 0, .bool false, .slice none 0 0] := rfl
      rw [zE]
      clear zE
      have bx := below_box W4 (.cells #[.int .i64 0, .int .i64 0, .bool false, .slice none 0 0] 27)
      replace PI := hid (PI.out.step bx); replace DI := hid (DI.out.step bx); replace EM := hid (EM.out.step bx); replace PH := hid (PH.out.step bx); replace DH := hid (DH.out.step bx); replace EL := hid (EL.out.step bx); replace HB := hid (below_then HB.out bx)
      clear bx
      go_upto_region 5 with fail
      generalize W4.alloc (.cells #[.int .i64 0, .int .i64 0, .bool false, .slice none 0 0] 27) = W5 at *
      go_wp2_with fail
      have bx := below_box W5 (.cells #[.int .i64 1] 3)
      replace PI := hid (PI.out.step bx); replace DI := hid (DI.out.step bx); replace EM := hid (EM.out.step bx); replace PH := hid (PH.out.step bx); replace DH := hid (DH.out.step bx); replace EL := hid (EL.out.step bx); replace HB := hid (below_then HB.out bx)
      clear bx
      have B1 := hid (Blk.new W5 3 #[.int .i64 1])
      generalize W5.alloc (.cells #[.int .i64 1] 3) = W6 at *
      refine (eq_below E _ 1 ke 1 1 [1] [1] ((EL.out.sl (d := 0)).mono (Nat.zero_le _) (Nat.le_refl _)) ((B1.out.ow (enc := i64) (xs := [1]) (lo := 0) (n := 1) rfl rfl (Nat.zero_le _) (by simp [maxLen])).sl (d := 0)) (by omega) (by omega)).mono ?_
      rintro e W7 ⟨rfl, hb⟩
      replace PI := hid (PI.out.step hb); replace DI := hid (DI.out.step hb); replace EM := hid (EM.out.step hb); replace PH := hid (PH.out.step hb); replace DH := hid (DH.out.step hb); replace EL := hid (EL.out.step hb); replace B1 := hid (B1.out.step hb); replace HB := hid (below_then HB.out hb)
      clear hb
      have dE : decide (([1] : List Int) = [1]) = true := by decide
      rw [dE]
      clear dE
      go_wp2_with fail
      refine (eq_below E2 E 1 ke2 1 ke [1] [1] ((EM.out.sl (d := 0)).mono (Nat.zero_le _) (Nat.le_refl _)) ((EL.out.sl (d := 0)).mono (Nat.zero_le _) (Nat.le_refl _)) (by omega) (by omega)).mono ?_
      rintro e W8 ⟨rfl, hb⟩
      replace PI := hid (PI.out.step hb); replace DI := hid (DI.out.step hb); replace EM := hid (EM.out.step hb); replace PH := hid (PH.out.step hb); replace DH := hid (DH.out.step hb); replace EL := hid (EL.out.step hb); replace B1 := hid (B1.out.step hb); replace HB := hid (below_then HB.out hb)
      clear hb
      have dE : decide (([1] : List Int) = [1]) = true := by decide
      rw [dE]
      clear dE
      obtain ⟨y00, y01, y02, y03, yf0⟩ := PH.out.cells4
      go_wp2_with fail
      clear y00 y01 y02 y03 yf0
      refine (over_ok ⟨[false, true], 0, 1, true⟩ D5 2 kd5 1 _ ((DH.out.sl (d := false)).mono (Nat.zero_le _) (Nat.le_refl _)) (by omega) HO1.out).mono ?_
      rintro e W9 ⟨rfl, hb⟩
      replace PI := hid (PI.out.step hb); replace DI := hid (DI.out.step hb); replace EM := hid (EM.out.step hb); replace PH := hid (PH.out.step hb); replace DH := hid (DH.out.step hb); replace EL := hid (EL.out.step hb); replace B1 := hid (B1.out.step hb); replace HB := hid (below_then HB.out hb)
      clear hb
      have dE : decide ((1 : Int) ≤ 1 ∧ (1 : Int) ≤ 0) = false := by decide
      rw [dE]
      clear dE
      obtain ⟨y00, y01, y02, y03, yf0⟩ := PH.out.cells4
      go_wp2_with fail
      clear y00 y01 y02 y03 yf0
      have bx := below_box W9 (.cells #[.bool false, .bool true] 4)
      replace PI := hid (PI.out.step bx); replace DI := hid (DI.out.step bx); replace EM := hid (EM.out.step bx); replace PH := hid (PH.out.step bx); replace DH := hid (DH.out.step bx); replace EL := hid (EL.out.step bx); replace B1 := hid (B1.out.step bx); replace HB := hid (below_then HB.out bx)
      clear bx
      have B2 := hid (Blk.new W9 4 #[.bool false, .bool true])
      generalize W9.alloc (.cells #[.bool false, .bool true] 4) = W10 at *
      refine (equal_bool D5 _ 2 kd5 2 2 _ _ _ _ [false, true] [false, true] _ (DH.out.sl (d := false)) ((B2.out.ow (enc := blv) (xs := [false, true]) (lo := 0) (n := 2) rfl rfl (Nat.zero_le _) (by simp [maxLen])).sl (d := false)) (by omega) (by omega)).mono ?_
      rintro e W11 ⟨rfl, hb⟩
      replace PI := hid (PI.out.step hb); replace DI := hid (DI.out.step hb); replace EM := hid (EM.out.step hb); replace PH := hid (PH.out.step hb); replace DH := hid (DH.out.step hb); replace EL := hid (EL.out.step hb); replace B1 := hid (B1.out.step hb); replace B2 := hid (B2.out.step hb); replace HB := hid (below_then HB.out hb)
      clear hb
      have dE : decide (([false, true] : List Bool) = [false, true]) = true := by decide
      rw [dE]
      clear dE
      obtain ⟨y00, y01, y02, y03, yf0⟩ := PI.out.cells4
      go_wp2_with fail
      clear y00 y01 y02 y03 yf0
      refine (over_ok ⟨[false, false], 1, 1, false⟩ D9 2 kd9 1 _ ((DI.out.sl (d := false)).mono (Nat.zero_le _) (Nat.le_refl _)) (by omega) HO2.out).mono ?_
      rintro e W12 ⟨rfl, hb⟩
      replace PI := hid (PI.out.step hb); replace DI := hid (DI.out.step hb); replace EM := hid (EM.out.step hb); replace PH := hid (PH.out.step hb); replace DH := hid (DH.out.step hb); replace EL := hid (EL.out.step hb); replace B1 := hid (B1.out.step hb); replace B2 := hid (B2.out.step hb); replace HB := hid (below_then HB.out hb)
      clear hb
      have dE : decide ((1 : Int) ≤ 1 ∧ (1 : Int) ≤ 1) = true := by decide
      rw [dE]
      clear dE
      obtain ⟨y00, y01, y02, y03, yf0⟩ := PI.out.cells4
      go_wp2_with fail
      refine bodyPost_ret (v := .bool true) (by simp [results, Try.results8, go_sem]) rfl ⟨rfl, HB.out⟩
end Go.Proofs.Ytbibfjncjklclaa
