/- afterglowref04: sorted. No condition but sizes. -/
import Derived.Test.YtijofgbealikaaaSc21
import Derived.Test.YtijofgbealikaaaKitA
import Derived.Deep.RegionHeld
import Derived.Deep.DeepCutAuto
import Derived.Deep.CutBlock
namespace Go.Proofs.Ytijofgbealikaaa
open Go.RowKit
theorem insAt_eq : ∀ (l : List Int) (n : Int) (k : Nat), k ≤ l.length → (∀ i, i < k → n ≤ l[i]?.getD 0) → (k = l.length ∨ l[k]?.getD 0 < n) → insAt n l = k
  | [], n, k, hk, _, _ => by
    obtain rfl : k = 0 := by simpa using hk
    rfl
  | x :: l, n, 0, _, _, h => by
    rcases h with h | h
    · simp at h
    · have h' : x < n := h
      unfold insAt
      rw [List.takeWhile_cons, if_neg (by simpa using h')]
      rfl
  | x :: l, n, k + 1, hk, ha, h => by
    have h0 : n ≤ x := ha 0 (by omega)
    have ih := insAt_eq l n k (by simpa using hk) (fun i hi => ha (i + 1) (by omega)) (by
      rcases h with h | h
      · left; simpa using h
      · right; exact h)
    unfold insAt at ih ⊢
    rw [List.takeWhile_cons, if_pos (by simpa using h0), List.length_cons, ih]
theorem insAt_le (n : Int) : ∀ l : List Int, insAt n l ≤ l.length
  | [] => Nat.le_refl _
  | x :: l => by
    have ih := insAt_le n l
    unfold insAt at ih ⊢
    rw [List.takeWhile_cons]
    split
    · rw [List.length_cons, List.length_cons]; omega
    · exact Nat.zero_le _
set_option maxRecDepth 100000 in
set_option maxHeartbeats 8000000 in
theorem rsorted_any (P : Option Addr) (n c : Nat) (xs : List Int) (w : World) (h : Sl i64 0 w 0 w.heap.size P n xs) (hn : n ≤ 1000) :
    Calls Try.prog 41 #[.slice P n c] w fun e w' => (∃ A d, e = .returned (.slice A n d) ∧ Ow i64 w' w.heap.size 3 A n d (sortD xs)) ∧ Below w.heap.size w w' := by
  have HR := hid h; have hl := hid h.len; have HB := hid (Below.refl w.heap.size w)
  obtain ⟨i0, hi0, hz00, hz01, hz02⟩ := info_parts info_int
  clear h
  go_enter Try.func41, Try.ntmps41
  go_wp2_with fail
  go_loopw [3, 5, 6, 9] (fun o _ _ v wr => ∃ (j : Nat) (A : Option Addr) (d : Nat), j ≤ n ∧ v = .int .i64 j ∧ o = .slice A j d ∧ Ow i64 wr w.heap.size 3 A j d (sortD (xs.take j)) ∧ Below w.heap.size w wr) (fun _ _ _ v _ => n - (intOf v).toNat)
  case atStart => exact ⟨0, none, 0, Nat.zero_le _, rfl, rfl, Ow.nil _ _ _, HB.out⟩
  case round =>
    clear HB
    obtain ⟨j, A, d, hj, rfl, rfl, h1, h2⟩ := hrel
    have HO := hid h1; have HB := hid h2
    clear h1 h2
    by_cases hjn : j < n
    rotate_left
    · obtain rfl : j = n := by omega
      have hnn : ¬ ((j : Int) < (j : Int)) := by omega
      have HE := hid (show sortD (xs.take j) = sortD xs by rw [List.take_of_length_le (by rw [hl.out]; exact Nat.le_refl _)])
      go_wp2
      go_ret
      exact ⟨⟨A, d, rfl, by rw [← HE.out]; exact HO.out⟩, HB.out⟩
    obtain ⟨b, off, rfl, _, hbh, hc⟩ := HR.out.row (by omega)
    obtain ⟨x, hx⟩ : ∃ x, x = xs[j]?.getD 0 := ⟨_, rfl⟩
    have f0 := (HB.out.cell (p := ⟨b, off + j, none⟩) hbh).trans (hc j hjn)
    rw [← hx] at f0
    obtain ⟨L, hL⟩ : ∃ L, L = sortD (xs.take j) := ⟨_, rfl⟩
    rw [← hL] at HO
    have HE := hid (show sortD (xs.take (j + 1)) = insD x L by rw [take_succI (by rw [hl.out]; exact hjn), sortD_snoc, ← hL, ← hx])
    have hji : (j : Int) < (n : Int) := by omega
    have hw2 : IntKind.i64.wrap ((j : Int) + 1) = (j : Int) + 1 := by rw [IntKind.wrap_i64]; omega
    have hLl := hid HO.out.len
    have SO := hid (HO.out.sl (d := 0))
    have hcap := HO.out.cap.1
    clear hx hc hL
    go_upto_block 2 with fail
    clear f0
    go_cut [6] (fun v wx => v = .int .i64 (insAt x L) ∧ wx = wr)
    case first =>
     go_wp2_with fail
     go_loopw [6] (fun v wr' => wr' = wr ∧ ∃ k : Nat, k ≤ j ∧ v = .int .i64 k ∧ ∀ i, i < k → x ≤ L[i]?.getD 0) (fun v _ => j - (intOf v).toNat)
     case atStart => exact ⟨rfl, 0, Nat.zero_le _, rfl, fun i hi => absurd hi (Nat.not_lt_zero _)⟩
     case round =>
      obtain ⟨rfl, k, hk, rfl, hall⟩ := hrel
      have HALL := hid hall
      clear hall
      have HAT := hid (fun (hst : k = L.length ∨ L[k]?.getD 0 < x) => insAt_eq L x k (by rw [hLl.out]; exact hk) HALL.out hst)
      by_cases hkj : k < j
      rotate_left
      · obtain rfl : k = j := by omega
        have hnn : ¬ ((k : Int) < (k : Int)) := by omega
        have HK := hid (HAT.out (.inl hLl.out.symm))
        go_wp2
        go_meet
        exact ⟨by rw [HK.out], rfl⟩
      have hki : (k : Int) < (j : Int) := by omega
      have hw3 : IntKind.i64.wrap ((k : Int) + 1) = (k : Int) + 1 := by rw [IntKind.wrap_i64]; omega
      obtain ⟨b2, off2, hA, _, _, hc⟩ := SO.out.row (by omega)
      obtain ⟨y, hy⟩ : ∃ y, y = L[k]?.getD 0 := ⟨_, rfl⟩
      have f1 := hc k hkj
      rw [← hy] at f1 HAT
      have HY := hid hy
      clear hy hc
      subst hA
      by_cases hxy : x ≤ y
      · have d1 : decide (x ≤ y) = true := decide_eq_true hxy
        have HA2 := hid (show ∀ i, i < k + 1 → x ≤ L[i]?.getD 0 from fun i hi => by
          rcases Nat.lt_or_ge i k with h | h
          · exact HALL.out i h
          · obtain rfl : i = k := by omega
            rw [← HY.out]; exact hxy)
        go_wp2
        go_roundw
        case rel => exact ⟨by trivial, k + 1, by omega, by go_num, HA2.out⟩
        case measure => simp [intOf]; omega
      · have d1 : decide (x ≤ y) = false := decide_eq_false hxy
        have HK := hid (HAT.out (.inr (by omega)))
        go_wp2
        go_meet
        exact ⟨by rw [HK.out], rfl⟩
    case rest =>
      obtain ⟨rfl, rfl⟩ := hcut
      obtain ⟨k, hk⟩ : ∃ k, k = insAt x L := ⟨_, rfl⟩
      have HK := hid hk
      rw [← hk]
      clear hk
      have hki : k ≤ j := by rw [HK.out]; have := hLl.out; rw [← this]; exact insAt_le x L
      have hb1 : (0 : Int) ≤ (k : Int) := by omega
      have hb2 : (k : Int) ≤ (d : Int) := by omega
      have hb3 : (k : Int) ≤ (j : Int) := by omega
      have HLEN := hid hLl.out
      have SO2 := hid (SO.out.mono (Nat.zero_le _) (Nat.le_refl _))
      rcases HO.out.own.2 with ⟨hv, h0⟩ | ⟨gO, cap, cur, hv, hb4, hg4, _⟩
      · simp only [Value.slice.injEq] at hv
        obtain ⟨rfl, hj0, rfl⟩ := hv
        obtain rfl : k = 0 := by omega
        obtain rfl : j = 0 := h0
        go_upto_region 8 with fail
        have H9 := hid (Below.refl wc.heap.size wc)
        refine' merge_by (fun K0 => ?_) ?_
        rotate_left
        refine' merge_by (fun K1 => ?_) ?_
        rotate_left
        ·skip
         have bx := (Below.refl wc.heap.size wc).drew
         replace H9 := hid (below_then H9.out bx)
         clear bx
         refine wp_region_noPanic ?_
         refine wp_region_held_drew (S := (fun W' : World => True)) (by kernel_rfl) trivial (fun hS => ?_)
         generalize wc.drew = Wd at *
         refine tk1 (i := 1) (v := ?_) (hy := Or.inl ⟨by rfl, ?_⟩) (hS := hS) (h := ?_)
         rotate_left
         · intro w' hSw; (try dsimp only at hSw); go_split_ands; go_simp; (try with_reducible rfl)
         (try simp only [Act.put, List.setIfInBounds_toArray, List.set_cons_zero, List.set_cons_succ])
         refine tk1 (i := 2) (v := ?_) (hy := Or.inl ⟨by rfl, ?_⟩) (hS := hS) (h := ?_)
         rotate_left
         · intro w' hSw; (try dsimp only at hSw); go_split_ands; go_simp; (try with_reducible rfl)
         (try simp only [Act.put, List.setIfInBounds_toArray, List.set_cons_zero, List.set_cons_succ])
         refine tk1 (i := 3) (v := ?_) (hy := Or.inl ⟨by rfl, ?_⟩) (hS := hS) (h := ?_)
         rotate_left
         · intro w' hSw; (try dsimp only at hSw); go_split_ands; go_simp; (try with_reducible rfl)
         (try simp only [Act.put, List.setIfInBounds_toArray, List.set_cons_zero, List.set_cons_succ])
         refine tk1 (i := 5) (v := ?_) (hy := Or.inl ⟨by rfl, ?_⟩) (hS := hS) (h := ?_)
         rotate_left
         · intro w' hSw; (try dsimp only at hSw); go_split_ands; go_simp; (try with_reducible rfl)
         (try simp only [Act.put, List.setIfInBounds_toArray, List.set_cons_zero, List.set_cons_succ])
         refine tk1 (i := 8) (v := ?_) (hy := Or.inl ⟨by rfl, ?_⟩) (hS := hS) (h := ?_)
         rotate_left
         · intro w' hSw; (try dsimp only at hSw); go_split_ands; go_simp; (try with_reducible rfl)
         (try simp only [Act.put, List.setIfInBounds_toArray, List.set_cons_zero, List.set_cons_succ])
         refine tk1 (i := 9) (v := ?_) (hy := Or.inl ⟨by rfl, ?_⟩) (hS := hS) (h := ?_)
         rotate_left
         · intro w' hSw; (try dsimp only at hSw); go_split_ands; go_simp; (try with_reducible rfl)
         (try simp only [Act.put, List.setIfInBounds_toArray, List.set_cons_zero, List.set_cons_succ])
         refine tk1 (i := 10) (v := ?_) (hy := Or.inl ⟨by rfl, ?_⟩) (hS := hS) (h := ?_)
         rotate_left
         · intro w' hSw; (try dsimp only at hSw); go_split_ands; go_simp; (try with_reducible rfl)
         (try simp only [Act.put, List.setIfInBounds_toArray, List.set_cons_zero, List.set_cons_succ])
         refine rd1 (rs := [0, 6]) (h := ?_)
         refine cs1 (h := fun K hK => ?_) (hs := ?_)
         ·skip
          have hpre := hid (show wc.heap.size ≤ Wd.heap.size from H9.out.size)
          go_simp
          refine named_alloc ?_
          intro Wa0 hbk hb hsz
          skip
          replace H9 := hid (below_then H9.out hb)
          obtain ⟨ga0, hga⟩ : ∃ g, g = Wd.heap.size := ⟨_, rfl⟩
          rw [← hga] at hbk ⊢
          have hlo0 := hid (show wc.heap.size ≤ ga0 by have := hpre.out; omega)
          have PE := hid hbk
          clear hb hbk hsz hga hpre
          have hS' : (fun W' : World => True) Wa0 := trivial
          refine hK.out _ _ hS' (fun _ => ?_)
          clear hK K hS
          have hS := hS'
          clear hS'
          (try simp only [Act.put, List.setIfInBounds_toArray, List.set_cons_zero, List.set_cons_succ])
          refine rd1 (rs := [4, 6]) (h := ?_)
          refine cs1 (h := fun K hK => ?_) (hs := ?_)
          ·skip
           have hpre := hid (show wc.heap.size ≤ Wa0.heap.size from H9.out.size)
           refine step_app i64 0 _ rfl _ _ 22 rfl wc.heap.size 3 i0 _ 8 Try.underlying22 hi0 hz00 hz01 hz02 rfl (some ⟨ga0, 0, none⟩) 0 0 [] rfl (PE.out.ow (xs := []) rfl rfl (by have := hlo0.out; omega) (Nat.zero_le _)) 0 wc.heap.size none 0 _ (L.take 0) rfl (show Sl i64 0 _ 0 wc.heap.size none 0 (L.take 0) from by rw [List.take_zero]; exact Sl.nil _ _ _ _) (fun _ => rfl) (by simp only [maxLen]; omega) (by omega) H9.out.size ?_
           intro A4 c4 Wc4 hown hgr hat
           replace H9 := hid (H9.out.grown hgr H9.out.size (fun r e => by have := hlo0.out; simp [Value.ownBlock] at e; omega))
           simp only [Nat.zero_add, List.nil_append] at hown ⊢
           have R4 := hid hown
           clear hown hgr hat PE
           clear hpre
           have hS' : (fun W' : World => True) Wc4 := trivial
           refine hK.out _ _ hS' (fun _ => ?_)
           clear hK K hS
           have hS := hS'
           clear hS'
           (try simp only [Act.put, List.setIfInBounds_toArray, List.set_cons_zero, List.set_cons_succ])
           refine rd1 (rs := [6]) (h := ?_)
           refine cs1 (h := fun K hK => ?_) (hs := ?_)
           ·skip
            have hpre := hid (show wc.heap.size ≤ Wc4.heap.size from H9.out.size)
            go_simp
            refine named_alloc ?_
            intro Wa6 hbk hb hsz
            have NE4 := hid (show some Wc4.heap.size ≠ (Value.slice A4 0 c4).ownBlock by intro e; have := (R4.out.own.lt _ e.symm).2; omega)
            replace R4 := hid (R4.out.step hb); replace H9 := hid (below_then H9.out hb)
            obtain ⟨ga6, hga⟩ : ∃ g, g = Wc4.heap.size := ⟨_, rfl⟩
            rw [← hga] at hbk ⊢
            rw [← hga] at NE4
            have hlo6 := hid (show wc.heap.size ≤ ga6 by have := hpre.out; omega)
            have PL := hid hbk
            clear hb hbk hsz hga hpre
            have hS' : (fun W' : World => True) Wa6 := trivial
            refine hK.out _ _ hS' (fun _ => ?_)
            clear hK K hS
            have hS := hS'
            clear hS'
            (try simp only [Act.put, List.setIfInBounds_toArray, List.set_cons_zero, List.set_cons_succ])
            revert hS; revert hlo6; revert hlo0; revert NE4; revert H9; revert R4; revert PL; revert ga6; revert c4; revert A4; revert ga0; revert Wa6
            exact K0.out
           exact AllReadyH.nil
          refine cs1 (h := fun K hK => ?_) (hs := ?_)
          ·skip
           have hpre := hid (show wc.heap.size ≤ Wa0.heap.size from H9.out.size)
           go_simp
           refine named_alloc ?_
           intro Wa6 hbk hb hsz
           have NE06 := hid (show ga0 ≠ Wa0.heap.size by have := PE.out.lt; omega)
           replace PE := hid (PE.out.step hb); replace H9 := hid (below_then H9.out hb)
           obtain ⟨ga6, hga⟩ : ∃ g, g = Wa0.heap.size := ⟨_, rfl⟩
           rw [← hga] at hbk ⊢
           rw [← hga] at NE06
           have hlo6 := hid (show wc.heap.size ≤ ga6 by have := hpre.out; omega)
           have PL := hid hbk
           clear hb hbk hsz hga hpre
           have hS' : (fun W' : World => True) Wa6 := trivial
           refine hK.out _ _ hS' (fun _ => ?_)
           clear hK K hS
           have hS := hS'
           clear hS'
           (try simp only [Act.put, List.setIfInBounds_toArray, List.set_cons_zero, List.set_cons_succ])
           revert hS; revert hlo6; revert hlo0; revert NE06; revert H9; revert PL; revert PE; revert ga6; revert ga0; revert Wa6
           exact K1.out
          exact AllReadyH.nil
         refine cs1 (h := fun K hK => ?_) (hs := ?_)
         ·skip
          have hpre := hid (show wc.heap.size ≤ Wd.heap.size from H9.out.size)
          go_simp
          refine named_alloc ?_
          intro Wa6 hbk hb hsz
          skip
          replace H9 := hid (below_then H9.out hb)
          obtain ⟨ga6, hga⟩ : ∃ g, g = Wd.heap.size := ⟨_, rfl⟩
          rw [← hga] at hbk ⊢
          have hlo6 := hid (show wc.heap.size ≤ ga6 by have := hpre.out; omega)
          have PL := hid hbk
          clear hb hbk hsz hga hpre
          have hS' : (fun W' : World => True) Wa6 := trivial
          refine hK.out _ _ hS' (fun _ => ?_)
          clear hK K hS
          have hS := hS'
          clear hS'
          (try simp only [Act.put, List.setIfInBounds_toArray, List.set_cons_zero, List.set_cons_succ])
          refine rd1 (rs := [0]) (h := ?_)
          refine cs1 (h := fun K hK => ?_) (hs := ?_)
          ·skip
           have hpre := hid (show wc.heap.size ≤ Wa6.heap.size from H9.out.size)
           go_simp
           refine named_alloc ?_
           intro Wa0 hbk hb hsz
           have NE06 := hid (show Wa6.heap.size ≠ ga6 by have := PL.out.lt; omega)
           replace PL := hid (PL.out.step hb); replace H9 := hid (below_then H9.out hb)
           obtain ⟨ga0, hga⟩ : ∃ g, g = Wa6.heap.size := ⟨_, rfl⟩
           rw [← hga] at hbk ⊢
           rw [← hga] at NE06
           have hlo0 := hid (show wc.heap.size ≤ ga0 by have := hpre.out; omega)
           have PE := hid hbk
           clear hb hbk hsz hga hpre
           have hS' : (fun W' : World => True) Wa0 := trivial
           refine hK.out _ _ hS' (fun _ => ?_)
           clear hK K hS
           have hS := hS'
           clear hS'
           (try simp only [Act.put, List.setIfInBounds_toArray, List.set_cons_zero, List.set_cons_succ])
           revert hS; revert hlo6; revert hlo0; revert NE06; revert H9; revert PL; revert PE; revert ga6; revert ga0; revert Wa0
           exact K1.out
          exact AllReadyH.nil
         exact AllReadyH.nil
        ·skip
         intro Wm ga0 ga6 PE PL H9 NE06 hlo0 hlo6 hS
         refine rd1 (rs := [4]) (h := ?_)
         refine cs1 (h := fun K hK => ?_) (hs := ?_)
         ·skip
          have hpre := hid (show wc.heap.size ≤ Wm.heap.size from H9.out.size)
          refine step_app i64 0 _ rfl _ _ 22 rfl wc.heap.size 3 i0 _ 8 Try.underlying22 hi0 hz00 hz01 hz02 rfl (some ⟨ga0, 0, none⟩) 0 0 [] rfl (PE.out.ow (xs := []) rfl rfl (by have := hlo0.out; omega) (Nat.zero_le _)) 0 wc.heap.size none 0 _ (L.take 0) rfl (show Sl i64 0 _ 0 wc.heap.size none 0 (L.take 0) from by rw [List.take_zero]; exact Sl.nil _ _ _ _) (fun _ => rfl) (by simp only [maxLen]; omega) (by omega) H9.out.size ?_
          intro A4 c4 Wc4 hown hgr hat
          have hne4 : some ga6 ≠ (Value.slice A4 (0 + 0) c4).ownBlock := by
            intro e; rcases hat with h | h
            · rw [h] at e; exact NE06.out (by simpa [Value.ownBlock] using e.symm)
            · rw [h] at e; have := PL.out.lt; simp at e; omega
          replace PL := hid (PL.out.grown hgr (by intro e; exact NE06.out (by simpa [Value.ownBlock] using e.symm)))
          replace H9 := hid (H9.out.grown hgr H9.out.size (fun r e => by have := hlo0.out; simp [Value.ownBlock] at e; omega))
          simp only [Nat.zero_add, List.nil_append] at hown hne4 ⊢
          have R4 := hid hown
          have NE4 := hid hne4
          clear NE06 hne4
          clear hown hgr hat PE
          clear hpre
          have hS' : (fun W' : World => True) Wc4 := trivial
          refine hK.out _ _ hS' (fun _ => ?_)
          clear hK K hS
          have hS := hS'
          clear hS'
          (try simp only [Act.put, List.setIfInBounds_toArray, List.set_cons_zero, List.set_cons_succ])
          revert hS; revert hlo6; revert hlo0; revert NE4; revert H9; revert R4; revert PL; revert ga6; revert c4; revert A4; revert ga0; revert Wc4
          exact K0.out
         exact AllReadyH.nil
        ·skip
         intro Wm ga0 A4 c4 ga6 PL R4 H9 NE4 hlo0 hlo6 hS
         refine rd1 (rs := [7]) (h := ?_)
         refine cs1 (h := fun K hK => ?_) (hs := ?_)
         ·skip
          have hpre := hid (show wc.heap.size ≤ Wm.heap.size from H9.out.size)
          refine step_app i64 0 _ rfl _ _ 22 rfl wc.heap.size 3 i0 _ 8 Try.underlying22 hi0 hz00 hz01 hz02 rfl A4 0 c4 (L.take 0) rfl R4.out 0 _ (some ⟨ga6, 0, none⟩) 1 1 [x] rfl ((PL.out.ow (enc := i64) (xs := [x]) (lo := 0) rfl rfl (Nat.zero_le _) (by simp [maxLen])).sl (d := 0)) (fun _ => rfl) (by simp only [maxLen]; omega) (by omega) H9.out.size ?_
          intro A7 c7 Wc7 hown hgr hat
          replace H9 := hid (H9.out.grown hgr H9.out.size (fun r e => R4.out.row_ge r e))
          have R7 := hid hown
          clear hown hgr hat R4 PL NE4
          clear hpre
          have hS' : (fun W' : World => True) Wc7 := trivial
          refine hK.out _ _ hS' (fun _ => ?_)
          clear hK K hS
          have hS := hS'
          clear hS'
          (try simp only [Act.put, List.setIfInBounds_toArray, List.set_cons_zero, List.set_cons_succ])
          refine rd1 (rs := [11]) (h := ?_)
          refine cs1 (h := fun K hK => ?_) (hs := ?_)
          ·skip
           have hpre := hid (show wc.heap.size ≤ Wc7.heap.size from H9.out.size)
           refine step_app i64 0 _ rfl _ _ 22 rfl wc.heap.size 3 i0 _ 8 Try.underlying22 hi0 hz00 hz01 hz02 rfl A7 (0 + 1) c7 (L.take 0 ++ [x]) rfl R7.out 0 wc.heap.size none 0 _ (L.drop 0) rfl (show Sl i64 0 _ 0 wc.heap.size none 0 (L.drop 0) from by rw [List.drop_zero, List.length_eq_zero_iff.1 HLEN.out]; exact Sl.nil _ _ _ _) (fun _ => rfl) (by simp only [maxLen]; omega) (by omega) H9.out.size ?_
           intro A11 c11 Wc11 hown hgr hat
           replace H9 := hid (H9.out.grown hgr H9.out.size (fun r e => R7.out.row_ge r e))
           have R11 := hid hown
           clear hown hgr hat R7
           clear hpre
           have hS' : (fun W' : World => True) Wc11 := trivial
           refine hK.out _ _ hS' (fun _ => ?_)
           clear hK K hS
           have hS := hS'
           clear hS'
           (try simp only [Act.put, List.setIfInBounds_toArray, List.set_cons_zero, List.set_cons_succ])
           refine tk1 (i := 12) (v := ?_) (hy := Or.inl ⟨by rfl, ?_⟩) (hS := hS) (h := ?_)
           rotate_left
           · intro w' hSw; (try dsimp only at hSw); go_split_ands; go_simp; (try with_reducible rfl)
           (try simp only [Act.put, List.setIfInBounds_toArray, List.set_cons_zero, List.set_cons_succ])
           refine wpAnyH_done (by kernel_rfl) ?_ _
           refine NoPanic.normal ?_
           clear hS
           go_wp2_with fail
           have hfin := hid (show L.take 0 ++ [x] ++ L.drop 0 = insD x L by rw [insD_at, ← HK.out, List.append_assoc]; (try rfl))
           go_roundw
           case rel => exact ⟨0 + 1, A11, c11, by omega, by go_num, by first | rfl | (congr 1; omega), by rw [HE.out, ← hfin.out, show 0 + 1 = (0 + 1 + 0) by omega]; exact R11.out.mono (by have := HB.out.size; omega), below_then HB.out H9.out⟩
           case measure => simp [intOf]; omega
          exact AllReadyH.nil
         exact AllReadyH.nil
      simp only [Value.slice.injEq] at hv
      obtain ⟨rfl, _, rfl⟩ := hv
      have HPART := hid (show Sl i64 0 wc 0 wc.heap.size (if d = k then some ⟨gO, 0, none⟩ else some ⟨gO, k, none⟩) (j - k) (L.drop k) from by
        by_cases e : d = k
        · obtain rfl : k = j := by omega
          rw [Nat.sub_self, List.drop_of_length_le (by rw [HLEN.out]; exact Nat.le_refl _)]
          exact Sl.nil _ _ _ _
        · rw [if_neg e]
          have h := SO2.out.sub (i := k) (k := j - k) (by omega)
          rw [Nat.zero_add, List.take_of_length_le (by rw [List.length_drop, HLEN.out]; exact Nat.le_refl _)] at h
          exact h)
      go_upto_region 8 with fail
      have H9 := hid (Below.refl wc.heap.size wc)
      refine' merge_by (fun K0 => ?_) ?_
      rotate_left
      refine' merge_by (fun K1 => ?_) ?_
      rotate_left
      ·skip
       have bx := (Below.refl wc.heap.size wc).drew
       replace H9 := hid (below_then H9.out bx)
       clear bx
       refine wp_region_noPanic ?_
       refine wp_region_held_drew (S := (fun W' : World => True)) (by kernel_rfl) trivial (fun hS => ?_)
       generalize wc.drew = Wd at *
       refine tk1 (i := 1) (v := ?_) (hy := Or.inl ⟨by rfl, ?_⟩) (hS := hS) (h := ?_)
       rotate_left
       · intro w' hSw; (try dsimp only at hSw); go_split_ands; go_simp; (try with_reducible rfl)
       (try simp only [Act.put, List.setIfInBounds_toArray, List.set_cons_zero, List.set_cons_succ])
       refine tk1 (i := 2) (v := ?_) (hy := Or.inl ⟨by rfl, ?_⟩) (hS := hS) (h := ?_)
       rotate_left
       · intro w' hSw; (try dsimp only at hSw); go_split_ands; go_simp; (try with_reducible rfl)
       (try simp only [Act.put, List.setIfInBounds_toArray, List.set_cons_zero, List.set_cons_succ])
       refine tk1 (i := 3) (v := ?_) (hy := Or.inl ⟨by rfl, ?_⟩) (hS := hS) (h := ?_)
       rotate_left
       · intro w' hSw; (try dsimp only at hSw); go_split_ands; go_simp; (try with_reducible rfl)
       (try simp only [Act.put, List.setIfInBounds_toArray, List.set_cons_zero, List.set_cons_succ])
       refine tk1 (i := 5) (v := ?_) (hy := Or.inl ⟨by rfl, ?_⟩) (hS := hS) (h := ?_)
       rotate_left
       · intro w' hSw; (try dsimp only at hSw); go_split_ands; go_simp; (try with_reducible rfl)
       (try simp only [Act.put, List.setIfInBounds_toArray, List.set_cons_zero, List.set_cons_succ])
       refine tk1 (i := 8) (v := ?_) (hy := Or.inl ⟨by rfl, ?_⟩) (hS := hS) (h := ?_)
       rotate_left
       · intro w' hSw; (try dsimp only at hSw); go_split_ands; go_simp; (try with_reducible rfl)
       (try simp only [Act.put, List.setIfInBounds_toArray, List.set_cons_zero, List.set_cons_succ])
       refine tk1 (i := 9) (v := ?_) (hy := Or.inl ⟨by rfl, ?_⟩) (hS := hS) (h := ?_)
       rotate_left
       · intro w' hSw; (try dsimp only at hSw); go_split_ands; go_simp; (try with_reducible rfl)
       (try simp only [Act.put, List.setIfInBounds_toArray, List.set_cons_zero, List.set_cons_succ])
       refine tk1 (i := 10) (v := ?_) (hy := Or.inl ⟨by rfl, ?_⟩) (hS := hS) (h := ?_)
       rotate_left
       · intro w' hSw; (try dsimp only at hSw); go_split_ands; go_simp; (try with_reducible rfl)
       (try simp only [Act.put, List.setIfInBounds_toArray, List.set_cons_zero, List.set_cons_succ])
       refine rd1 (rs := [0, 6]) (h := ?_)
       refine cs1 (h := fun K hK => ?_) (hs := ?_)
       ·skip
        have hpre := hid (show wc.heap.size ≤ Wd.heap.size from H9.out.size)
        go_simp
        refine named_alloc ?_
        intro Wa0 hbk hb hsz
        skip
        replace H9 := hid (below_then H9.out hb)
        obtain ⟨ga0, hga⟩ : ∃ g, g = Wd.heap.size := ⟨_, rfl⟩
        rw [← hga] at hbk ⊢
        have hlo0 := hid (show wc.heap.size ≤ ga0 by have := hpre.out; omega)
        have PE := hid hbk
        clear hb hbk hsz hga hpre
        have hS' : (fun W' : World => True) Wa0 := trivial
        refine hK.out _ _ hS' (fun _ => ?_)
        clear hK K hS
        have hS := hS'
        clear hS'
        (try simp only [Act.put, List.setIfInBounds_toArray, List.set_cons_zero, List.set_cons_succ])
        refine rd1 (rs := [4, 6]) (h := ?_)
        refine cs1 (h := fun K hK => ?_) (hs := ?_)
        ·skip
         have hpre := hid (show wc.heap.size ≤ Wa0.heap.size from H9.out.size)
         refine step_app i64 0 _ rfl _ _ 22 rfl wc.heap.size 3 i0 _ 8 Try.underlying22 hi0 hz00 hz01 hz02 rfl (some ⟨ga0, 0, none⟩) 0 0 [] rfl (PE.out.ow (xs := []) rfl rfl (by have := hlo0.out; omega) (Nat.zero_le _)) 0 wc.heap.size (some ⟨gO, 0, none⟩) k _ (L.take k) rfl ((SO2.out.take hki).below H9.out (Nat.le_refl _)) (fun _ => rfl) (by simp only [maxLen]; omega) (by omega) H9.out.size ?_
         intro A4 c4 Wc4 hown hgr hat
         replace H9 := hid (H9.out.grown hgr H9.out.size (fun r e => by have := hlo0.out; simp [Value.ownBlock] at e; omega))
         simp only [Nat.zero_add, List.nil_append] at hown ⊢
         have R4 := hid hown
         clear hown hgr hat PE
         clear hpre
         have hS' : (fun W' : World => True) Wc4 := trivial
         refine hK.out _ _ hS' (fun _ => ?_)
         clear hK K hS
         have hS := hS'
         clear hS'
         (try simp only [Act.put, List.setIfInBounds_toArray, List.set_cons_zero, List.set_cons_succ])
         refine rd1 (rs := [6]) (h := ?_)
         refine cs1 (h := fun K hK => ?_) (hs := ?_)
         ·skip
          have hpre := hid (show wc.heap.size ≤ Wc4.heap.size from H9.out.size)
          go_simp
          refine named_alloc ?_
          intro Wa6 hbk hb hsz
          have NE4 := hid (show some Wc4.heap.size ≠ (Value.slice A4 k c4).ownBlock by intro e; have := (R4.out.own.lt _ e.symm).2; omega)
          replace R4 := hid (R4.out.step hb); replace H9 := hid (below_then H9.out hb)
          obtain ⟨ga6, hga⟩ : ∃ g, g = Wc4.heap.size := ⟨_, rfl⟩
          rw [← hga] at hbk ⊢
          rw [← hga] at NE4
          have hlo6 := hid (show wc.heap.size ≤ ga6 by have := hpre.out; omega)
          have PL := hid hbk
          clear hb hbk hsz hga hpre
          have hS' : (fun W' : World => True) Wa6 := trivial
          refine hK.out _ _ hS' (fun _ => ?_)
          clear hK K hS
          have hS := hS'
          clear hS'
          (try simp only [Act.put, List.setIfInBounds_toArray, List.set_cons_zero, List.set_cons_succ])
          revert hS; revert hlo6; revert hlo0; revert NE4; revert H9; revert R4; revert PL; revert ga6; revert c4; revert A4; revert ga0; revert Wa6
          exact K0.out
         exact AllReadyH.nil
        refine cs1 (h := fun K hK => ?_) (hs := ?_)
        ·skip
         have hpre := hid (show wc.heap.size ≤ Wa0.heap.size from H9.out.size)
         go_simp
         refine named_alloc ?_
         intro Wa6 hbk hb hsz
         have NE06 := hid (show ga0 ≠ Wa0.heap.size by have := PE.out.lt; omega)
         replace PE := hid (PE.out.step hb); replace H9 := hid (below_then H9.out hb)
         obtain ⟨ga6, hga⟩ : ∃ g, g = Wa0.heap.size := ⟨_, rfl⟩
         rw [← hga] at hbk ⊢
         rw [← hga] at NE06
         have hlo6 := hid (show wc.heap.size ≤ ga6 by have := hpre.out; omega)
         have PL := hid hbk
         clear hb hbk hsz hga hpre
         have hS' : (fun W' : World => True) Wa6 := trivial
         refine hK.out _ _ hS' (fun _ => ?_)
         clear hK K hS
         have hS := hS'
         clear hS'
         (try simp only [Act.put, List.setIfInBounds_toArray, List.set_cons_zero, List.set_cons_succ])
         revert hS; revert hlo6; revert hlo0; revert NE06; revert H9; revert PL; revert PE; revert ga6; revert ga0; revert Wa6
         exact K1.out
        exact AllReadyH.nil
       refine cs1 (h := fun K hK => ?_) (hs := ?_)
       ·skip
        have hpre := hid (show wc.heap.size ≤ Wd.heap.size from H9.out.size)
        go_simp
        refine named_alloc ?_
        intro Wa6 hbk hb hsz
        skip
        replace H9 := hid (below_then H9.out hb)
        obtain ⟨ga6, hga⟩ : ∃ g, g = Wd.heap.size := ⟨_, rfl⟩
        rw [← hga] at hbk ⊢
        have hlo6 := hid (show wc.heap.size ≤ ga6 by have := hpre.out; omega)
        have PL := hid hbk
        clear hb hbk hsz hga hpre
        have hS' : (fun W' : World => True) Wa6 := trivial
        refine hK.out _ _ hS' (fun _ => ?_)
        clear hK K hS
        have hS := hS'
        clear hS'
        (try simp only [Act.put, List.setIfInBounds_toArray, List.set_cons_zero, List.set_cons_succ])
        refine rd1 (rs := [0]) (h := ?_)
        refine cs1 (h := fun K hK => ?_) (hs := ?_)
        ·skip
         have hpre := hid (show wc.heap.size ≤ Wa6.heap.size from H9.out.size)
         go_simp
         refine named_alloc ?_
         intro Wa0 hbk hb hsz
         have NE06 := hid (show Wa6.heap.size ≠ ga6 by have := PL.out.lt; omega)
         replace PL := hid (PL.out.step hb); replace H9 := hid (below_then H9.out hb)
         obtain ⟨ga0, hga⟩ : ∃ g, g = Wa6.heap.size := ⟨_, rfl⟩
         rw [← hga] at hbk ⊢
         rw [← hga] at NE06
         have hlo0 := hid (show wc.heap.size ≤ ga0 by have := hpre.out; omega)
         have PE := hid hbk
         clear hb hbk hsz hga hpre
         have hS' : (fun W' : World => True) Wa0 := trivial
         refine hK.out _ _ hS' (fun _ => ?_)
         clear hK K hS
         have hS := hS'
         clear hS'
         (try simp only [Act.put, List.setIfInBounds_toArray, List.set_cons_zero, List.set_cons_succ])
         revert hS; revert hlo6; revert hlo0; revert NE06; revert H9; revert PL; revert PE; revert ga6; revert ga0; revert Wa0
         exact K1.out
        exact AllReadyH.nil
       exact AllReadyH.nil
      ·skip
       intro Wm ga0 ga6 PE PL H9 NE06 hlo0 hlo6 hS
       refine rd1 (rs := [4]) (h := ?_)
       refine cs1 (h := fun K hK => ?_) (hs := ?_)
       ·skip
        have hpre := hid (show wc.heap.size ≤ Wm.heap.size from H9.out.size)
        refine step_app i64 0 _ rfl _ _ 22 rfl wc.heap.size 3 i0 _ 8 Try.underlying22 hi0 hz00 hz01 hz02 rfl (some ⟨ga0, 0, none⟩) 0 0 [] rfl (PE.out.ow (xs := []) rfl rfl (by have := hlo0.out; omega) (Nat.zero_le _)) 0 wc.heap.size (some ⟨gO, 0, none⟩) k _ (L.take k) rfl ((SO2.out.take hki).below H9.out (Nat.le_refl _)) (fun _ => rfl) (by simp only [maxLen]; omega) (by omega) H9.out.size ?_
        intro A4 c4 Wc4 hown hgr hat
        have hne4 : some ga6 ≠ (Value.slice A4 (0 + k) c4).ownBlock := by
          intro e; rcases hat with h | h
          · rw [h] at e; exact NE06.out (by simpa [Value.ownBlock] using e.symm)
          · rw [h] at e; have := PL.out.lt; simp at e; omega
        replace PL := hid (PL.out.grown hgr (by intro e; exact NE06.out (by simpa [Value.ownBlock] using e.symm)))
        replace H9 := hid (H9.out.grown hgr H9.out.size (fun r e => by have := hlo0.out; simp [Value.ownBlock] at e; omega))
        simp only [Nat.zero_add, List.nil_append] at hown hne4 ⊢
        have R4 := hid hown
        have NE4 := hid hne4
        clear NE06 hne4
        clear hown hgr hat PE
        clear hpre
        have hS' : (fun W' : World => True) Wc4 := trivial
        refine hK.out _ _ hS' (fun _ => ?_)
        clear hK K hS
        have hS := hS'
        clear hS'
        (try simp only [Act.put, List.setIfInBounds_toArray, List.set_cons_zero, List.set_cons_succ])
        revert hS; revert hlo6; revert hlo0; revert NE4; revert H9; revert R4; revert PL; revert ga6; revert c4; revert A4; revert ga0; revert Wc4
        exact K0.out
       exact AllReadyH.nil
      ·skip
       intro Wm ga0 A4 c4 ga6 PL R4 H9 NE4 hlo0 hlo6 hS
       refine rd1 (rs := [7]) (h := ?_)
       refine cs1 (h := fun K hK => ?_) (hs := ?_)
       ·skip
        have hpre := hid (show wc.heap.size ≤ Wm.heap.size from H9.out.size)
        refine step_app i64 0 _ rfl _ _ 22 rfl wc.heap.size 3 i0 _ 8 Try.underlying22 hi0 hz00 hz01 hz02 rfl A4 k c4 (L.take k) rfl R4.out 0 _ (some ⟨ga6, 0, none⟩) 1 1 [x] rfl ((PL.out.ow (enc := i64) (xs := [x]) (lo := 0) rfl rfl (Nat.zero_le _) (by simp [maxLen])).sl (d := 0)) (fun _ => rfl) (by simp only [maxLen]; omega) (by omega) H9.out.size ?_
        intro A7 c7 Wc7 hown hgr hat
        replace H9 := hid (H9.out.grown hgr H9.out.size (fun r e => R4.out.row_ge r e))
        have R7 := hid hown
        clear hown hgr hat R4 PL NE4
        clear hpre
        have hS' : (fun W' : World => True) Wc7 := trivial
        refine hK.out _ _ hS' (fun _ => ?_)
        clear hK K hS
        have hS := hS'
        clear hS'
        (try simp only [Act.put, List.setIfInBounds_toArray, List.set_cons_zero, List.set_cons_succ])
        refine rd1 (rs := [11]) (h := ?_)
        refine cs1 (h := fun K hK => ?_) (hs := ?_)
        ·skip
         have hpre := hid (show wc.heap.size ≤ Wc7.heap.size from H9.out.size)
         refine step_app i64 0 _ rfl _ _ 22 rfl wc.heap.size 3 i0 _ 8 Try.underlying22 hi0 hz00 hz01 hz02 rfl A7 (k + 1) c7 (L.take k ++ [x]) rfl R7.out 0 wc.heap.size _ (j - k) _ (L.drop k) rfl (HPART.out.below H9.out (Nat.le_refl _)) (fun _ => rfl) (by simp only [maxLen]; omega) (by omega) H9.out.size ?_
         intro A11 c11 Wc11 hown hgr hat
         replace H9 := hid (H9.out.grown hgr H9.out.size (fun r e => R7.out.row_ge r e))
         have R11 := hid hown
         clear hown hgr hat R7
         clear hpre
         have hS' : (fun W' : World => True) Wc11 := trivial
         refine hK.out _ _ hS' (fun _ => ?_)
         clear hK K hS
         have hS := hS'
         clear hS'
         (try simp only [Act.put, List.setIfInBounds_toArray, List.set_cons_zero, List.set_cons_succ])
         refine tk1 (i := 12) (v := ?_) (hy := Or.inl ⟨by rfl, ?_⟩) (hS := hS) (h := ?_)
         rotate_left
         · intro w' hSw; (try dsimp only at hSw); go_split_ands; go_simp; (try with_reducible rfl)
         (try simp only [Act.put, List.setIfInBounds_toArray, List.set_cons_zero, List.set_cons_succ])
         refine wpAnyH_done (by kernel_rfl) ?_ _
         refine NoPanic.normal ?_
         clear hS
         go_wp2_with fail
         have hfin := hid (show L.take k ++ [x] ++ L.drop k = insD x L by rw [insD_at, ← HK.out, List.append_assoc]; (try rfl))
         go_roundw
         case rel => exact ⟨j + 1, A11, c11, by omega, by go_num, by first | rfl | (congr 1; omega), by rw [HE.out, ← hfin.out, show j + 1 = (k + 1 + (j - k)) by omega]; exact R11.out.mono (by have := HB.out.size; omega), below_then HB.out H9.out⟩
         case measure => simp [intOf]; omega
        exact AllReadyH.nil
       exact AllReadyH.nil
end Go.Proofs.Ytijofgbealikaaa
