/- package reader and afterglowref11: Same. No condition but sizes. -/
import Derived.Test.YtbibfjncjklclaaRd6
namespace Go.Proofs.Ytbibfjncjklclaa
open Go.RowKit Go.Shelf Go.Maps
def sameR (now : Int) (ns os : List Int) (now' : Int) (ns' os' : List Int) : Bool := decide (now = now' ∧ ns = ns' ∧ os = os')

theorem eq_below (A B : Option Addr) (n c m c' : Nat) (xs ys : List Int) {w : World} (hx : Sl i64 0 w 0 w.heap.size A n xs) (hy : Sl i64 0 w 0 w.heap.size B m ys) (hn : n ≤ 1000) (hm : m ≤ 1000) :
    Calls Try.prog 18 #[.slice A n c, .slice B m c'] w fun e w' => e = .returned (.bool (decide (xs = ys))) ∧ Below w.heap.size w w' :=
  (equal_int A B n c m c' _ _ _ _ xs ys w hx hy (by omega) (by omega)).mono fun _ _ ⟨he, q, hw⟩ => ⟨he, by subst hw; exact below_drewN (Below.refl _ _) q⟩

set_option maxHeartbeats 1000000 in
theorem rsame_row (A B : Option Addr) (n c m c' : Nat) (xs ys : List Int) {w : World} (hx : Sl i64 0 w 0 w.heap.size A n xs) (hy : Sl i64 0 w 0 w.heap.size B m ys) (hn : n ≤ 1000) (hm : m ≤ 1000) :
    Calls Try.prog 47 #[.slice A n c, .slice B m c'] w fun e w' => e = .returned (.bool (decide (xs = ys))) ∧ Below w.heap.size w w' := by
  have HX := hid hx; have HY := hid hy
  by_cases hnm : n = m
  · subst hnm
    clear hx hy
    have e3 : ((n : Int) != (n : Int)) = false := by simp
    go_enter Try.func47, Try.ntmps47
    go_wp2
    go_loop [14] (fun i => ∃ k : Nat, k ≤ n ∧ i = .int .i64 k ∧ (∀ j, j < k → xs[j]?.getD 0 = ys[j]?.getD 0)) (fun i => n - (intOf i).toNat)
    case atStart => exact ⟨0, Nat.zero_le _, rfl, fun j hj => absurd hj (Nat.not_lt_zero _)⟩
    case round =>
      obtain ⟨k, hk, rfl, hall⟩ := hrel
      have HA := hid hall; clear hall
      by_cases hlt : k < n
      · obtain ⟨b, off, rfl, _, _, hc1⟩ := HX.out.row (by omega)
        obtain ⟨b', off', rfl, _, _, hc2⟩ := HY.out.row (by omega)
        have g1 := hc1 k hlt
        have g2 := hc2 k hlt
        clear hc1 hc2
        obtain ⟨x, hX⟩ : ∃ x, x = xs[k]?.getD 0 := ⟨_, rfl⟩
        obtain ⟨y, hY⟩ : ∃ y, y = ys[k]?.getD 0 := ⟨_, rfl⟩
        rw [← hX] at g1
        rw [← hY] at g2
        have HX' := hid hX; have HY' := hid hY
        clear hX hY
        by_cases hxy : x = y
        · have e4 : (x != y) = false := by simp [hxy]
          clear hxy
          go_wp2
          go_round
          case rel => exact ⟨k + 1, by omega, by go_num, below_succ HA.out (by rw [← HX'.out, ← HY'.out]; simpa using e4)⟩
          case measure => simp [intOf]; omega
        · have e4 : (x != y) = true := by simp [hxy]
          have HD := hid (show decide (xs = ys) = false from decide_eq_false (by rintro rfl; exact hxy (by rw [HX'.out, HY'.out])))
          clear hxy
          go_wp2
          go_ret
          exact ⟨ret_bool HD.out.symm, Below.refl _ _⟩
      · obtain rfl : k = n := by omega
        have HD := hid (show decide (xs = ys) = true from decide_eq_true (ext_getD HX.out.len HY.out.len HA.out))
        go_wp2
        go_ret
        exact ⟨ret_bool HD.out.symm, Below.refl _ _⟩
  · have e3 : ((n : Int) != (m : Int)) = true := by simp; omega
    have HD := hid (show decide (xs = ys) = false from decide_eq_false (by rintro rfl; exact hnm (hx.len.symm.trans hy.len)))
    clear hnm hx hy
    go_enter Try.func47, Try.ntmps47
    go_wp2
    go_ret
    exact ⟨ret_bool HD.out.symm, Below.refl _ _⟩

set_option maxHeartbeats 2000000 in
theorem rsame_any (now : Int) (A : Option Addr) (n c : Nat) (B : Option Addr) (m d : Nat) (ns os : List Int) (now' : Int) (A' : Option Addr) (n' c' : Nat) (B' : Option Addr) (m' d' : Nat) (ns' os' : List Int) (w : World) (h : Rds w A n c B m d ns os) (h' : Rds w A' n' c' B' m' d' ns' os') :
    Calls Try.prog 16 #[rv now A n c B m d, rv now' A' n' c' B' m' d'] w fun e w' => e = .returned (.bool (sameR now ns os now' ns' os')) ∧ Below w.heap.size w w' := by
  have hbx := below_then (below_box w (.cells (rcs now A n c B m d) 24)) (below_box _ (.cells (rcs now' A' n' c' B' m' d') 24))
  have h0 := h.step hbx; have h0' := h'.step hbx
  have P := (Blk.new w 24 (rcs now A n c B m d)).step (below_box _ (.cells (rcs now' A' n' c' B' m' d') 24))
  have P' := Blk.new2 w 24 (rcs now' A' n' c' B' m' d') (.cells (rcs now A n c B m d) 24)
  clear h h'
  by_cases e1 : now = now'
  · have E1 : (now == now') = true := by simp [e1]
    have H1 := hid (rsame_row A A' n c n' c' _ _ h0.hx h0'.hx h0.hn h0'.hn)
    have HE := hid e1
    clear e1
    obtain ⟨k0, k1, k2, kf⟩ := P.cells3
    obtain ⟨r0, r1, r2, rf⟩ := P'.cells3
    go_enter Try.func16, Try.ntmps16
    go_wp2_with fail
    refine H1.out.mono ?_
    rintro e w1 ⟨rfl, hb⟩
    clear k0 k1 k2 kf r0 r1 r2 rf
    replace hbx := below_then hbx hb
    replace h0 := h0.step hb; replace h0' := h0'.step hb
    obtain ⟨k0, k1, k2, kf⟩ := (P.step hb).cells3
    obtain ⟨r0, r1, r2, rf⟩ := (P'.step hb).cells3
    clear P P' H1 hb
    by_cases e2 : ns = ns'
    · have E2 : decide (ns = ns') = true := decide_eq_true e2
      have H2 := hid (rsame_row B B' m d m' d' _ _ h0.hy h0'.hy h0.hm h0'.hm)
      have E := hid (show sameR now ns os now' ns' os' = decide (os = os') from decide_eq_decide.2 ⟨fun h => h.2.2, fun h => ⟨HE.out, e2, h⟩⟩)
      rw [E2]
      clear e2 E2
      go_wp2_with fail
      refine H2.out.mono ?_
      rintro e w2 ⟨rfl, hb⟩
      replace hbx := below_then hbx hb
      clear k0 k1 k2 kf r0 r1 r2 rf hb
      generalize hq : decide (os = os') = q at *
      have HQ := hid hq
      clear hq
      go_wp2
      go_ret
      exact ⟨ret_bool E.out.symm, hbx⟩
    · have E2 : decide (ns = ns') = false := decide_eq_false e2
      have E := hid (show sameR now ns os now' ns' os' = false from decide_eq_false (fun h => e2 h.2.1))
      rw [E2]
      clear e2 E2
      go_wp2
      go_ret
      exact ⟨ret_bool E.out.symm, hbx⟩
  · have E1 : (now == now') = false := by simp [e1]
    have E := hid (show sameR now ns os now' ns' os' = false from decide_eq_false (fun h => e1 h.1))
    clear e1 h0 h0' P'
    obtain ⟨k0, k1, k2, kf⟩ := P.cells3
    go_enter Try.func16, Try.ntmps16
    go_wp2
    go_ret
    exact ⟨ret_bool E.out.symm, hbx⟩

end Go.Proofs.Ytbibfjncjklclaa
