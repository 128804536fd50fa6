/- package queue: take. No condition but sizes. -/
import Derived.Test.YtfipdoofgbjbjaaQu3
import Derived.Test.YtfipdoofgbjbjaaKitA
import Derived.BigQuiet
namespace Go.Proofs.Ytfipdoofgbjbjaa
open Go.RowKit
/-- the two cells of a queue that is being drained -/
abbrev dcs (A : Option Addr) (m c : Nat) (o : Int) : Array Value := #[.slice A m c, .int .u64 o]
set_option maxHeartbeats 2000000 in
theorem take_none (D : Nat) (A : Option Addr) (m c : Nat) (o lo hi : Nat) (oo : Int) (xs : List Cb) (w : World) (hP : Blk w D 139 (dcs A m c oo)) (h : Sm 2 encC (0, 0) w lo hi A m xs) (hn : m ≤ 1000000) (hno : ¬ (0 < m ∧ perAt xs 0 ≤ oo)) :
    Calls Try.prog 99 #[ptr D] w fun e w' => e = .returned (.tuple #[.int .u64 0, .bool false]) ∧ ∃ q, w' = w.drewN q := by
  obtain ⟨p0, p1, pf⟩ := hP.cells2
  rcases Nat.eq_zero_or_pos m with h0 | h0
  · have h0i : (m : Int) = 0 := by omega
    go_enter Try.func99, Try.ntmps99
    go_wp2_with fail
    go_quiet (fail)
    go_wp2
    exact bodyPost_ret (v := .tuple #[.int .u64 0, .bool false]) (by simp [results, Try.results99, go_sem]) rfl ⟨rfl, _, rfl⟩
  · have h0i : ((m : Int) == 0) = false := by simp; omega
    have h0p : (0 : Int) < (m : Int) := by omega
    obtain ⟨b, off, rfl, _, hbh, hc⟩ := h.row h0
    obtain ⟨c0, c1⟩ := Sm.cb (lo := lo) (hi := hi) hc h0
    obtain ⟨x, hx⟩ : ∃ x, x = xs[0]?.getD (0, 0) := ⟨_, rfl⟩
    rw [← hx] at c0 c1
    have hgt : oo < x.1 := by
      have : perAt xs 0 = x.1 := by rw [hx]; rfl
      rw [this] at hno
      omega
    rw [Nat.zero_mul, Nat.add_zero] at c0 c1
    clear hx hc hno
    go_enter Try.func99, Try.ntmps99
    go_wp2_with fail
    go_quiet (fail)
    go_wp2
    exact bodyPost_ret (v := .tuple #[.int .u64 0, .bool false]) (by simp [results, Try.results99, go_sem]) rfl ⟨rfl, _, rfl⟩
theorem take_some (D : Nat) (A : Option Addr) (m c lo hi : Nat) (oo : Int) (xs : List Cb) (w : World) (hP : Blk w D 139 (dcs A m c oo)) (h : Sm 2 encC (0, 0) w lo hi A m xs) (hn : m ≤ 1000000) (hmc : m ≤ c) (h0 : 0 < m) (hle : perAt xs 0 ≤ oo) :
    Calls Try.prog 99 #[ptr D] w fun e w' => e = .returned (.tuple #[.int .u64 (xs[0]?.getD (0, 0)).2, .bool true]) ∧ ∃ A', w.grownBy w' (some D) ∧ Blk w' D 139 (dcs A' (m - 1) (m - 1) oo) ∧ (1 < m → ∃ b off, A = some ⟨b, off, none⟩ ∧ A' = some ⟨b, off + 2, none⟩) := by
  have PD := hid hP
  obtain ⟨p0, p1, pf⟩ := hP.cells2
  have h0i : ((m : Int) == 0) = false := by simp; omega
  have h0p : (0 : Int) < (m : Int) := by omega
  obtain ⟨b, off, rfl, _, hbh, hc⟩ := h.row h0
  obtain ⟨c0, c1⟩ := Sm.cb (lo := lo) (hi := hi) hc h0
  obtain ⟨x, hx⟩ : ∃ x, x = xs[0]?.getD (0, 0) := ⟨_, rfl⟩
  rw [← hx] at c0 c1 ⊢
  have hgt : ¬ oo < x.1 := by
    have : perAt xs 0 = x.1 := by rw [hx]; rfl
    rw [this] at hle
    omega
  rw [Nat.zero_mul, Nat.add_zero] at c0 c1
  have h1m : (1 : Int) ≤ (m : Int) := by omega
  have hmci : (m : Int) ≤ (c : Int) := by omega
  clear hx hc hle hP
  go_enter Try.func99, Try.ntmps99
  go_wp2_with fail
  go_quiet (fail)
  go_wp2_with fail
  clear p0 p1 c0 c1
  have P2 := hid (PD.out.drewN nq)
  have hgr : w.grownBy (w.drewN nq) (some D) := ⟨rfl, rfl, rfl, Nat.le_refl _, fun _ _ _ => rfl⟩
  have HG := hid hgr
  clear hgr
  generalize w.drewN nq = w2 at *
  obtain ⟨p0, p1, pf⟩ := P2.out.cells2
  go_region
  clear p0 p1 pf
  generalize hA : (if m = 1 then some (⟨b, off, none⟩ : Addr) else some ⟨b, off + 2, none⟩) = A'
  have hgw := HG.out.trans (grownBy_setCell' w2 D (.slice A' (m - 1) (m - 1)))
  have hbk := P2.out.setCell 0 (.slice A' (m - 1) (m - 1))
  have HW := hid hgw; have HK := hid hbk
  have HA : Hid (1 < m → A' = some ⟨b, off + 2, none⟩) := hid (fun h1 => by rw [← hA, if_neg (by omega)])
  clear hgw hbk hA
  go_wp2
  exact bodyPost_ret (v := .tuple #[.int .u64 x.2, .bool true]) (by simp [results, Try.results99, go_sem]) rfl ⟨rfl, A', ⟨HW.out.os, HW.out.tape, HW.out.output, HW.out.size, HW.out.block⟩, HK.out, fun h1 => ⟨b, off, rfl, HA.out h1⟩⟩
end Go.Proofs.Ytfipdoofgbjbjaa
