/- package reader: hand's enter and leave. No condition but sizes, and that rows hold numbers up to 8. -/
import Derived.Test.YtbibfjncjklclaaRd8
import Derived.Test.YtbibfjncjklclaaKitA
namespace Go.Proofs.Ytbibfjncjklclaa
open Go.RowKit Go.Shelf Go.Maps

/-- a hand: a box at g, and two rows that it owns, apart -/
structure Hand (W : World) (lo g : Nat) (now : Int) (A : Option Addr) (n c : Nat) (B : Option Addr) (d : Nat) (ns os : List Int) : Prop where
  box : Blk W g 116 (rcs now A n c B n d)
  oa : Ow i64 W lo 3 A n c ns
  ob : Ow i64 W lo 3 B n d os
  apart : ∀ ga gb, A = some ⟨ga, 0, none⟩ → B = some ⟨gb, 0, none⟩ → ga ≠ gb ∧ ga ≠ g ∧ gb ≠ g
  hlo : lo ≤ g
theorem Hand.step {W W' : World} {lo g : Nat} {now : Int} {A : Option Addr} {n c : Nat} {B : Option Addr} {d : Nat} {ns os : List Int} (h : Hand W lo g now A n c B d ns os) (hb : Below W.heap.size W W') : Hand W' lo g now A n c B d ns os :=
  ⟨h.box.step hb, h.oa.step hb, h.ob.step hb, h.apart, h.hlo⟩
def enterO (now x : Int) (os : List Int) (k : Nat) : List Int := if x = 0 then os.set k (now + 1) else os
def leaveO (x : Int) (os : List Int) (k : Nat) : List Int := if x = 1 then os.set k 0 else os
def HPost (W : World) (lo g : Nat) (now : Int) (A : Option Addr) (n c : Nat) (B : Option Addr) (d : Nat) (ns os : List Int) (e : Ending) (W' : World) : Prop :=
  e = .returned (.int .i64 0) ∧ Hand W' lo g now A n c B d ns os ∧ Below lo W W' ∧ W'.heap.size = W.heap.size

set_option maxHeartbeats 2000000 in
theorem enter_full (g : Nat) (lo : Nat) (now : Int) (A : Option Addr) (n c : Nat) (B : Option Addr) (d : Nat) (ns os : List Int) (k : Nat) (W : World) (h : Hand W lo g now A n c B d ns os) (hk : k < n) (hx : ns[k]?.getD 0 = 8) :
    Calls Try.prog 85 #[.pointer (some ⟨g, 0, none⟩), .int .i64 k] W fun e w' => e = .returned (.int .i64 6) ∧ W = w' := by
  obtain ⟨ga, rfl, _, _, a0, af⟩ := h.oa.at_ 0 hk
  obtain ⟨k0, k1, k2, kf⟩ := h.box.cells3
  rw [hx] at a0
  clear h hx
  go_enter Try.func85, Try.ntmps85
  go_wp2
  go_ret
  exact ⟨rfl, rfl⟩
set_option maxHeartbeats 2000000 in
theorem enter_ok (g : Nat) (lo : Nat) (now : Int) (A : Option Addr) (n c : Nat) (B : Option Addr) (d : Nat) (ns os : List Int) (k : Nat) (W : World) (h : Hand W lo g now A n c B d ns os) (hk : k < n) (h0 : 0 ≤ ns[k]?.getD 0) (h8 : ns[k]?.getD 0 < 8) (hn0 : 0 ≤ now) (hn1 : now < 2147483647) :
    Calls Try.prog 85 #[.pointer (some ⟨g, 0, none⟩), .int .i64 k] W (HPost W lo g (now + 1) A n c B d (ns.set k (ns[k]?.getD 0 + 1)) (enterO now (ns[k]?.getD 0) os k)) := by
  obtain ⟨ga, rfl, hga, hga', a0, af⟩ := h.oa.at_ 0 hk
  obtain ⟨gb, rfl, hgb, hgb', b0, bf⟩ := h.ob.at_ 0 hk
  obtain ⟨d1, d2, d3⟩ := h.apart ga gb rfl rfl
  obtain ⟨k0, k1, k2, kf⟩ := h.box.cells3
  obtain ⟨x, hX⟩ : ∃ x, x = ns[k]?.getD 0 := ⟨_, rfl⟩
  rw [← hX] at a0 h0 h8 ⊢
  have HX := hid hX
  have HH := hid h
  have e8 : (x == 8) = false := by simp; omega
  have P1 := h.box.setCell 0 (.int .i64 (now + 1))
  obtain ⟨m0, m1, m2, mf⟩ := P1.cells3
  have A1 : (W.setCell ⟨g, 0, none⟩ (.int .i64 (now + 1))).cell? ⟨ga, k, none⟩ = some (.int .i64 x) := by rw [World.cell?_setCell_other _ _ _ _ (by simp [Ne.symm d2])]; exact a0
  clear hX h P1
  by_cases hx0 : x = 0
  · subst hx0
    go_enter Try.func85, Try.ntmps85
    go_wp2
    go_region
    have h1 := HH.out
    have bx := (((h1.box.setCell 0 (.int .i64 (now + 1))).far (p := ⟨gb, k, none⟩) (Ne.symm d3) (.int .i64 (now + 1))).drew)
    have oa := ((h1.oa.far (p := ⟨g, 0, none⟩) d2 (.int .i64 (now + 1))).far (p := ⟨gb, k, none⟩) d1 (.int .i64 (now + 1)))
    have ob := (h1.ob.far (p := ⟨g, 0, none⟩) d3 (.int .i64 (now + 1))).stored k (now + 1)
    have be := ((Below.refl lo W).setCell (p := ⟨g, 0, none⟩) h1.hlo (.int .i64 (now + 1))).setCell (p := ⟨gb, k, none⟩) hgb (.int .i64 (now + 1))
    have oa' := oa.drewN 1
    have ob' := ob.drewN 1
    have be' := below_drewN be 1
    have hsz : (((W.setCell ⟨g, 0, none⟩ (.int .i64 (now + 1))).setCell ⟨gb, k, none⟩ (.int .i64 (now + 1))).drewN 1).heap.size = W.heap.size := by simp
    have hd1 : ((W.setCell ⟨g, 0, none⟩ (.int .i64 (now + 1))).setCell ⟨gb, k, none⟩ (.int .i64 (now + 1))).drewN 1 = ((W.setCell ⟨g, 0, none⟩ (.int .i64 (now + 1))).setCell ⟨gb, k, none⟩ (.int .i64 (now + 1))).drew := rfl
    rw [hd1] at oa' ob' be' hsz
    clear oa ob be hd1 m0 m1 m2 mf k0 k1 k2 kf A1 a0 b0 af bf
    generalize ((W.setCell ⟨g, 0, none⟩ (.int .i64 (now + 1))).setCell ⟨gb, k, none⟩ (.int .i64 (now + 1))).drew = W2 at *
    obtain ⟨k0, k1, k2, kf⟩ := bx.cells3
    obtain ⟨ga', hq, _, _, a0, af⟩ := oa'.at_ 0 hk
    obtain rfl : ga = ga' := by simpa using hq
    rw [← HX.out] at a0
    have HSZ := hid hsz; have HBX := hid bx
    clear hq hsz bx
    go_wp2
    go_ret
    refine ⟨rfl, ⟨HBX.out.far (p := ⟨ga, k, none⟩) (Ne.symm d2) _, oa'.stored k _, by rw [show enterO now 0 os k = os.set k (now + 1) from if_pos rfl]; exact ob'.far (p := ⟨ga, k, none⟩) (Ne.symm d1) _, h1.apart, h1.hlo⟩, be'.setCell hga _, by simp [HSZ.out]⟩
  · have e0 : (x == 0) = false := by simp [hx0]
    go_enter Try.func85, Try.ntmps85
    go_wp2
    go_ret
    have h1 := HH.out
    have E1 : enterO now x os k = os := if_neg hx0
    refine ⟨rfl, ⟨(h1.box.setCell 0 _).far (p := ⟨ga, k, none⟩) (Ne.symm d2) _, (h1.oa.far (p := ⟨g, 0, none⟩) d2 _).stored k _, by rw [E1]; exact (h1.ob.far (p := ⟨g, 0, none⟩) d3 _).far (p := ⟨ga, k, none⟩) (Ne.symm d1) _, h1.apart, h1.hlo⟩, ((Below.refl _ _).setCell h1.hlo _).setCell hga _, by simp⟩

set_option maxHeartbeats 2000000 in
theorem leave_none (g : Nat) (lo : Nat) (now : Int) (A : Option Addr) (n c : Nat) (B : Option Addr) (d : Nat) (ns os : List Int) (k : Nat) (W : World) (h : Hand W lo g now A n c B d ns os) (hk : k < n) (hx : ns[k]?.getD 0 = 0) :
    Calls Try.prog 84 #[.pointer (some ⟨g, 0, none⟩), .int .i64 k] W fun e w' => e = .returned (.int .i64 4) ∧ W = w' := by
  obtain ⟨ga, rfl, _, _, a0, af⟩ := h.oa.at_ 0 hk
  obtain ⟨k0, k1, k2, kf⟩ := h.box.cells3
  rw [hx] at a0
  clear h hx
  go_enter Try.func84, Try.ntmps84
  go_wp2
  go_ret
  exact ⟨rfl, rfl⟩
set_option maxHeartbeats 2000000 in
theorem leave_ok (g : Nat) (lo : Nat) (now : Int) (A : Option Addr) (n c : Nat) (B : Option Addr) (d : Nat) (ns os : List Int) (k : Nat) (W : World) (h : Hand W lo g now A n c B d ns os) (hk : k < n) (h0 : 0 < ns[k]?.getD 0) (h8 : ns[k]?.getD 0 ≤ 8) (hn0 : 0 ≤ now) (hn1 : now < 2147483647) :
    Calls Try.prog 84 #[.pointer (some ⟨g, 0, none⟩), .int .i64 k] W (HPost W lo g (now + 1) A n c B d (ns.set k (ns[k]?.getD 0 - 1)) (leaveO (ns[k]?.getD 0) os k)) := by
  obtain ⟨ga, rfl, hga, hga', a0, af⟩ := h.oa.at_ 0 hk
  obtain ⟨gb, rfl, hgb, hgb', b0, bf⟩ := h.ob.at_ 0 hk
  obtain ⟨d1, d2, d3⟩ := h.apart ga gb rfl rfl
  obtain ⟨k0, k1, k2, kf⟩ := h.box.cells3
  obtain ⟨x, hX⟩ : ∃ x, x = ns[k]?.getD 0 := ⟨_, rfl⟩
  rw [← hX] at a0 h0 h8 ⊢
  have HX := hid hX
  have HH := hid h
  have e8 : (x == 0) = false := by simp; omega
  have P1 := h.box.setCell 0 (.int .i64 (now + 1))
  obtain ⟨m0, m1, m2, mf⟩ := P1.cells3
  have A1 : (W.setCell ⟨g, 0, none⟩ (.int .i64 (now + 1))).cell? ⟨ga, k, none⟩ = some (.int .i64 x) := by rw [World.cell?_setCell_other _ _ _ _ (by simp [Ne.symm d2])]; exact a0
  have bx := P1.far (p := ⟨ga, k, none⟩) (Ne.symm d2) (.int .i64 (x - 1))
  have oa := (h.oa.far (p := ⟨g, 0, none⟩) d2 (.int .i64 (now + 1))).stored k (x - 1)
  have ob := (h.ob.far (p := ⟨g, 0, none⟩) d3 (.int .i64 (now + 1))).far (p := ⟨ga, k, none⟩) (Ne.symm d1) (.int .i64 (x - 1))
  have be := ((Below.refl lo W).setCell (p := ⟨g, 0, none⟩) h.hlo (.int .i64 (now + 1))).setCell (p := ⟨ga, k, none⟩) hga (.int .i64 (x - 1))
  obtain ⟨q0, q1, q2, qf⟩ := bx.cells3
  obtain ⟨ga', hq, _, _, a2, af2⟩ := oa.at_ 0 hk
  obtain rfl : ga = ga' := by simpa using hq
  rw [show (ns.set k (x - 1))[k]?.getD 0 = x - 1 by have := h.oa.len; rw [List.getElem?_set_self (by omega)]; rfl] at a2
  have HBX := hid bx
  clear hX h P1 hq bx
  by_cases hx1 : x = 1
  · subst hx1
    have E1 := hid (show leaveO 1 os k = os.set k 0 from if_pos rfl)
    go_enter Try.func84, Try.ntmps84
    go_wp2
    go_ret
    refine ⟨rfl, ⟨HBX.out.far (p := ⟨gb, k, none⟩) (Ne.symm d3) _, oa.far (p := ⟨gb, k, none⟩) d1 _, by rw [E1.out]; exact ob.stored k _, HH.out.apart, HH.out.hlo⟩, be.setCell hgb _, by simp⟩
  · have e0 : (x - 1 == 0) = false := by simp; omega
    have E1 := hid (show leaveO x os k = os from if_neg hx1)
    go_enter Try.func84, Try.ntmps84
    go_wp2
    go_ret
    refine ⟨rfl, ⟨HBX.out, oa, by rw [E1.out]; exact ob, HH.out.apart, HH.out.hlo⟩, be, by simp⟩
end Go.Proofs.Ytbibfjncjklclaa
