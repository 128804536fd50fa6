/- package reader: hand's step. No condition but sizes, and that rows hold numbers up to 8. -/
import Derived.Test.YtfipdoofgbjbjaaKitA
namespace Go.Proofs.Ytfipdoofgbjbjaa
open Go.RowKit Go.Shelf Go.Maps

def stepCode (now : Int) (ns : List Int) (cpu : Int) (ent : Bool) : Int :=
  if cpu < 0 ∨ (ns.length : Int) ≤ cpu then 2 else if now = 2147483647 then 6 else if ent = true then (if ns[cpu.toNat]?.getD 0 = 8 then 6 else 0) else (if ns[cpu.toNat]?.getD 0 = 0 then 4 else 0)
def stepNs (ns : List Int) (k : Nat) (ent : Bool) : List Int := ns.set k (if ent = true then ns[k]?.getD 0 + 1 else ns[k]?.getD 0 - 1)
def stepOs (now : Int) (ns os : List Int) (k : Nat) (ent : Bool) : List Int := if ent = true then enterO now (ns[k]?.getD 0) os k else leaveO (ns[k]?.getD 0) os k
def StepPost (W : World) (lo g : Nat) (now : Int) (A : Option Addr) (n c : Nat) (B : Option Addr) (d : Nat) (ns os : List Int) (cpu : Int) (ent : Bool) (e : Ending) (W' : World) : Prop :=
  e = .returned (.int .i64 (stepCode now ns cpu ent)) ∧ Below lo W W' ∧ (stepCode now ns cpu ent = 0 → Hand W' lo g (now + 1) A n c B d (stepNs ns cpu.toNat ent) (stepOs now ns os cpu.toNat ent))
@[reducible] def rdv (cpu : Int) (ent : Bool) : Value := .agg #[.int .i64 cpu, .bool ent]

set_option maxHeartbeats 4000000 in
theorem step_any (g : Nat) (lo : Nat) (now : Int) (A : Option Addr) (n c : Nat) (B : Option Addr) (d : Nat) (ns os : List Int) (cpu : Int) (ent : Bool) (W : World) (h : Hand W lo g now A n c B d ns os) (hlo : lo ≤ W.heap.size) (hn0 : 0 ≤ now) (hn1 : now ≤ 2147483647) (h8 : ∀ k, k < n → 0 ≤ ns[k]?.getD 0 ∧ ns[k]?.getD 0 ≤ 8) (hn : n ≤ 1000) :
    Calls Try.prog 97 #[.pointer (some ⟨g, 0, none⟩), rdv cpu ent] W (StepPost W lo g now A n c B d ns os cpu ent) := by
  have hb := below_box W (.cells #[.int .i64 cpu, .bool ent] 133)
  have hB : Below lo W (W.alloc (.cells #[.int .i64 cpu, .bool ent] 133)) := hb.mono hlo
  have h1 := h.step hb
  have PX := Blk.new W 133 #[.int .i64 cpu, .bool ent]
  obtain ⟨k0, k1, k2, kf⟩ := h1.box.cells3
  obtain ⟨r0, r1, rf⟩ := PX.cells2
  have hl := h.oa.len
  have H1 := hid h1; have H8 := hid h8; have HB := hid hB
  clear h hb PX h8 h1 hB
  by_cases c1 : cpu < 0
  · have E := hid (show stepCode now ns cpu ent = 2 by unfold stepCode; rw [if_pos (.inl c1)])
    clear hl
    go_enter Try.func97, Try.ntmps97
    go_wp2
    go_quiet (fail)
    go_wp2
    go_ret
    exact ⟨ret_int E.out.symm, below_drewN HB.out _, fun hz => by rw [E.out] at hz; omega⟩
  have c1' : decide (cpu < 0) = false := decide_eq_false c1
  obtain ⟨k, rfl⟩ := Int.eq_ofNat_of_zero_le (by omega : 0 ≤ cpu)
  by_cases c2 : k < n
  · have hlt : ¬ ((k : Int) < 0 ∨ (ns.length : Int) ≤ k) := by omega
    have HLT := hid hlt
    clear hlt hl
    by_cases c3 : now = 2147483647
    · have E := hid (show stepCode now ns k ent = 6 by unfold stepCode; rw [if_neg HLT.out, if_pos c3])
      have c3' : (now == 2147483647) = true := by simp [c3]
      clear c3
      go_enter Try.func97, Try.ntmps97
      go_wp2
      go_quiet (fail)
      go_wp2
      go_ret
      exact ⟨ret_int E.out.symm, below_drewN HB.out _, fun hz => by rw [E.out] at hz; omega⟩
    · have E0 := hid (show stepCode now ns k ent = if ent = true then (if ns[k]?.getD 0 = 8 then 6 else 0) else (if ns[k]?.getD 0 = 0 then 4 else 0) by unfold stepCode; rw [if_neg HLT.out, if_neg c3]; rfl)
      have c3' : (now == 2147483647) = false := by simp [c3]
      have hn2 : now < 2147483647 := by omega
      have hx := H8.out k c2
      have HX := hid hx
      clear c3 hx
      cases ent
      · by_cases c4 : ns[k]?.getD 0 = 0
        · have E := hid (show stepCode now ns k false = 4 by rw [E0.out, if_neg (by simp), if_pos c4])
          have HC := hid c4
          clear c4
          go_enter Try.func97, Try.ntmps97
          go_wp2
          go_quiet (fail)
          go_wp2_with fail
          refine (leave_none g lo now A n c B d ns os k _ (H1.out.step (below_drewN (Below.refl _ _) _)) c2 HC.out).mono ?_
          rintro e w' ⟨rfl, rfl⟩
          go_wp2
          go_ret
          exact ⟨ret_int E.out.symm, below_drewN HB.out _, fun hz => by rw [E.out] at hz; omega⟩
        · have E := hid (show stepCode now ns k false = 0 by rw [E0.out, if_neg (by simp), if_neg c4])
          have HC := hid c4
          clear c4
          go_enter Try.func97, Try.ntmps97
          go_wp2
          go_quiet (fail)
          go_wp2_with fail
          refine (leave_ok g lo now A n c B d ns os k _ (H1.out.step (below_drewN (Below.refl _ _) _)) c2 (by have := HX.out; have := HC.out; omega) (by have := HX.out; have := HC.out; omega) hn0 hn2).mono ?_
          rintro e w' ⟨rfl, hH, hb, hs⟩
          have HH := hid hH; have HS := hid hs; clear hH hs
          go_wp2
          go_ret
          exact ⟨ret_int E.out.symm, (below_drewN HB.out _).trans hb, fun _ => HH.out⟩
      · by_cases c4 : ns[k]?.getD 0 = 8
        · have E := hid (show stepCode now ns k true = 6 by rw [E0.out, if_pos rfl, if_pos c4])
          have HC := hid c4
          clear c4
          go_enter Try.func97, Try.ntmps97
          go_wp2
          go_quiet (fail)
          go_wp2_with fail
          refine (enter_full g lo now A n c B d ns os k _ (H1.out.step (below_drewN (Below.refl _ _) _)) c2 HC.out).mono ?_
          rintro e w' ⟨rfl, rfl⟩
          go_wp2
          go_ret
          exact ⟨ret_int E.out.symm, below_drewN HB.out _, fun hz => by rw [E.out] at hz; omega⟩
        · have E := hid (show stepCode now ns k true = 0 by rw [E0.out, if_pos rfl, if_neg c4])
          have HC := hid c4
          clear c4
          go_enter Try.func97, Try.ntmps97
          go_wp2
          go_quiet (fail)
          go_wp2_with fail
          refine (enter_ok g lo now A n c B d ns os k _ (H1.out.step (below_drewN (Below.refl _ _) _)) c2 (by have := HX.out; have := HC.out; omega) (by have := HX.out; have := HC.out; omega) hn0 hn2).mono ?_
          rintro e w' ⟨rfl, hH, hb, hs⟩
          have HH := hid hH; have HS := hid hs; clear hH hs
          go_wp2
          go_ret
          exact ⟨ret_int E.out.symm, (below_drewN HB.out _).trans hb, fun _ => HH.out⟩
  · have E := hid (show stepCode now ns k ent = 2 by unfold stepCode; rw [if_pos (.inr (by omega))])
    clear hl
    go_enter Try.func97, Try.ntmps97
    go_wp2
    go_quiet (fail)
    go_wp2
    go_ret
    exact ⟨ret_int E.out.symm, below_drewN HB.out _, fun hz => by rw [E.out] at hz; omega⟩
end Go.Proofs.Ytfipdoofgbjbjaa
