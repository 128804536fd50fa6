/- package grace: pick, step, enters, leaves, asks, picks. No condition but sizes. -/
import Derived.Test.YtfipdoofgbjbjaaGr5
import Derived.Test.YtfipdoofgbjbjaaRd12
import Derived.Test.YtfipdoofgbjbjaaRd17
import Derived.Test.YtfipdoofgbjbjaaGrP
namespace Go.Proofs.Ytfipdoofgbjbjaa
open Go.RowKit
attribute [local go_sem] Oper.semAt_some
set_option maxRecDepth 100000 in
set_option maxHeartbeats 4000000 in
theorem pick_yes (gb gd lo nd kd : Nat) (cp : Int) (q : Bool) (c : Bc) (g : Gr) (w : World) (hP : Blk w gb 126 (c.cs g gd nd kd)) (hD : Ow blv w lo 4 (some ⟨gd, 0, none⟩) nd kd g.nd) (hne : gb ≠ gd) (hn : nd ≤ 8) (hcp : 0 ≤ cp ∧ cp < nd) (hdn : wrap64 (g.dn + 1) = g.dn + 1) :
    Calls Try.prog 81 #[ptr gb, .int .i64 cp, .bool q] w (ChPost w gb gd lo nd kd c (gPick g cp.toNat q)) := by
  obtain ⟨cn, rfl⟩ := Int.eq_ofNat_of_zero_le hcp.1
  have hcn : cn < nd := by omega
  rw [Int.toNat_natCast]
  have HB1 := hid (fun nq => begin_any gb gd lo nd kd c g (w.drewN nq) (hP.drewN nq) (hD.drewN nq) hne hn)
  have HDR := hid (fun nq => GrownP.ofBelow (p := fun i => i = gb ∨ i = gd) (below_drewN (Below.refl w.heap.size w) nq))
  have HR1 := hid (report_any gb gd lo nd kd cn c g w hP hD hne hn hcn hdn)
  have HD := hid hD; have P := hid hP
  have HP : Hid (gPick g cn q = g → ∀ nq, ChPost w gb gd lo nd kd c (gPick g cn q) (.returned (.tuple #[])) (w.drewN nq)) := hid (fun h1 nq => by rw [h1]; exact ⟨rfl, hP.drewN nq, hD.drewN nq, .ofBelow (below_drewN (Below.refl w.heap.size w) nq)⟩)
  have hin := in_yes gb c.now c.A c.n c.k c.B c.m c.d g (some ⟨gd, 0, none⟩) nd kd c.E c.ne c.ke (cn : Int) w hP (by omega)
  have HIN := hid hin
  have HE : Hid (gPick g cn q = if g.on && q then gReport g cn else if !g.on && decide (g.dn < g.ak) then gBegin g else g) := hid rfl
  clear hin hD hP hdn hcp
  obtain ⟨now, A, n, k, B, m, d, E, ne, ke⟩ := c
  obtain ⟨nd', dn, ak, on⟩ := g
  go_enter Try.func81, Try.ntmps81
  go_wp2_with fail
  refine HIN.out.mono ?_
  rintro e w1 ⟨rfl, rfl⟩
  clear HIN
  obtain ⟨y00, y01, y02, y03, y04, y05, y06, y07, yf0⟩ := P.out.cells8
  rcases on with _ | _
  · skip
    go_upto_region 3 with fail
    by_cases hak : dn < ak
    · skip
      have d1 : decide (dn < ak) = true := decide_eq_true hak
      have HAK := hid hak
      clear hak
      have hpk := HE.out
      simp only [Bool.false_and, Bool.false_eq_true, if_false, Bool.not_false, Bool.true_and, d1, if_true] at hpk
      have HPK := hid hpk
      clear hpk HE HP HR1
      go_quiet (fail)
      clear y00 y01 y02 y03 y04 y05 y06 y07 yf0
      go_wp2_with fail
      refine (HB1.out _).mono ?_
      rintro e w2 ⟨rfl, h1, h2, h3⟩
      go_wp2
      go_end0
      rw [HPK.out]
      exact ⟨rfl, h1, h2, (HDR.out _).trans h3⟩
    · skip
      have d1 : decide (dn < ak) = false := decide_eq_false hak
      have HAK := hid hak
      clear hak
      have hpk := HE.out
      simp only [Bool.false_and, Bool.false_eq_true, if_false, Bool.not_false, Bool.true_and, d1] at hpk
      have HF := hid (HP.out hpk)
      clear hpk HE HP HR1 HB1
      go_quiet (fail)
      clear y00 y01 y02 y03 y04 y05 y06 y07 yf0
      go_wp2
      go_end0
      exact HF.out _
  · skip
    rcases q with _ | _
    · skip
      go_upto_region 3 with fail
      have HF := hid (HP.out HE.out)
      go_quiet (fail)
      clear y00 y01 y02 y03 y04 y05 y06 y07 yf0
      go_wp2
      go_end0
      exact HF.out _
    · skip
      go_upto_region 2 with fail
      clear y00 y01 y02 y03 y04 y05 y06 y07 yf0
      have hpk := HE.out
      simp only [Bool.and_self, if_true] at hpk
      rw [hpk]
      clear hpk HE HP HB1
      go_wp2_with fail
      refine HR1.out.mono ?_
      rintro e w2 ⟨rfl, h1, h2, h3⟩
      go_wp2
      go_end0
      exact ⟨rfl, h1, h2, h3⟩
set_option maxRecDepth 100000 in
theorem pick_no (gb : Nat) (now : Int) (A : Option Addr) (n k : Nat) (B : Option Addr) (m d : Nat) (g : Gr) (D : Option Addr) (nd kd : Nat) (E : Option Addr) (ne ke : Nat) (c : Int) (q : Bool) (w : World) (P : Blk w gb 126 (bth now A n k B m d g D nd kd E ne ke)) (h : c < 0 ∨ (nd : Int) ≤ c) :
    Calls Try.prog 81 #[ptr gb, .int .i64 c, .bool q] w fun x w' => x = leaves 2 ∧ w' = w := by
  have HIN := hid (in_no gb now A n k B m d g D nd kd E ne ke c w P h)
  clear P h
  go_enter Try.func81, Try.ntmps81
  go_wp2_with fail
  refine HIN.out.mono ?_
  rintro e w1 ⟨rfl, rfl⟩
  unfold leaves
  go_wp2_with fail
  exact ⟨rfl, rfl, rfl⟩
theorem Ow.keptP {α : Type} {enc : α → Value} {w w' : World} {lo n c : Nat} {e : TypeId} {A : Option Addr} {xs : List α} {p : Nat → Prop} (h : Ow enc w lo e A n c xs) (k : GrownP p w w') (hp : ∀ a, A = some a → ¬ p a.block) : Ow enc w' lo e A n c xs :=
  h.same fun a ha => k.block _ (by obtain ⟨_, cs, hb⟩ := h.blk a ha; exact hb.lt) (hp a ha)
theorem Rown.keptP {w w' : World} {lo n c m d : Nat} {A B : Option Addr} {ns os : List Int} {p : Nat → Prop} (h : Rown w lo A n c B m d ns os) (k : GrownP p w w') (hp : ∀ a, A = some a ∨ B = some a → ¬ p a.block) : Rown w' lo A n c B m d ns os :=
  ⟨h.oa.keptP k (fun a ha => hp a (.inl ha)), h.ob.keptP k (fun a ha => hp a (.inr ha)), h.apart, h.hn, h.hm⟩
end Go.Proofs.Ytfipdoofgbjbjaa
