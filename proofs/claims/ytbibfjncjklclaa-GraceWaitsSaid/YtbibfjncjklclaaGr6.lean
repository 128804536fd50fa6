/- package grace: pick, step, enters, leaves, asks, picks. No condition but sizes. -/
import Derived.Test.YtbibfjncjklclaaGr5
import Derived.Test.YtbibfjncjklclaaRd12
import Derived.Test.YtbibfjncjklclaaRd17
import Derived.Test.YtbibfjncjklclaaGrP
namespace Go.Proofs.Ytbibfjncjklclaa
open Go.RowKit
attribute [local go_sem] Oper.semAt_some
set_option maxRecDepth 100000 in
set_option maxHeartbeats 4000000 in
theorem pick_yes (gb gd lo nd kd : Nat) (cp : Int) (q : Bool) (c : Bc) (g : Gr) (w : World) (hP : Blk w gb 76 (c.cs g gd nd kd)) (hD : Ow blv w lo 4 (some ⟨gd, 0, none⟩) nd kd g.nd) (hne : gb ≠ gd) (hn : nd ≤ 8) (hcp : 0 ≤ cp ∧ cp < nd) (hdn : wrap64 (g.dn + 1) = g.dn + 1) :
    Calls Try.prog 51 #[ptr gb, .int .i64 cp, .bool q] w (ChPost w gb gd lo nd kd c (gPick g cp.toNat q)) := by
  obtain ⟨cn, rfl⟩ := Int.eq_ofNat_of_zero_le hcp.1
  have hcn : cn < nd := by omega
  rw [Int.toNat_natCast]
  have HB1 := hid (fun nq => begin_any gb gd lo nd kd c g (w.drewN nq) (hP.drewN nq) (hD.drewN nq) hne hn)
  have HDR := hid (fun nq => GrownP.ofBelow (p := fun i => i = gb ∨ i = gd) (below_drewN (Below.refl w.heap.size w) nq))
  have HR1 := hid (report_any gb gd lo nd kd cn c g w hP hD hne hn hcn hdn)
  have HD := hid hD; have P := hid hP
  have HP : Hid (gPick g cn q = g → ∀ nq, ChPost w gb gd lo nd kd c (gPick g cn q) (.returned (.tuple #[])) (w.drewN nq)) := hid (fun h1 nq => by rw [h1]; exact ⟨rfl, hP.drewN nq, hD.drewN nq, .ofBelow (below_drewN (Below.refl w.heap.size w) nq)⟩)
  have hin := in_yes gb c.now c.A c.n c.k c.B c.m c.d g (some ⟨gd, 0, none⟩) nd kd c.E c.ne c.ke (cn : Int) w hP (by omega)
  have HIN := hid hin
  have HE : Hid (gPick g cn q = if g.on && q then gReport g cn else if !g.on && decide (g.dn < g.ak) then gBegin g else g) := hid rfl
  clear hin hD hP hdn hcp
  obtain ⟨now, A, n, k, B, m, d, E, ne, ke⟩ := c
  obtain ⟨nd', dn, ak, on⟩ := g
  go_enter Try.func51, Try.ntmps51
  go_wp2_with fail
  refine HIN.out.mono ?_
  rintro e w1 ⟨rfl, rfl⟩
  clear HIN
  obtain ⟨y00, y01, y02, y03, y04, y05, y06, y07, yf0⟩ := P.out.cells8
  rcases on with _ | _
  · skip
    go_upto_region 3 with fail
    by_cases hak : dn < ak
    · skip
      have d1 : decide (dn < ak) = true := decide_eq_true hak
      have HAK := hid hak
      clear hak
      have hpk := HE.out
      simp only [Bool.false_and, Bool.false_eq_true, if_false, Bool.not_false, Bool.true_and, d1, if_true] at hpk
      have HPK := hid hpk
      clear hpk HE HP HR1
      go_quiet (fail)
      clear y00 y01 y02 y03 y04 y05 y06 y07 yf0
      go_wp2_with fail
      refine (HB1.out _).mono ?_
      rintro e w2 ⟨rfl, h1, h2, h3⟩
      go_wp2
      go_end0
      rw [HPK.out]
      exact ⟨rfl, h1, h2, (HDR.out _).trans h3⟩
    · skip
      have d1 : decide (dn < ak) = false := decide_eq_false hak
      have HAK := hid hak
      clear hak
      have hpk := HE.out
      simp only [Bool.false_and, Bool.false_eq_true, if_false, Bool.not_false, Bool.true_and, d1] at hpk
      have HF := hid (HP.out hpk)
      clear hpk HE HP HR1 HB1
      go_quiet (fail)
      clear y00 y01 y02 y03 y04 y05 y06 y07 yf0
      go_wp2
      go_end0
      exact HF.out _
  · skip
    rcases q with _ | _
    · skip
      go_upto_region 3 with fail
      have HF := hid (HP.out HE.out)
      go_quiet (fail)
      clear y00 y01 y02 y03 y04 y05 y06 y07 yf0
      go_wp2
      go_end0
      exact HF.out _
    · skip
      go_upto_region 2 with fail
      clear y00 y01 y02 y03 y04 y05 y06 y07 yf0
      have hpk := HE.out
      simp only [Bool.and_self, if_true] at hpk
      rw [hpk]
      clear hpk HE HP HB1
      go_wp2_with fail
      refine HR1.out.mono ?_
      rintro e w2 ⟨rfl, h1, h2, h3⟩
      go_wp2
      go_end0
      exact ⟨rfl, h1, h2, h3⟩
set_option maxRecDepth 100000 in
theorem pick_no (gb : Nat) (now : Int) (A : Option Addr) (n k : Nat) (B : Option Addr) (m d : Nat) (g : Gr) (D : Option Addr) (nd kd : Nat) (E : Option Addr) (ne ke : Nat) (c : Int) (q : Bool) (w : World) (P : Blk w gb 76 (bth now A n k B m d g D nd kd E ne ke)) (h : c < 0 ∨ (nd : Int) ≤ c) :
    Calls Try.prog 51 #[ptr gb, .int .i64 c, .bool q] w fun x w' => x = leaves 2 ∧ w' = w := by
  have HIN := hid (in_no gb now A n k B m d g D nd kd E ne ke c w P h)
  clear P h
  go_enter Try.func51, Try.ntmps51
  go_wp2_with fail
  refine HIN.out.mono ?_
  rintro e w1 ⟨rfl, rfl⟩
  unfold leaves
  go_wp2_with fail
  exact ⟨rfl, rfl, rfl⟩
theorem Ow.keptP {α : Type} {enc : α → Value} {w w' : World} {lo n c : Nat} {e : TypeId} {A : Option Addr} {xs : List α} {p : Nat → Prop} (h : Ow enc w lo e A n c xs) (k : GrownP p w w') (hp : ∀ a, A = some a → ¬ p a.block) : Ow enc w' lo e A n c xs :=
  h.same fun a ha => k.block _ (by obtain ⟨_, cs, hb⟩ := h.blk a ha; exact hb.lt) (hp a ha)
theorem Rown.keptP {w w' : World} {lo n c m d : Nat} {A B : Option Addr} {ns os : List Int} {p : Nat → Prop} (h : Rown w lo A n c B m d ns os) (k : GrownP p w w') (hp : ∀ a, A = some a ∨ B = some a → ¬ p a.block) : Rown w' lo A n c B m d ns os :=
  ⟨h.oa.keptP k (fun a ha => hp a (.inl ha)), h.ob.keptP k (fun a ha => hp a (.inr ha)), h.apart, h.hn, h.hm⟩
set_option maxRecDepth 100000 in
set_option maxHeartbeats 2000000 in
theorem step_yes (gb gd nd kd : Nat) (c : Bc) (g : Gr) (now' : Int) (A' : Option Addr) (n' k' : Nat) (B' : Option Addr) (m' d' : Nat) (w : World) (hP : Blk w gb 76 (c.cs g gd nd kd)) :
    Calls Try.prog 74 #[ptr gb, rv now' A' n' k' B' m' d', .int .i64 0] w fun x w' => x = .returned (.tuple #[]) ∧ Blk w' gb 76 (bth now' A' n' k' B' m' d' g (some ⟨gd, 0, none⟩) nd kd c.E c.ne c.ke) ∧ GrownP (fun i => i = gb) w w' := by
  obtain ⟨now, A, n, k, B, m, d, E, ne, ke⟩ := c
  have P := hid hP; have hlt := hid hP.lt
  clear hP
  have bx := below_box w (.cells #[.int .i64 now', .slice A' n' k', .slice B' m' d'] 24)
  replace P := hid (P.out.step bx)
  clear bx
  have PR := hid (Blk.new w 24 #[.int .i64 now', .slice A' n' k', .slice B' m' d'])
  have HBB := below_box w (.cells #[.int .i64 now', .slice A' n' k', .slice B' m' d'] 24)
  obtain ⟨y00, y01, y02, yf0⟩ := PR.out.cells3
  go_enter Try.func74, Try.ntmps74
  go_upto_region 1 with fail
  clear y00 y01 y02 yf0
  generalize w.alloc (.cells #[.int .i64 now', .slice A' n' k', .slice B' m' d'] 24) = W0 at *
  go_wp2_with fail
  refine (need_yes 0 _).mono ?_
  rintro e w2 ⟨rfl, rfl⟩
  obtain ⟨y00, y01, y02, yf0⟩ := PR.out.cells3
  obtain ⟨y10, y11, y12, y13, y14, y15, y16, y17, yf1⟩ := P.out.cells8
  go_wp2_with fail
  clear y00 y01 y02 yf0 y10 y11 y12 y13 y14 y15 y16 y17 yf1
  (try go_end0)
  refine ⟨rfl, ((P.out.setCell 0 (.int .i64 now')).setCell 1 (.slice A' n' k')).setCell 2 (.slice B' m' d'), ?_⟩
  exact (((GrownP.ofBelow (p := fun i => i = gb) HBB).set (p := ⟨gb, 0, none⟩) rfl _).set (p := ⟨gb, 1, none⟩) rfl _).set (p := ⟨gb, 2, none⟩) rfl _
set_option maxRecDepth 100000 in
set_option maxHeartbeats 2000000 in
theorem step_no (gb : Nat) (now' : Int) (A' : Option Addr) (n' k' : Nat) (B' : Option Addr) (m' d' : Nat) (e : Int) (w : World) (he : e ≠ 0) :
    Calls Try.prog 74 #[ptr gb, rv now' A' n' k' B' m' d', .int .i64 e] w fun x w' => x = leaves e ∧ Below w.heap.size w w' := by
  have d1 : (e == 0) = false := by simpa using he
  have HBB := hid (below_box w (.cells #[.int .i64 now', .slice A' n' k', .slice B' m' d'] 24))
  clear he
  go_enter Try.func74, Try.ntmps74
  go_wp2_with fail
  refine (need_no e _).mono ?_
  rintro x w2 ⟨rfl, rfl⟩
  unfold leaves
  go_wp2_with fail
  exact ⟨rfl, rfl, HBB.out⟩
/-- what enters leaves -/
def Rd_enters (w : World) (gb gd nd kd : Nat) (c : Bc) (g : Gr) (s : St) (cpu : Int) (x : Ending) (w' : World) : Prop :=
  (stC s (cpu, true) = 0 ∧ x = .returned (.tuple #[]) ∧ ∃ A n k B m d, Blk w' gb 76 (bth (stN s (cpu, true)).1 A n k B m d g (some ⟨gd, 0, none⟩) nd kd c.E c.ne c.ke) ∧ Rown w' w.heap.size A n k B m d (stN s (cpu, true)).2.1 (stN s (cpu, true)).2.2 ∧ GrownP (fun i => i = gb) w w') ∨
  (stC s (cpu, true) ≠ 0 ∧ x = Go.Proofs.Ytbibfjncjklclaa.leaves (stC s (cpu, true)) ∧ GrownP (fun i => i = gb) w w')
set_option maxRecDepth 100000 in
set_option maxHeartbeats 2000000 in
theorem enters_any (gb gd nd kd : Nat) (c : Bc) (g : Gr) (s : St) (cpu : Int) (w : World) (hP : Blk w gb 76 (c.cs g gd nd kd)) (hR : Rds w c.A c.n c.k c.B c.m c.d s.2.1 s.2.2) (hs : c.now = s.1) (hg : Good s.1 s.2.1 s.2.2) :
    Calls Try.prog 64 #[ptr gb, .int .i64 cpu] w (Rd_enters w gb gd nd kd c g s cpu) := by
  obtain ⟨now, A, n, k, B, m, d, E, ne, ke⟩ := c
  obtain ⟨now1, ns, os⟩ := s
  obtain rfl : now = now1 := hs
  have hon := enter1_any now A n k B m d ns os cpu w hR
  have hlt := hid hP.lt
  by_cases h0 : stC (now, ns, os) (cpu, true) = 0
  · rw [oneF_ok hg h0] at hon
    have HON := hid hon; have P := hid hP; have H0 := hid h0
    obtain ⟨y0, y1, y2, y3, y4, y5, y6, y7, yf⟩ := hP.cells8
    clear hon hP hR hg h0
    go_enter Try.func64, Try.ntmps64
    go_wp2_with fail
    clear y0 y1 y2 y3 y4 y5 y6 y7 yf
    refine HON.out.mono ?_
    rintro e w1 ⟨A1, n1, c1, B1, m1, d1, rfl, hro, hb⟩
    have P1 := hid (P.out.step hb); have HRO := hid hro; have HB := hid hb
    clear hb hro P HON
    obtain ⟨nw, hnw⟩ : ∃ x, x = (stN (now, ns, os) (cpu, true)).1 := ⟨_, rfl⟩
    have HNW := hid hnw
    rw [← hnw]
    clear hnw
    go_wp2_with fail
    refine (step_yes gb gd nd kd ⟨now, A, n, k, B, m, d, E, ne, ke⟩ g nw A1 n1 c1 B1 m1 d1 w1 P1.out).mono ?_
    rintro e w2 ⟨rfl, h1, h2⟩
    have H1 := hid h1; have H2 := hid h2
    clear h1 h2
    go_wp2_with fail
    go_end0
    refine .inl ⟨H0.out, rfl, A1, n1, c1, B1, m1, d1, by rw [← HNW.out]; exact H1.out, HRO.out.keptP H2.out (fun a ha => ?_), (GrownP.ofBelow HB.out).trans H2.out⟩
    have hl := hlt.out
    rcases ha with ha | ha
    · have := (HRO.out.oa.blk a ha).1; omega
    · have := (HRO.out.ob.blk a ha).1; omega
  · rw [oneF_err hg h0] at hon
    have HON := hid hon; have H0 := hid h0
    obtain ⟨cd, hcd⟩ : ∃ x, x = stC (now, ns, os) (cpu, true) := ⟨_, rfl⟩
    have HCD := hid hcd
    rw [← hcd] at h0
    have H1 := hid h0
    obtain ⟨y0, y1, y2, y3, y4, y5, y6, y7, yf⟩ := hP.cells8
    clear hon hP hR hg h0 hcd
    go_enter Try.func64, Try.ntmps64
    go_wp2_with fail
    clear y0 y1 y2 y3 y4 y5 y6 y7 yf
    refine HON.out.mono ?_
    rintro e w1 ⟨A1, n1, c1, B1, m1, d1, rfl, hro, hb⟩
    have HB := hid hb
    clear hb hro HON
    rw [← HCD.out]
    go_wp2_with fail
    refine (step_no gb 0 A1 n1 c1 B1 m1 d1 cd w1 H1.out).mono ?_
    rintro e w2 ⟨rfl, h2⟩
    have H2 := hid h2
    clear h2
    unfold Go.Proofs.Ytbibfjncjklclaa.leaves
    go_wp2_with fail
    refine ⟨rfl, .inr ⟨H0.out, by rw [← HCD.out]; rfl, (GrownP.ofBelow HB.out).thenB H2.out HB.out.size⟩⟩
/-- what leaves leaves -/
def Rd_leaves (w : World) (gb gd nd kd : Nat) (c : Bc) (g : Gr) (s : St) (cpu : Int) (x : Ending) (w' : World) : Prop :=
  (stC s (cpu, false) = 0 ∧ x = .returned (.tuple #[]) ∧ ∃ A n k B m d, Blk w' gb 76 (bth (stN s (cpu, false)).1 A n k B m d g (some ⟨gd, 0, none⟩) nd kd c.E c.ne c.ke) ∧ Rown w' w.heap.size A n k B m d (stN s (cpu, false)).2.1 (stN s (cpu, false)).2.2 ∧ GrownP (fun i => i = gb) w w') ∨
  (stC s (cpu, false) ≠ 0 ∧ x = Go.Proofs.Ytbibfjncjklclaa.leaves (stC s (cpu, false)) ∧ GrownP (fun i => i = gb) w w')
set_option maxRecDepth 100000 in
set_option maxHeartbeats 2000000 in
theorem leaves_any (gb gd nd kd : Nat) (c : Bc) (g : Gr) (s : St) (cpu : Int) (w : World) (hP : Blk w gb 76 (c.cs g gd nd kd)) (hR : Rds w c.A c.n c.k c.B c.m c.d s.2.1 s.2.2) (hs : c.now = s.1) (hg : Good s.1 s.2.1 s.2.2) :
    Calls Try.prog 65 #[ptr gb, .int .i64 cpu] w (Rd_leaves w gb gd nd kd c g s cpu) := by
  obtain ⟨now, A, n, k, B, m, d, E, ne, ke⟩ := c
  obtain ⟨now1, ns, os⟩ := s
  obtain rfl : now = now1 := hs
  have hon := leave1_any now A n k B m d ns os cpu w hR
  have hlt := hid hP.lt
  by_cases h0 : stC (now, ns, os) (cpu, false) = 0
  · rw [oneF_ok hg h0] at hon
    have HON := hid hon; have P := hid hP; have H0 := hid h0
    obtain ⟨y0, y1, y2, y3, y4, y5, y6, y7, yf⟩ := hP.cells8
    clear hon hP hR hg h0
    go_enter Try.func65, Try.ntmps65
    go_wp2_with fail
    clear y0 y1 y2 y3 y4 y5 y6 y7 yf
    refine HON.out.mono ?_
    rintro e w1 ⟨A1, n1, c1, B1, m1, d1, rfl, hro, hb⟩
    have P1 := hid (P.out.step hb); have HRO := hid hro; have HB := hid hb
    clear hb hro P HON
    obtain ⟨nw, hnw⟩ : ∃ x, x = (stN (now, ns, os) (cpu, false)).1 := ⟨_, rfl⟩
    have HNW := hid hnw
    rw [← hnw]
    clear hnw
    go_wp2_with fail
    refine (step_yes gb gd nd kd ⟨now, A, n, k, B, m, d, E, ne, ke⟩ g nw A1 n1 c1 B1 m1 d1 w1 P1.out).mono ?_
    rintro e w2 ⟨rfl, h1, h2⟩
    have H1 := hid h1; have H2 := hid h2
    clear h1 h2
    go_wp2_with fail
    go_end0
    refine .inl ⟨H0.out, rfl, A1, n1, c1, B1, m1, d1, by rw [← HNW.out]; exact H1.out, HRO.out.keptP H2.out (fun a ha => ?_), (GrownP.ofBelow HB.out).trans H2.out⟩
    have hl := hlt.out
    rcases ha with ha | ha
    · have := (HRO.out.oa.blk a ha).1; omega
    · have := (HRO.out.ob.blk a ha).1; omega
  · rw [oneF_err hg h0] at hon
    have HON := hid hon; have H0 := hid h0
    obtain ⟨cd, hcd⟩ : ∃ x, x = stC (now, ns, os) (cpu, false) := ⟨_, rfl⟩
    have HCD := hid hcd
    rw [← hcd] at h0
    have H1 := hid h0
    obtain ⟨y0, y1, y2, y3, y4, y5, y6, y7, yf⟩ := hP.cells8
    clear hon hP hR hg h0 hcd
    go_enter Try.func65, Try.ntmps65
    go_wp2_with fail
    clear y0 y1 y2 y3 y4 y5 y6 y7 yf
    refine HON.out.mono ?_
    rintro e w1 ⟨A1, n1, c1, B1, m1, d1, rfl, hro, hb⟩
    have HB := hid hb
    clear hb hro HON
    rw [← HCD.out]
    go_wp2_with fail
    refine (step_no gb 0 A1 n1 c1 B1 m1 d1 cd w1 H1.out).mono ?_
    rintro e w2 ⟨rfl, h2⟩
    have H2 := hid h2
    clear h2
    unfold Go.Proofs.Ytbibfjncjklclaa.leaves
    go_wp2_with fail
    refine ⟨rfl, .inr ⟨H0.out, by rw [← HCD.out]; rfl, (GrownP.ofBelow HB.out).thenB H2.out HB.out.size⟩⟩
end Go.Proofs.Ytbibfjncjklclaa
