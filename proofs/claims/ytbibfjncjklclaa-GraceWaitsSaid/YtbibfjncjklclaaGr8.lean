/- package grace: picks; what a tick does to all that is held. No condition but sizes. -/
import Derived.Test.YtbibfjncjklclaaGr7
namespace Go.Proofs.Ytbibfjncjklclaa
open Go.RowKit
attribute [local go_sem] Oper.semAt_some
set_option maxRecDepth 100000 in
set_option maxHeartbeats 4000000 in
theorem picks_yes (gb gd lo nd kd : Nat) (cp : Int) (c : Bc) (g : Gr) (ns os : List Int) (w : World) (hP : Blk w gb 76 (c.cs g gd nd kd)) (hD : Ow blv w lo 4 (some ⟨gd, 0, none⟩) nd kd g.nd) (hR : Rds w c.A c.n c.k c.B c.m c.d ns os) (hne : gb ≠ gd) (hn : nd ≤ 8) (hcp : 0 ≤ cp ∧ cp < nd) (hdn : wrap64 (g.dn + 1) = g.dn + 1) :
    Calls Try.prog 67 #[ptr gb, .int .i64 cp] w (ChPost w gb gd lo nd kd c (gPick g cp.toNat (decide (QuietP c.now ns os cp)))) := by
  have HQ := hid (quiet_any c.now c.A c.n c.k c.B c.m c.d ns os cp w hR)
  have P := hid hP; have HD := hid hD; have HCP := hid hcp; have HDN := hid hdn
  obtain ⟨q, hq⟩ : ∃ q, q = decide (QuietP c.now ns os cp) := ⟨_, rfl⟩
  rw [← hq] at HQ ⊢
  clear hP hD hR hcp hdn hq
  obtain ⟨now, A, n, k, B, m, d, E, ne, ke⟩ := c
  obtain ⟨y00, y01, y02, y03, y04, y05, y06, y07, yf0⟩ := P.out.cells8
  go_enter Try.func67, Try.ntmps67
  go_wp2_with fail
  clear y00 y01 y02 y03 y04 y05 y06 y07 yf0
  refine HQ.out.mono ?_
  rintro e w1 ⟨rfl, hb⟩
  have HB := hid hb
  replace P := hid (P.out.step hb); replace HD := hid (HD.out.step hb)
  clear HQ hb
  go_wp2_with fail
  refine (pick_yes gb gd lo nd kd cp q ⟨now, A, n, k, B, m, d, E, ne, ke⟩ g w1 P.out HD.out hne hn HCP.out HDN.out).mono ?_
  rintro e w2 ⟨rfl, h1, h2, h3⟩
  go_wp2
  go_end0
  exact ⟨rfl, h1, h2, (GrownP.ofBelow HB.out).trans h3⟩
set_option maxRecDepth 100000 in
theorem picks_out (gb gd nd kd : Nat) (cp : Int) (c : Bc) (g : Gr) (ns os : List Int) (w : World) (hP : Blk w gb 76 (c.cs g gd nd kd)) (hR : Rds w c.A c.n c.k c.B c.m c.d ns os) (hcp : cp < 0 ∨ (nd : Int) ≤ cp) :
    Calls Try.prog 67 #[ptr gb, .int .i64 cp] w fun x w' => x = leaves 2 ∧ Below w.heap.size w w' := by
  have HQ := hid (quiet_any c.now c.A c.n c.k c.B c.m c.d ns os cp w hR)
  have P := hid hP; have HCP := hid hcp
  obtain ⟨q, hq⟩ : ∃ q, q = decide (QuietP c.now ns os cp) := ⟨_, rfl⟩
  rw [← hq] at HQ
  clear hP hR hcp hq
  obtain ⟨now, A, n, k, B, m, d, E, ne, ke⟩ := c
  obtain ⟨y00, y01, y02, y03, y04, y05, y06, y07, yf0⟩ := P.out.cells8
  go_enter Try.func67, Try.ntmps67
  go_wp2_with fail
  clear y00 y01 y02 y03 y04 y05 y06 y07 yf0
  refine HQ.out.mono ?_
  rintro e w1 ⟨rfl, hb⟩
  have HB := hid hb
  replace P := hid (P.out.step hb)
  clear HQ hb
  go_wp2_with fail
  refine (pick_no gb now A n k B m d g (some ⟨gd, 0, none⟩) nd kd E ne ke cp q w1 P.out HCP.out).mono ?_
  rintro e w2 ⟨rfl, rfl⟩
  unfold leaves
  go_wp2_with fail
  exact ⟨rfl, rfl, HB.out⟩
/-- all that is held -/
def BAt (w : World) (l gb : Nat) (s : St) (g : Gr) (aq : List Int) : Prop := ∃ (c : Bc) (gd kd : Nat), c.now = s.1 ∧ Blk w gb 76 (c.cs g gd g.nd.length kd) ∧ Ow blv w l 4 (some ⟨gd, 0, none⟩) g.nd.length kd g.nd ∧
  Rown w l c.A c.n c.k c.B c.m c.d s.2.1 s.2.2 ∧ Ow i64 w l 3 c.E c.ne c.ke aq ∧ l ≤ gb ∧ ∀ a b, (c.A = some a ∨ c.B = some a) → c.E = some b → a.block ≠ b.block
/-- what a tick leaves -/
def TickPost (w : World) (l gb : Nat) (s : St) (g : Gr) (aq : List Int) (t : Int × Int) (x : Ending) (w' : World) : Prop :=
  GrownP (fun i => l ≤ i) w w' ∧ (((tickF s g t).1 = 0 ∧ x = .returned (.tuple #[]) ∧ BAt w' l gb (tickF s g t).2.1 (tickF s g t).2.2.1 (aq ++ (tickF s g t).2.2.2)) ∨ ((tickF s g t).1 ≠ 0 ∧ x = leaves (tickF s g t).1))
theorem BAt.parts {w : World} {l gb : Nat} {s : St} {g : Gr} {aq : List Int} (h : BAt w l gb s g aq) : ∃ (c : Bc) (gd kd : Nat), c.now = s.1 ∧ Blk w gb 76 (c.cs g gd g.nd.length kd) ∧ Ow blv w l 4 (some ⟨gd, 0, none⟩) g.nd.length kd g.nd ∧
  Rown w l c.A c.n c.k c.B c.m c.d s.2.1 s.2.2 ∧ Ow i64 w l 3 c.E c.ne c.ke aq ∧ l ≤ gb ∧ (∀ a b, (c.A = some a ∨ c.B = some a) → c.E = some b → a.block ≠ b.block) ∧ gb ≠ gd ∧ l ≤ gd ∧ (∀ a, (c.A = some a ∨ c.B = some a) → a.block ≠ gb ∧ a.block ≠ gd) ∧ ∀ a, c.E = some a → a.block ≠ gb ∧ a.block ≠ gd := by
  obtain ⟨c, gd, kd, h1, h2, h3, h4, h5, h6, h7⟩ := h
  obtain ⟨hgd, cs, hbd⟩ := h3.blk _ rfl
  refine ⟨c, gd, kd, h1, h2, h3, h4, h5, h6, h7, ?_, hgd, ?_, ?_⟩
  · rintro rfl
    unfold Blk at h2 hbd
    rw [h2] at hbd
    simp at hbd
  · rintro a (ha | ha)
    · exact ⟨h4.oa.ne_blk h2 (by decide) a ha, h4.oa.ne_blk hbd (by decide) a ha⟩
    · exact ⟨h4.ob.ne_blk h2 (by decide) a ha, h4.ob.ne_blk hbd (by decide) a ha⟩
  · exact fun a ha => ⟨h5.ne_blk h2 (by decide) a ha, h5.ne_blk hbd (by decide) a ha⟩
theorem tick_reads (ent : Bool) (F : Nat) (hF : F = if ent then 64 else 65) (w : World) (l gb : Nat) (s : St) (g : Gr) (aq : List Int) (cp : Int) (h : BAt w l gb s g aq) (hb : Both s g) (hl : l ≤ w.heap.size) :
    Calls Try.prog F #[ptr gb, .int .i64 cp] w (TickPost w l gb s g aq (if ent then 1 else 2, cp)) := by
  obtain ⟨c, gd, kd, h1, h2, h3, h4, h5, h6, h7, h8, h9, h10, h11⟩ := h.parts
  have hgb := h2.lt
  obtain ⟨_, _, hgd'⟩ := h3.blk _ rfl
  have hgd := hgd'.lt
  have post : ∀ x w', (stC s (cp, ent) = 0 ∧ x = .returned (.tuple #[]) ∧ ∃ A n k B m d, Blk w' gb 76 (bth (stN s (cp, ent)).1 A n k B m d g (some ⟨gd, 0, none⟩) g.nd.length kd c.E c.ne c.ke) ∧ Rown w' w.heap.size A n k B m d (stN s (cp, ent)).2.1 (stN s (cp, ent)).2.2 ∧ GrownP (fun i => i = gb) w w') ∨
      (stC s (cp, ent) ≠ 0 ∧ x = leaves (stC s (cp, ent)) ∧ GrownP (fun i => i = gb) w w') → TickPost w l gb s g aq (if ent then 1 else 2, cp) x w' := by
    intro x w' hp
    have ht : tickF s g (if ent then 1 else 2, cp) = (stC s (cp, ent), stN s (cp, ent), g, []) := by
      unfold tickF
      cases ent <;> simp
    unfold TickPost
    rw [ht]
    rcases hp with ⟨e0, rfl, A, n, k, B, m, d, k1, k2, k3⟩ | ⟨e0, rfl, k3⟩
    · refine ⟨k3.mono (fun i hi => by omega), .inl ⟨e0, rfl, ⟨(stN s (cp, ent)).1, A, n, k, B, m, d, c.E, c.ne, c.ke⟩, gd, kd, rfl, k1, h3.keptP k3 (fun a ha => by cases ha; exact fun e => h8 e.symm), k2.mono hl, by rw [List.append_nil]; exact h5.keptP k3 (fun a ha => (h11 a ha).1), h6, ?_⟩⟩
      intro a b ha hbq
      have hb1 := (h5.blk b hbq).2
      obtain ⟨cs, hb2⟩ := hb1
      have := hb2.lt
      rcases ha with ha | ha
      · have := (k2.oa.blk a ha).1; omega
      · have := (k2.ob.blk a ha).1; omega
    · exact ⟨k3.mono (fun i hi => by omega), .inr ⟨e0, rfl⟩⟩
  cases ent
  · subst hF
    exact (leaves_any gb gd g.nd.length kd c g s cp w h2 h4.rds h1 hb.1).mono fun x w' hp => post x w' hp
  · subst hF
    exact (enters_any gb gd g.nd.length kd c g s cp w h2 h4.rds h1 hb.1).mono fun x w' hp => post x w' hp
theorem tick_asks (w : World) (l gb : Nat) (s : St) (g : Gr) (aq : List Int) (cp : Int) (h : BAt w l gb s g aq) (hb : Both s g) (hl : l ≤ w.heap.size) (ha : aq.length ≤ 1000000) :
    Calls Try.prog 66 #[ptr gb, .int .i64 cp] w (TickPost w l gb s g aq (3, cp)) := by
  obtain ⟨c, gd, kd, h1, h2, h3, h4, h5, h6, h7, h8, h9, h10, h11⟩ := h.parts
  have hgb := h2.lt
  have hel := h5.len
  unfold TickPost tickF
  rw [if_neg (by simp), if_pos rfl]
  by_cases hc : cp < 0 ∨ (g.nd.length : Int) ≤ cp
  · rw [if_pos hc]
    refine (asks_out gb c.now c.A c.n c.k c.B c.m c.d g (some ⟨gd, 0, none⟩) g.nd.length kd c.E c.ne c.ke cp w h2 hc).mono ?_
    rintro x w' ⟨rfl, rfl⟩
    exact ⟨.refl _ _, .inr ⟨by simp, rfl⟩⟩
  · rw [if_neg hc]
    by_cases hf : 2147483645 < gNext g
    · rw [if_pos hf]
      refine (asks_full gb gd g.nd.length kd cp c g w h2 (by omega) hb.2.1 (by omega)).mono ?_
      rintro x w' ⟨rfl, k⟩
      exact ⟨.ofBelow k, .inr ⟨by simp, rfl⟩⟩
    · rw [if_neg hf]
      refine (asks_yes gb gd l g.nd.length kd cp c g aq w h2 h5 hl (by omega) hb.2.1 (by omega) (by omega)).mono ?_
      rintro x w' ⟨rfl, E, ke, k1, k2, k3, k4⟩
      have hkeep : ∀ a, (c.A = some a ∨ c.B = some a) → ¬ (a.block = gb ∨ ∃ b, c.E = some b ∧ a.block = b.block) := fun a ha e => by
        rcases e with e | ⟨b, hb1, e⟩
        · exact (h10 a ha).1 e
        · exact h7 a b ha hb1 e
      refine ⟨k3.mono (fun i hi => ?_), .inl ⟨rfl, rfl, ⟨c.now, c.A, c.n, c.k, c.B, c.m, c.d, E, c.ne + 1, ke⟩, gd, kd, h1, k1, h3.keptP k3 (fun a ha => ?_), h4.keptP k3 hkeep, k2, h6, ?_⟩⟩
      · rcases hi with rfl | ⟨a, ha, rfl⟩
        · exact h6
        · exact (h5.blk a ha).1
      · cases ha
        rintro (e | ⟨b, hb1, e⟩)
        · exact h8 e.symm
        · exact (h11 b hb1).2 e.symm
      · intro a b ha hbq e
        rcases k4 b hbq with ⟨b2, hb2, e2⟩ | hge
        · exact h7 a b2 ha hb2 (e.trans e2)
        · have : a.block < w.heap.size := by
            rcases ha with ha | ha
            · obtain ⟨_, cs, q⟩ := h4.oa.blk a ha; exact q.lt
            · obtain ⟨_, cs, q⟩ := h4.ob.blk a ha; exact q.lt
          omega
theorem GrOk.wrap {g : Gr} (h : GrOk g) : wrap64 (g.dn + 1) = g.dn + 1 := by
  have := h.small
  unfold wrap64; omega
theorem tick_picks (w : World) (l gb : Nat) (s : St) (g : Gr) (aq : List Int) (cp : Int) (h : BAt w l gb s g aq) (hb : Both s g) (hl : l ≤ w.heap.size) :
    Calls Try.prog 67 #[ptr gb, .int .i64 cp] w (TickPost w l gb s g aq (4, cp)) := by
  obtain ⟨c, gd, kd, h1, h2, h3, h4, h5, h6, h7, h8, h9, h10, h11⟩ := h.parts
  have hgb := h2.lt
  unfold TickPost tickF
  rw [if_neg (by simp), if_neg (by simp), if_pos rfl]
  by_cases hc : cp < 0 ∨ (g.nd.length : Int) ≤ cp
  · rw [if_pos hc]
    refine (picks_out gb gd g.nd.length kd cp c g s.2.1 s.2.2 w h2 h4.rds hc).mono ?_
    rintro x w' ⟨rfl, k⟩
    exact ⟨.ofBelow k, .inr ⟨by simp, rfl⟩⟩
  · rw [if_neg hc]
    have hq : decide (QuietP c.now s.2.1 s.2.2 cp) = decide (s.2.1[cp.toNat]?.getD 0 = 0) := by
      rw [decide_eq_decide, h1]
      constructor
      · exact fun h => h.2.2.2
      · exact fun h => ⟨hb.1, by omega, by rw [hb.2.2]; omega, h⟩
    have hpk := picks_yes gb gd l g.nd.length kd cp c g s.2.1 s.2.2 w h2 h3 h4.rds h8 hb.2.1.2.1 (by omega) hb.2.1.wrap
    rw [hq] at hpk
    refine hpk.mono ?_
    rintro x w' ⟨rfl, k1, k2, k3⟩
    have hln := gPick_len g cp.toNat (decide (s.2.1[cp.toNat]?.getD 0 = 0))
    refine ⟨k3.mono (fun i hi => by rcases hi with rfl | rfl <;> omega), .inl ⟨rfl, rfl, c, gd, kd, h1, ?_, ?_, h4.keptP k3 (fun a ha e => by rcases e with e | e; exact (h10 a ha).1 e; exact (h10 a ha).2 e), by rw [List.append_nil]; exact h5.keptP k3 (fun a ha e => by rcases e with e | e; exact (h11 a ha).1 e; exact (h11 a ha).2 e), h6, h7⟩⟩
    · rw [hln]; exact k1
    · rw [hln]; exact k2
end Go.Proofs.Ytbibfjncjklclaa
