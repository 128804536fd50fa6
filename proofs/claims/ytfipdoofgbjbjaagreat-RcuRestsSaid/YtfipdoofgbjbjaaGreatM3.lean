/- Walks and plain laws for this claim, part 3. No condition but sizes. -/
import Derived.Test.YtfipdoofgbjbjaaGreatM2
import Derived.Test.YtfipdoofgbjbjaaGreatM1
import Derived.Test.YtfipdoofgbjbjaaGreatProg
import Derived.Deep.RegionHeld3
import Derived.Tactics2
import Derived.Deep.DeepCutAuto
import Derived.Deep.RegionLaw
import Derived.BigQuiet
import Derived.Laws.EntriesVeiled
/- package reader: Run, Enter, Leave, New. No condition but sizes. -/
namespace Go.Proofs.YtfipdoofgbjbjaaGreat
open Go.RowKit Go.Shelf Go.Maps

theorem run_any (now : Int) (A : Option Addr) (n c : Nat) (B : Option Addr) (m d : Nat) (ns os : List Int) (L : Option Addr) (nl kc : Nat) (ls : List (Int × Bool)) (w : World) (h : Rds w A n c B m d ns os) (hL : Sm 2 encR (0, false) w 0 w.heap.size L nl ls) (hnl : nl ≤ 1000) :
    Calls Tryz.prog 139 #[rv now A n c B m d, .slice L nl kc] w (RunPost w (runF now ns os ls)) := by
  by_cases hg : Good now ns os
  · exact run_good now A n c B m d ns os L nl kc ls w h hL hnl hg
  · exact run_bad now A n c B m d ns os L nl kc ls w h hg
/-- what one step hands back: the error, the readers -/
def oneF (now : Int) (ns os : List Int) (x : Int × Bool) : Int × St := ((runF now ns os [x]).1, (runF now ns os [x]).2.2)
def OnePost (W : World) (r : Int × St) (e : Ending) (W' : World) : Prop :=
  ∃ A n c B m d, e = .returned (.tuple #[rv r.2.1 A n c B m d, .int .i64 r.1]) ∧ Rown W' W.heap.size A n c B m d r.2.2.1 r.2.2.2 ∧ Below W.heap.size W W'

set_option maxHeartbeats 2000000 in
theorem enter1_any (now : Int) (A : Option Addr) (n c : Nat) (B : Option Addr) (m d : Nat) (ns os : List Int) (cpu : Int) (w : World) (h : Rds w A n c B m d ns os) :
    Calls Tryz.prog 115 #[rv now A n c B m d, .int .i64 cpu] w (OnePost w (oneF now ns os (cpu, true))) := by
  have hbx := below_then (below_box w (.cells (rcs now A n c B m d) 24)) (below_box _ (.cells (rcs 0 none 0 0 none 0 0) 24))
  have hbx2 := below_then hbx (below_box _ (.cells #[.int .i64 cpu, .bool true] 87))
  have h0 := h.step hbx2
  have P := (Blk.new w 24 (rcs now A n c B m d)).step (below_box _ (.cells (rcs 0 none 0 0 none 0 0) 24))
  have P' := (Blk.new2 w 24 (rcs 0 none 0 0 none 0 0) (.cells (rcs now A n c B m d) 24)).step (below_box _ (.cells #[.int .i64 cpu, .bool true] 87))
  have HL := hid (Sm.one (sz := 2) (enc := encR) (d := ((0 : Int), false)) (w := ((w.alloc (.cells (rcs now A n c B m d) 24)).alloc (.cells (rcs 0 none 0 0 none 0 0) 24))) (e := 87) (cs := #[.int .i64 cpu, .bool true]) (g := w.heap.size + 1 + 1) (cpu, true) (by simp) (by intro j hj; match j, hj with | 0, _ => rfl | 1, _ => rfl))
  have HR := hid h0; have HBX := hid hbx2; have HP := hid P'
  obtain ⟨k0, k1, k2, kf⟩ := P.cells3
  clear h h0 hbx hbx2 P P'
  go_enter Tryz.func115, Tryz.ntmps115
  go_wp2_with fail
  clear k0 k1 k2 kf
  refine (run_any now A n c B m d ns os _ 1 1 [(cpu, true)] _ HR.out HL.out (by omega)).mono ?_
  rintro e w1 ⟨A', n', c', B', m', d', rfl, hown, hb⟩
  have hz := hb.size
  simp only [World.size_alloc] at hz
  have PZ := hid (HP.out.step hb)
  have HB1 := hid (below_then HBX.out hb)
  have HO := hid (hown.step (below_box w1 (.cells (rcs (oneF now ns os (cpu, true)).2.1 A' n' c' B' m' d') 24)))
  obtain ⟨code, hcode⟩ : ∃ code, code = (oneF now ns os (cpu, true)).1 := ⟨_, rfl⟩
  obtain ⟨nw, hnw⟩ : ∃ nw, nw = (oneF now ns os (cpu, true)).2.1 := ⟨_, rfl⟩
  have HC := hid hcode; have HN := hid hnw
  rw [show (runF now ns os [(cpu, true)]).1 = code from hcode.symm, show (runF now ns os [(cpu, true)]).2.2.1 = nw from hnw.symm]
  rw [← hnw] at HO
  clear hcode hnw hown
  have PZ1 := PZ.out.step (below_box w1 (.cells (rcs nw A' n' c' B' m' d') 24))
  have PN := Blk.new w1 24 (rcs nw A' n' c' B' m' d')
  obtain ⟨r0, r1, r2, rf⟩ := PZ1.cells3
  obtain ⟨s0, s1, s2, sf⟩ := PN.cells3
  have HZ1 := hid PZ1; have HZ := hid hz
  clear PZ1 PN hb hz
  go_wp2
  have q := ((HZ1.out.setCell 0 (.int .i64 nw)).setCell 1 (.slice A' n' c')).setCell 2 (.slice B' m' d')
  obtain ⟨q0, q1, q2, qf⟩ := q.cells3
  have hz := HZ.out
  refine bodyPost_ret (v := .tuple #[rv nw A' n' c' B' m' d', .int .i64 code]) (by simp [results, Tryz.results115, go_sem, q0, q1, q2]) rfl ⟨A', n', c', B', m', d', by rw [← HC.out, ← HN.out], ?_, ?_⟩
  · have o := HO.out
    exact ⟨(((o.oa.setCell (p := ⟨w.heap.size + 1, 0, none⟩) (by simp) _).setCell (p := ⟨w.heap.size + 1, 1, none⟩) (by simp) _).setCell (p := ⟨w.heap.size + 1, 2, none⟩) (by simp) _).mono (by simp; omega), (((o.ob.setCell (p := ⟨w.heap.size + 1, 0, none⟩) (by simp) _).setCell (p := ⟨w.heap.size + 1, 1, none⟩) (by simp) _).setCell (p := ⟨w.heap.size + 1, 2, none⟩) (by simp) _).mono (by simp; omega), o.apart, o.hn, o.hm⟩
  · exact (((below_then HB1.out (below_box w1 _)).setCell (by simp) _).setCell (by simp) _).setCell (by simp) _

set_option maxHeartbeats 2000000 in
theorem leave1_any (now : Int) (A : Option Addr) (n c : Nat) (B : Option Addr) (m d : Nat) (ns os : List Int) (cpu : Int) (w : World) (h : Rds w A n c B m d ns os) :
    Calls Tryz.prog 116 #[rv now A n c B m d, .int .i64 cpu] w (OnePost w (oneF now ns os (cpu, false))) := by
  have hbx := below_then (below_box w (.cells (rcs now A n c B m d) 24)) (below_box _ (.cells (rcs 0 none 0 0 none 0 0) 24))
  have hbx2 := below_then hbx (below_box _ (.cells #[.int .i64 cpu, .bool false] 87))
  have h0 := h.step hbx2
  have P := (Blk.new w 24 (rcs now A n c B m d)).step (below_box _ (.cells (rcs 0 none 0 0 none 0 0) 24))
  have P' := (Blk.new2 w 24 (rcs 0 none 0 0 none 0 0) (.cells (rcs now A n c B m d) 24)).step (below_box _ (.cells #[.int .i64 cpu, .bool false] 87))
  have HL := hid (Sm.one (sz := 2) (enc := encR) (d := ((0 : Int), false)) (w := ((w.alloc (.cells (rcs now A n c B m d) 24)).alloc (.cells (rcs 0 none 0 0 none 0 0) 24))) (e := 87) (cs := #[.int .i64 cpu, .bool false]) (g := w.heap.size + 1 + 1) (cpu, false) (by simp) (by intro j hj; match j, hj with | 0, _ => rfl | 1, _ => rfl))
  have HR := hid h0; have HBX := hid hbx2; have HP := hid P'
  obtain ⟨k0, k1, k2, kf⟩ := P.cells3
  clear h h0 hbx hbx2 P P'
  go_enter Tryz.func116, Tryz.ntmps116
  go_wp2_with fail
  clear k0 k1 k2 kf
  refine (run_any now A n c B m d ns os _ 1 1 [(cpu, false)] _ HR.out HL.out (by omega)).mono ?_
  rintro e w1 ⟨A', n', c', B', m', d', rfl, hown, hb⟩
  have hz := hb.size
  simp only [World.size_alloc] at hz
  have PZ := hid (HP.out.step hb)
  have HB1 := hid (below_then HBX.out hb)
  have HO := hid (hown.step (below_box w1 (.cells (rcs (oneF now ns os (cpu, false)).2.1 A' n' c' B' m' d') 24)))
  obtain ⟨code, hcode⟩ : ∃ code, code = (oneF now ns os (cpu, false)).1 := ⟨_, rfl⟩
  obtain ⟨nw, hnw⟩ : ∃ nw, nw = (oneF now ns os (cpu, false)).2.1 := ⟨_, rfl⟩
  have HC := hid hcode; have HN := hid hnw
  rw [show (runF now ns os [(cpu, false)]).1 = code from hcode.symm, show (runF now ns os [(cpu, false)]).2.2.1 = nw from hnw.symm]
  rw [← hnw] at HO
  clear hcode hnw hown
  have PZ1 := PZ.out.step (below_box w1 (.cells (rcs nw A' n' c' B' m' d') 24))
  have PN := Blk.new w1 24 (rcs nw A' n' c' B' m' d')
  obtain ⟨r0, r1, r2, rf⟩ := PZ1.cells3
  obtain ⟨s0, s1, s2, sf⟩ := PN.cells3
  have HZ1 := hid PZ1; have HZ := hid hz
  clear PZ1 PN hb hz
  go_wp2
  have q := ((HZ1.out.setCell 0 (.int .i64 nw)).setCell 1 (.slice A' n' c')).setCell 2 (.slice B' m' d')
  obtain ⟨q0, q1, q2, qf⟩ := q.cells3
  have hz := HZ.out
  refine bodyPost_ret (v := .tuple #[rv nw A' n' c' B' m' d', .int .i64 code]) (by simp [results, Tryz.results116, go_sem, q0, q1, q2]) rfl ⟨A', n', c', B', m', d', by rw [← HC.out, ← HN.out], ?_, ?_⟩
  · have o := HO.out
    exact ⟨(((o.oa.setCell (p := ⟨w.heap.size + 1, 0, none⟩) (by simp) _).setCell (p := ⟨w.heap.size + 1, 1, none⟩) (by simp) _).setCell (p := ⟨w.heap.size + 1, 2, none⟩) (by simp) _).mono (by simp; omega), (((o.ob.setCell (p := ⟨w.heap.size + 1, 0, none⟩) (by simp) _).setCell (p := ⟨w.heap.size + 1, 1, none⟩) (by simp) _).setCell (p := ⟨w.heap.size + 1, 2, none⟩) (by simp) _).mono (by simp; omega), o.apart, o.hn, o.hm⟩
  · exact (((below_then HB1.out (below_box w1 _)).setCell (by simp) _).setCell (by simp) _).setCell (by simp) _

end Go.Proofs.YtfipdoofgbjbjaaGreat

/- package reader: New. afterglowref11: Step. No condition but sizes. -/
namespace Go.Proofs.YtfipdoofgbjbjaaGreat
open Go.RowKit Go.Shelf Go.Maps

def NewPost (W : World) (n : Nat) (e : Ending) (W' : World) : Prop :=
  ∃ A B, e = .returned (.tuple #[rv 0 A n n B n n, .int .i64 0]) ∧ Rown W' W.heap.size A n n B n n (List.replicate n 0) (List.replicate n 0) ∧ Below W.heap.size W W'
set_option maxHeartbeats 2000000 in
theorem new_ok (n : Nat) (w : World) (h1 : 1 ≤ n) (h8 : n ≤ 8) : Calls Tryz.prog 68 #[.int .i64 n] w (NewPost w n) := by
  have hm := run_make_int n (by omega)
  have g1 : ¬ (n : Int) < 1 := by omega
  have g2 : ¬ (8 : Int) < (n : Int) := by omega
  go_enter Tryz.func68, Tryz.ntmps68
  go_wp2
  go_region
  · go_wp2
    refine bodyPost_ret (v := .tuple #[rv 0 (some ⟨w.heap.size + 1, 0, none⟩) n n (some ⟨w.heap.size + 1 + 1, 0, none⟩) n n, .int .i64 0]) (by simp [results, Tryz.results68, go_sem]) rfl ⟨_, _, rfl, ⟨?_, ?_, fun a b e1 e2 => by simp at e1 e2; omega, by omega, by omega⟩, ?_⟩
    · exact ((Ow.made (enc := i64) 0 (by simp) (by simp [maxLen]; omega) (by simp)).alloc _).drewN 1
    · exact (Ow.made (enc := i64) 0 (by simp <;> omega) (by simp [maxLen]; omega) (by simp)).drewN 1
    · exact below_drewN ((((Below.refl _ w).alloc (Nat.le_refl _) _).alloc (by simp) _).alloc (by simp <;> omega) _) 1
  · go_wp2
    refine bodyPost_ret (v := .tuple #[rv 0 (some ⟨w.heap.size + 1 + 1, 0, none⟩) n n (some ⟨w.heap.size + 1, 0, none⟩) n n, .int .i64 0]) (by simp [results, Tryz.results68, go_sem]) rfl ⟨_, _, rfl, ⟨?_, ?_, fun a b e1 e2 => by simp at e1 e2; omega, by omega, by omega⟩, ?_⟩
    · exact (Ow.made (enc := i64) 0 (by simp <;> omega) (by simp [maxLen]; omega) (by simp)).drewN 1
    · exact ((Ow.made (enc := i64) 0 (by simp) (by simp [maxLen]; omega) (by simp)).alloc _).drewN 1
    · exact below_drewN ((((Below.refl _ w).alloc (Nat.le_refl _) _).alloc (by simp) _).alloc (by simp <;> omega) _) 1
end Go.Proofs.YtfipdoofgbjbjaaGreat

/- The plain law of readers: what may be stays so behind a step. No condition. -/
namespace Go.Proofs.YtfipdoofgbjbjaaGreat
open Go.RowKit

theorem set_getD (l : List Int) (k j : Nat) (v : Int) (hk : k < l.length) : (l.set k v)[j]?.getD 0 = if j = k then v else l[j]?.getD 0 := by
  by_cases h : j = k
  · subst h; rw [List.getElem?_set_self hk, if_pos rfl]; rfl
  · rw [List.getElem?_set_ne (Ne.symm h), if_neg h]
theorem stepOs_get {now : Int} {ns os : List Int} {k j : Nat} {ent : Bool} (hk : k < os.length) :
    (stepOs now ns os k ent)[j]?.getD 0 = if j = k then (if ent = true then (if ns[k]?.getD 0 = 0 then now + 1 else os[k]?.getD 0) else (if ns[k]?.getD 0 = 1 then 0 else os[k]?.getD 0)) else os[j]?.getD 0 := by
  unfold stepOs enterO leaveO
  by_cases h : j = k
  · subst h
    cases ent
    · by_cases h1 : ns[j]?.getD 0 = 1
      · simp [h1, set_getD os j j 0 hk]
      · simp [h1]
    · by_cases h1 : ns[j]?.getD 0 = 0
      · simp [h1, set_getD os j j (now + 1) hk]
      · simp [h1]
  · cases ent
    · by_cases h1 : ns[k]?.getD 0 = 1
      · simp [h1, set_getD os k j 0 hk, h]
      · simp [h1, h]
    · by_cases h1 : ns[k]?.getD 0 = 0
      · simp [h1, set_getD os k j (now + 1) hk, h]
      · simp [h1, h]
theorem stepNs_len (ns : List Int) (k : Nat) (ent : Bool) : (stepNs ns k ent).length = ns.length := by simp [stepNs]
theorem stepOs_len (now : Int) (ns os : List Int) (k : Nat) (ent : Bool) : (stepOs now ns os k ent).length = os.length := by
  unfold stepOs enterO leaveO; split <;> split <;> simp
theorem good_step {now : Int} {ns os : List Int} {x : Int × Bool} (hg : Good now ns os) (hc : stC (now, ns, os) x = 0) :
    Good (stN (now, ns, os) x).1 (stN (now, ns, os) x).2.1 (stN (now, ns, os) x).2.2 := by
  obtain ⟨cpu, ent⟩ := x
  obtain ⟨c1, c2, c3, c4, c5⟩ := stC_zero hc
  dsimp only at c1 c2 c3 c4 c5
  show Good (now + 1) (stepNs ns cpu.toNat ent) (stepOs now ns os cpu.toNat ent)
  generalize cpu.toNat = k at *
  obtain ⟨⟨s1, s2, s3, s4, s5⟩, hr⟩ := good_iff.1 hg
  refine good_iff.2 ⟨⟨by rw [stepNs_len]; exact s1, by rw [stepNs_len]; exact s2, by rw [stepNs_len, stepOs_len]; exact s3, by omega, by omega⟩, fun i hi => ?_⟩
  rw [stepNs_len] at hi
  have hk := hr k c2
  have hi' := hr i hi
  obtain ⟨k1, k2, k3, k4, k5⟩ := hk
  obtain ⟨i1, i2, i3, i4, i5⟩ := hi'
  have le_now : ∀ j, j < ns.length → os[j]?.getD 0 ≤ now := fun j hj => by
    obtain ⟨a1, _, a3, a4, _⟩ := hr j hj
    by_cases h : 0 < ns[j]?.getD 0
    · exact (a4 h).2
    · rw [a3 (by omega)]; exact s4
  unfold RowR
  rw [stepNs_get c2, stepOs_get (by omega)]
  by_cases h : i = k
  · subst h
    simp only [if_true]
    cases ent
    · have c5' := c5 rfl
      simp only [Bool.false_eq_true, if_false]
      refine ⟨by omega, by omega, fun h0 => by rw [if_pos (by omega)], fun h0 => ?_, fun j hj hne => ?_⟩
      · rw [if_neg (by omega)]; have := k4 (by omega); omega
      · rw [stepOs_get (by omega), if_neg (by omega)]
        by_cases h1 : ns[i]?.getD 0 = 1
        · rw [if_pos h1] at hne; exact absurd rfl hne
        · rw [if_neg h1] at hne ⊢; exact k5 j hj hne
    · have c4' := c4 rfl
      simp only [eq_self, if_true]
      refine ⟨by omega, by omega, fun h0 => by omega, fun _ => ?_, fun j hj hne => ?_⟩
      · by_cases h0 : ns[i]?.getD 0 = 0
        · rw [if_pos h0]; omega
        · rw [if_neg h0]; have := k4 (by omega); omega
      · rw [stepOs_get (by omega), if_neg (by omega)]
        by_cases h0 : ns[i]?.getD 0 = 0
        · rw [if_pos h0]; have := le_now j (by omega); omega
        · rw [if_neg h0] at hne ⊢; exact k5 j hj hne
  · simp only [if_neg h]
    refine ⟨i1, i2, i3, fun h0 => by have := i4 h0; omega, fun j hj hne => ?_⟩
    rw [stepOs_get (by omega)]
    by_cases hjk : j = k
    · subst hjk
      simp only [if_true]
      have hle := le_now i hi
      have hpos : 0 < ns[i]?.getD 0 := by
        apply Classical.byContradiction; intro h0; exact hne (i3 (by omega))
      have := (i4 hpos).1
      cases ent
      · simp only [Bool.false_eq_true, if_false]
        split
        · omega
        · exact i5 j hj hne
      · simp only [if_true]
        split
        · omega
        · exact i5 j hj hne
    · rw [if_neg hjk]; exact i5 j hj hne

/-! ### one step -/
theorem oneF_err {now : Int} {ns os : List Int} {x : Int × Bool} (h : Good now ns os) (hc : stC (now, ns, os) x ≠ 0) : oneF now ns os x = (stC (now, ns, os) x, (0, [], [])) := by
  unfold oneF runF; rw [if_pos h]; simp only [runA, if_neg hc]
theorem oneF_ok {now : Int} {ns os : List Int} {x : Int × Bool} (h : Good now ns os) (hc : stC (now, ns, os) x = 0) : oneF now ns os x = (0, stN (now, ns, os) x) := by
  unfold oneF runF; rw [if_pos h]; simp only [runA, if_pos hc]
end Go.Proofs.YtfipdoofgbjbjaaGreat

/- Readers and a grace: what a tick does, and that who was in a section is waited for, plainly. No condition. -/
namespace Go.Proofs.YtfipdoofgbjbjaaGreat
/-- a tick: the error, the readers, the grace, what was asked for -/
def tickF (s : St) (g : Gr) (t : Int × Int) : Int × St × Gr × List Int :=
  if t.1 = 1 ∨ t.1 = 2 then (stC s (t.2, decide (t.1 = 1)), stN s (t.2, decide (t.1 = 1)), g, [])
  else if t.1 = 3 then (if t.2 < 0 ∨ (g.nd.length : Int) ≤ t.2 then (2, s, g, []) else if 2147483645 < gNext g then (6, s, g, []) else (0, s, gAsk g, [gNext g]))
  else if t.1 = 4 then (if t.2 < 0 ∨ (g.nd.length : Int) ≤ t.2 then (2, s, g, []) else (0, s, gPick g t.2.toNat (decide (s.2.1[t.2.toNat]?.getD 0 = 0)), []))
  else (221, s, g, [])
def Both (s : St) (g : Gr) : Prop := Good s.1 s.2.1 s.2.2 ∧ GrOk g ∧ s.2.1.length = g.nd.length
/-- with which step each period was asked for last -/
def AtInv (s : St) (g : Gr) (at_ : List (Int × Int)) : Prop :=
  (∀ x ∈ at_, 1 ≤ x.1 ∧ x.1 ≤ g.ak ∧ 0 ≤ x.2 ∧ x.2 ≤ s.1 ∧ (x.1 ≤ g.dn → ∀ k, k < s.2.1.length → 0 < s.2.1[k]?.getD 0 → x.2 < s.2.2[k]?.getD 0) ∧
    (x.1 = g.dn + 1 → g.on = true → ∀ k, k < s.2.1.length → g.nd[k]?.getD false = false → 0 < s.2.1[k]?.getD 0 → x.2 < s.2.2[k]?.getD 0)) ∧ ∀ n, 1 ≤ n → n ≤ g.ak → n ∈ at_.map Prod.fst
def putI (L : List (Int × Int)) (k v : Int) : List (Int × Int) := match L with
  | [] => [(k, v)]
  | x :: L => if x.1 = k then (k, v) :: L else x :: putI L k v
/-- what was asked for by a tick is laid down -/
def atF (s : St) (at_ : List (Int × Int)) (l : List Int) : List (Int × Int) := l.foldl (fun a n => putI a n s.1) at_
end Go.Proofs.YtfipdoofgbjbjaaGreat

/- package grace: pick, step, enters, leaves, asks, picks. No condition but sizes. -/
namespace Go.Proofs.YtfipdoofgbjbjaaGreat
open Go.RowKit
attribute [local go_sem] Oper.semAt_some
set_option maxRecDepth 100000 in
set_option maxHeartbeats 4000000 in
theorem pick_yes (gb gd lo nd kd : Nat) (cp : Int) (q : Bool) (c : Bc) (g : Gr) (w : World) (hP : Blk w gb 160 (c.cs g gd nd kd)) (hD : Ow blv w lo 4 (some ⟨gd, 0, none⟩) nd kd g.nd) (hne : gb ≠ gd) (hn : nd ≤ 8) (hcp : 0 ≤ cp ∧ cp < nd) (hdn : wrap64 (g.dn + 1) = g.dn + 1) :
    Calls Tryz.prog 125 #[ptr gb, .int .i64 cp, .bool q] w (ChPost w gb gd lo nd kd c (gPick g cp.toNat q)) := by
  obtain ⟨cn, rfl⟩ := Int.eq_ofNat_of_zero_le hcp.1
  have hcn : cn < nd := by omega
  rw [Int.toNat_natCast]
  have HB1 := hid (fun nq => begin_any gb gd lo nd kd c g (w.drewN nq) (hP.drewN nq) (hD.drewN nq) hne hn)
  have HDR := hid (fun nq => GrownP.ofBelow (p := fun i => i = gb ∨ i = gd) (below_drewN (Below.refl w.heap.size w) nq))
  have HR1 := hid (report_any gb gd lo nd kd cn c g w hP hD hne hn hcn hdn)
  have HD := hid hD; have P := hid hP
  have HP : Hid (gPick g cn q = g → ∀ nq, ChPost w gb gd lo nd kd c (gPick g cn q) (.returned (.tuple #[])) (w.drewN nq)) := hid (fun h1 nq => by rw [h1]; exact ⟨rfl, hP.drewN nq, hD.drewN nq, .ofBelow (below_drewN (Below.refl w.heap.size w) nq)⟩)
  have hin := in_yes gb c.now c.A c.n c.k c.B c.m c.d g (some ⟨gd, 0, none⟩) nd kd c.E c.ne c.ke (cn : Int) w hP (by omega)
  have HIN := hid hin
  have HE : Hid (gPick g cn q = if g.on && q then gReport g cn else if !g.on && decide (g.dn < g.ak) then gBegin g else g) := hid rfl
  clear hin hD hP hdn hcp
  obtain ⟨now, A, n, k, B, m, d, E, ne, ke⟩ := c
  obtain ⟨nd', dn, ak, on⟩ := g
  go_enter Tryz.func125, Tryz.ntmps125
  go_wp2_with fail
  refine HIN.out.mono ?_
  rintro e w1 ⟨rfl, rfl⟩
  clear HIN
  obtain ⟨y00, y01, y02, y03, y04, y05, y06, y07, yf0⟩ := P.out.cells8
  rcases on with _ | _
  · skip
    go_upto_region 3 with fail
    by_cases hak : dn < ak
    · skip
      have d1 : decide (dn < ak) = true := decide_eq_true hak
      have HAK := hid hak
      clear hak
      have hpk := HE.out
      simp only [Bool.false_and, Bool.false_eq_true, if_false, Bool.not_false, Bool.true_and, d1, if_true] at hpk
      have HPK := hid hpk
      clear hpk HE HP HR1
      go_quiet (fail)
      clear y00 y01 y02 y03 y04 y05 y06 y07 yf0
      go_wp2_with fail
      refine (HB1.out _).mono ?_
      rintro e w2 ⟨rfl, h1, h2, h3⟩
      go_wp2
      go_end0
      rw [HPK.out]
      exact ⟨rfl, h1, h2, (HDR.out _).trans h3⟩
    · skip
      have d1 : decide (dn < ak) = false := decide_eq_false hak
      have HAK := hid hak
      clear hak
      have hpk := HE.out
      simp only [Bool.false_and, Bool.false_eq_true, if_false, Bool.not_false, Bool.true_and, d1] at hpk
      have HF := hid (HP.out hpk)
      clear hpk HE HP HR1 HB1
      go_quiet (fail)
      clear y00 y01 y02 y03 y04 y05 y06 y07 yf0
      go_wp2
      go_end0
      exact HF.out _
  · skip
    rcases q with _ | _
    · skip
      go_upto_region 3 with fail
      have HF := hid (HP.out HE.out)
      go_quiet (fail)
      clear y00 y01 y02 y03 y04 y05 y06 y07 yf0
      go_wp2
      go_end0
      exact HF.out _
    · skip
      go_upto_region 2 with fail
      clear y00 y01 y02 y03 y04 y05 y06 y07 yf0
      have hpk := HE.out
      simp only [Bool.and_self, if_true] at hpk
      rw [hpk]
      clear hpk HE HP HB1
      go_wp2_with fail
      refine HR1.out.mono ?_
      rintro e w2 ⟨rfl, h1, h2, h3⟩
      go_wp2
      go_end0
      exact ⟨rfl, h1, h2, h3⟩
set_option maxRecDepth 100000 in
theorem pick_no (gb : Nat) (now : Int) (A : Option Addr) (n k : Nat) (B : Option Addr) (m d : Nat) (g : Gr) (D : Option Addr) (nd kd : Nat) (E : Option Addr) (ne ke : Nat) (c : Int) (q : Bool) (w : World) (P : Blk w gb 160 (bth now A n k B m d g D nd kd E ne ke)) (h : c < 0 ∨ (nd : Int) ≤ c) :
    Calls Tryz.prog 125 #[ptr gb, .int .i64 c, .bool q] w fun x w' => x = leaves 2 ∧ w' = w := by
  have HIN := hid (in_no gb now A n k B m d g D nd kd E ne ke c w P h)
  clear P h
  go_enter Tryz.func125, Tryz.ntmps125
  go_wp2_with fail
  refine HIN.out.mono ?_
  rintro e w1 ⟨rfl, rfl⟩
  unfold leaves
  go_wp2_with fail
  exact ⟨rfl, rfl, rfl⟩
theorem Ow.keptP {α : Type} {enc : α → Value} {w w' : World} {lo n c : Nat} {e : TypeId} {A : Option Addr} {xs : List α} {p : Nat → Prop} (h : Ow enc w lo e A n c xs) (k : GrownP p w w') (hp : ∀ a, A = some a → ¬ p a.block) : Ow enc w' lo e A n c xs :=
  h.same fun a ha => k.block _ (by obtain ⟨_, cs, hb⟩ := h.blk a ha; exact hb.lt) (hp a ha)
theorem Rown.keptP {w w' : World} {lo n c m d : Nat} {A B : Option Addr} {ns os : List Int} {p : Nat → Prop} (h : Rown w lo A n c B m d ns os) (k : GrownP p w w') (hp : ∀ a, A = some a ∨ B = some a → ¬ p a.block) : Rown w' lo A n c B m d ns os :=
  ⟨h.oa.keptP k (fun a ha => hp a (.inl ha)), h.ob.keptP k (fun a ha => hp a (.inr ha)), h.apart, h.hn, h.hm⟩
end Go.Proofs.YtfipdoofgbjbjaaGreat

/- package grace: asks. No condition but sizes. -/
namespace Go.Proofs.YtfipdoofgbjbjaaGreat
open Go.RowKit
attribute [local go_sem] Oper.semAt_some
set_option maxRecDepth 100000 in
theorem ask_no (gb : Nat) (now : Int) (A : Option Addr) (n k : Nat) (B : Option Addr) (m d : Nat) (g : Gr) (D : Option Addr) (nd kd : Nat) (E : Option Addr) (ne ke : Nat) (w : World) (P : Blk w gb 160 (bth now A n k B m d g D nd kd E ne ke)) (h : ¬ nextW g ≤ 2147483645) :
    Calls Tryz.prog 141 #[ptr gb] w fun x w' => x = leaves 6 ∧ Below w.heap.size w w' := by
  obtain ⟨N, hN⟩ : ∃ N, N = nextW g := ⟨_, rfl⟩
  have HN := hid hN
  rw [← hN] at h
  have HH := hid h
  obtain ⟨y0, y1, y2, y3, y4, y5, y6, y7, yf⟩ := P.cells8
  clear P hN h
  go_enter Tryz.func141, Tryz.ntmps141
  go_wp2_with fail
  clear y0 y1 y2 y3 y4 y5 y6 y7 yf
  refine (next_any g D nd kd w).mono ?_
  rintro x w1 ⟨rfl, hb⟩
  rw [← HN.out]
  have HB := hid hb
  have d1 : decide (N ≤ 2147483645) = false := decide_eq_false (by have := HH.out; omega)
  clear hb HH
  go_wp2_with fail
  refine (need_no 6 w1).mono ?_
  rintro x w2 ⟨rfl, rfl⟩
  unfold leaves
  go_wp2_with fail
  exact ⟨rfl, rfl, HB.out⟩
theorem GrownP.thenG {q : Nat → Prop} {row : Option Nat} {w a b : World} (h : GrownP q w a) (k : a.grownBy b row) (hr : ∀ r, row = some r → w.heap.size ≤ r ∨ q r) : GrownP q w b :=
  ⟨k.os.trans h.os, k.tape.trans h.tape, k.output.trans h.output, Nat.le_trans h.size k.size, fun i hi hq => (k.block i (Nat.lt_of_lt_of_le hi h.size) (fun e => by rcases hr i e.symm with h | h; omega; exact hq h)).trans (h.block i hi hq)⟩
end Go.Proofs.YtfipdoofgbjbjaaGreat

/- package grace: Ask and Pick, for a grace that may be; New. No condition but sizes. -/
namespace Go.Proofs.YtfipdoofgbjbjaaGreat
open Go.RowKit
attribute [local go_sem] Oper.semAt_some
theorem Ow.keptR {α : Type} {enc : α → Value} {w w' : World} {lo n c g : Nat} {e t : TypeId} {A : Option Addr} {xs : List α} {cs : Array Value} (h : Ow enc w lo e A n c xs) (hb : Blk w g t cs) (hne : t ≠ e) (hg : w.grownBy w' (some g)) : Ow enc w' lo e A n c xs :=
  h.keptG hg (fun a ha e => h.ne_blk hb hne a ha (Option.some.inj e))
theorem GrOk.wrap {g : Gr} (h : GrOk g) : wrap64 (g.dn + 1) = g.dn + 1 := by
  have := h.small
  unfold wrap64; omega
/-- a both with a grace alone -/
def GAt (W : World) (l gb : Nat) (g : Gr) : Prop := ∃ D kd, Blk W gb 160 (bth 0 none 0 0 none 0 0 g D g.nd.length kd none 0 0) ∧ Ow blv W l 4 D g.nd.length kd g.nd ∧ l ≤ gb
theorem GAt.set {W : World} {l gb : Nat} {g : Gr} (h : GAt W l gb g) {p : Addr} (hp : p.block < l) (u : Value) : GAt (W.setCell p u) l gb g := by
  obtain ⟨D, kd, h1, h2, h3⟩ := h
  exact ⟨D, kd, h1.far (by omega) u, h2.setCell hp u, h3⟩
theorem GAt.zero {W : World} {gn : Nat} (h : Blk W gn 160 bth0) (l : Nat) (hl : l ≤ gn) : GAt W l gn zGr := ⟨none, 0, h, Ow.nil _ _ _, hl⟩
/-- what Ask hands back: the error, the number, the grace -/
def gaskF (g : Gr) : Int × Int × Gr := if gNext g ≤ 2147483645 then (0, gNext g, gAsk g) else (6, 0, zGr)
def GAskPost (w : World) (r : Int × Int × Gr) (x : Ending) (w' : World) : Prop := ∃ D kd, x = .returned (.tuple #[gv r.2.2 D r.2.2.nd.length kd, .int .i64 r.2.1, .int .i64 r.1]) ∧ Ow blv w' w.heap.size 4 D r.2.2.nd.length kd r.2.2.nd ∧ Below w.heap.size w w'
set_option maxRecDepth 100000 in
set_option maxHeartbeats 4000000 in
theorem ask1_any (w1 : World) (gd gb gn hi : Nat) (g : Gr) (kd : Nat) (hgd : hi ≤ gd) (hgb : hi ≤ gb) (hne : gd ≠ gb) (hgn : gn < hi) (hP : Blk w1 gb 160 (bth 0 none 0 0 none 0 0 g (some ⟨gd, 0, none⟩) g.nd.length kd none 0 0))
    (hD : Ow blv w1 gd 4 (some ⟨gd, 0, none⟩) g.nd.length kd g.nd) (hN : Blk w1 gn 3 #[.int .i64 0]) (hg : GrOk g) :
    Calls Tryz.prog 140 #[ptr gb, ptr gn] w1 fun x w2 => GrownP (fun i => i = gn ∨ min gd gb ≤ i) w1 w2 ∧ ((x = .returned (.tuple #[]) ∧ (gaskF g).1 = 0 ∧ Blk w2 gn 3 #[.int .i64 (gaskF g).2.1] ∧ GAt w2 (min gd gb) gb (gaskF g).2.2) ∨ ∃ c, x = leaves c ∧ c = (gaskF g).1 ∧ c ≠ 0 ∧ Blk w2 gn 3 #[.int .i64 (gaskF g).2.1] ∧ (gaskF g).2.2 = zGr) := by
  unfold gaskF
  by_cases h0 : gNext g ≤ 2147483645
  · rw [if_pos h0]
    have ha := ask_yes gb 0 none 0 0 none 0 0 g (some ⟨gd, 0, none⟩) g.nd.length kd none 0 0 w1 hP (by rw [nextW_ok hg]; exact h0)
    rw [nextW_ok hg] at ha
    have HA := hid ha
    have P := hid hP; have D := hid hD; have PN := hid hN
    clear hP hD hN ha
    obtain ⟨N, hNN⟩ : ∃ N, N = gNext g := ⟨_, rfl⟩
    have HN := hid hNN
    rw [← hNN] at HA ⊢
    clear hNN h0
    go_enter Tryz.func140, Tryz.ntmps140
    go_wp2_with fail
    refine HA.out.mono ?_
    rintro e w3 ⟨rfl, w2, hb, rfl⟩
    have P2 := hid (P.out.step hb); have D2 := hid (D.out.step hb); have PN2 := hid (PN.out.step hb)
    have hlt := hid P.out.lt
    have P3 := hid (show Blk (w2.setCell ⟨gb, 4, none⟩ (.int .i64 (max g.ak N))) gb 160 (bth 0 none 0 0 none 0 0 (gAsk g) (some ⟨gd, 0, none⟩) g.nd.length kd none 0 0) by rw [show gAsk g = { g with ak := max g.ak N } by rw [HN.out]; rfl]; exact P2.out.setCell 4 _)
    have D3 := hid (D2.out.far (p := ⟨gb, 4, none⟩) hne (.int .i64 (max g.ak N)))
    have PN3 := hid (PN2.out.far (p := ⟨gb, 4, none⟩) (show gn ≠ gb by omega) (.int .i64 (max g.ak N)))
    have HG := hid ((GrownP.ofBelow (p := fun i => i = gn ∨ min gd gb ≤ i) hb).set (p := ⟨gb, 4, none⟩) (.inr (Nat.min_le_right _ _)) (.int .i64 (max g.ak N)))
    clear P P2 D D2 PN PN2 HA hb
    generalize w2.setCell ⟨gb, 4, none⟩ (.int .i64 (max g.ak N)) = W3 at *
    obtain ⟨y0, yf⟩ := PN3.out.cells1
    go_wp2_with fail
    clear y0 yf
    go_end0
    refine ⟨HG.out.set (p := ⟨gn, 0, none⟩) (.inl rfl) _, .inl ⟨by simp, by simp, PN3.out.setCell 0 _, ?_⟩⟩
    exact ⟨some ⟨gd, 0, none⟩, kd, P3.out.far (p := ⟨gn, 0, none⟩) (show gb ≠ gn by omega) _, (D3.out.far (p := ⟨gn, 0, none⟩) (show gd ≠ gn by omega) _).mono (Nat.min_le_left _ _), Nat.min_le_right _ _⟩
  · rw [if_neg h0]
    have ha := ask_no gb 0 none 0 0 none 0 0 g (some ⟨gd, 0, none⟩) g.nd.length kd none 0 0 w1 hP (by rw [nextW_ok hg]; exact h0)
    have HA := hid ha; have PN := hid hN
    clear hP hD hN ha h0
    go_enter Tryz.func140, Tryz.ntmps140
    go_wp2_with fail
    refine HA.out.mono ?_
    rintro e w2 ⟨rfl, hb⟩
    have HB := hid hb
    clear hb HA
    unfold leaves
    go_wp2_with fail
    exact ⟨rfl, .ofBelow HB.out, .inr ⟨6, rfl, by simp, by decide, PN.out.step HB.out, by simp⟩⟩
set_option maxRecDepth 100000 in
set_option maxHeartbeats 4000000 in
theorem gask_any (g : Gr) (D : Option Addr) (kd : Nat) (w : World) (hD : Sl blv false w 0 w.heap.size D g.nd.length g.nd) (hg : GrOk g) :
    Calls Tryz.prog 117 #[gv g D g.nd.length kd] w (GAskPost w (gaskF g)) := by
  obtain ⟨r, hr⟩ : ∃ r, r = gaskF g := ⟨_, rfl⟩
  have HRR := hid hr
  rw [← hr]
  have HD := hid hD; have HG := hid hg; have HB := hid (Below.refl w.heap.size w)
  clear hD hg hr
  have bx := below_box w (.cells (gcs g D g.nd.length kd) 27)
  replace HD := hid (HD.out.step bx); replace HB := hid (below_then HB.out bx)
  clear bx
  have PG := hid (Blk.new w 27 (gcs g D g.nd.length kd))
  have bx := below_box (w.alloc (.cells (gcs g D g.nd.length kd) 27)) (.cells #[.int .i64 0, .int .i64 0, .bool false, .slice none 0 0] 27)
  replace HD := hid (HD.out.step bx); replace PG := hid (PG.out.step bx); replace HB := hid (below_then HB.out bx)
  clear bx
  have ZG := hid (Blk.new2 w 27 #[.int .i64 0, .int .i64 0, .bool false, .slice none 0 0] (.cells (gcs g D g.nd.length kd) 27))
  have bx := below_box ((w.alloc (.cells (gcs g D g.nd.length kd) 27)).alloc (.cells #[.int .i64 0, .int .i64 0, .bool false, .slice none 0 0] 27)) (.cells #[.int .i64 0] 3)
  replace HD := hid (HD.out.step bx); replace PG := hid (PG.out.step bx); replace ZG := hid (ZG.out.step bx); replace HB := hid (below_then HB.out bx)
  clear bx
  have PN := hid (Blk.new3 w 3 #[.int .i64 0] (.cells (gcs g D g.nd.length kd) 27) (.cells #[.int .i64 0, .int .i64 0, .bool false, .slice none 0 0] 27))
  go_enter Tryz.func117, Tryz.ntmps117
  have hmf : ∀ (fn : Fn) (first cap : Array Value) (w : World), (Instr.makeFunc fn first cap).run Tryz.prog w = .ok (.func fn first cap) w := fun _ _ _ _ => rfl
  obtain ⟨y00, y01, y02, y03, yf0⟩ := PG.out.cells4
  obtain ⟨y10, yf1⟩ := PN.out.cells1
  go_wp2_with fail
  have hz0 := hid (show (((w.alloc (.cells (gcs g D g.nd.length kd) 27)).alloc (.cells #[.int .i64 0, .int .i64 0, .bool false, .slice none 0 0] 27)).alloc (.cells #[.int .i64 0] 3)).heap.size = w.heap.size + 3 by simp)
  generalize ((w.alloc (.cells (gcs g D g.nd.length kd) 27)).alloc (.cells #[.int .i64 0, .int .i64 0, .bool false, .slice none 0 0] 27)).alloc (.cells #[.int .i64 0] 3) = W0 at *
  have hszA := hz0
  clear y00 y01 y02 y03 yf0 y10 yf1 hmf hz0
  refine (tries_any g D g.nd.length kd 0 140 #[ptr (w.heap.size + 1 + 1)] (fun i => i = w.heap.size + 1 + 1) (fun l gb W => (gaskF g).1 = 0 ∧ Blk W (w.heap.size + 1 + 1) 3 #[.int .i64 (gaskF g).2.1] ∧ GAt W l gb (gaskF g).2.2) (fun c W => c = (gaskF g).1 ∧ c ≠ 0 ∧ Blk W (w.heap.size + 1 + 1) 3 #[.int .i64 (gaskF g).2.1] ∧ (gaskF g).2.2 = zGr) W0 (by rintro i rfl; have := hszA.out; omega) HD.out (by have := HG.out.2.1; omega) HG.out (enters_of Tryz.func140 (by kernel_rfl) rfl) ?_ ?_ ?_).mono ?_
  ·intro wc gd gb hgd hgb hne hbw hPb hDb
   refine (ask1_any wc gd gb (w.heap.size + 1 + 1) W0.heap.size g g.nd.length hgd hgb hne (by have := hszA.out; omega) hPb hDb (PN.out.step hbw) HG.out).mono ?_
   rintro x w2 ⟨hg2, hx⟩
   exact ⟨hg2, hx⟩
  ·rintro l gb W p u ⟨h0, h1, h2⟩ h3 h4
   exact ⟨h0, h1.far (by have := hszA.out; omega) u, h2.set h4 u⟩
  ·rintro c W W' ⟨h0, h1, h2, h3⟩ hb
   exact ⟨h0, h1, h2.below hb (by have := hszA.out; omega), h3⟩
  rintro x w2 ⟨hg2, hx⟩
  have hgp : ∃ gp, x = .returned (.tuple #[ptr gp, .int .i64 (gaskF g).1]) ∧ W0.heap.size ≤ gp ∧ GAt w2 W0.heap.size gp (gaskF g).2.2 ∧ Blk w2 (w.heap.size + 1 + 1) 3 #[.int .i64 (gaskF g).2.1] := by
    rcases hx with ⟨gb, rfl, l, hl1, hl2, h1, h2, D3, kd3, h3, h4, h5⟩ | ⟨gn, c, rfl, ⟨h1, h2, h3, h4⟩, h5, h6⟩
    · exact ⟨gb, by rw [h1], by omega, ⟨D3, kd3, h3, h4.mono hl1, by omega⟩, h2⟩
    · exact ⟨gn, by rw [h1], h5, by rw [h4]; exact GAt.zero h6 _ h5, h3⟩
  obtain ⟨gp, rfl, hgp1, ⟨D2, kd2, h1, h2, _⟩, hn2⟩ := hgp
  rw [← HRR.out] at h1 h2 hn2 ⊢
  have P2 := hid h1; have DO2 := hid h2; have PN2 := hid hn2; have HGP := hid hgp1
  have hszz := hid (show w.heap.size ≤ W0.heap.size by have := hszA.out; omega)
  have HB2 := hid (show Below w.heap.size w w2 from ⟨hg2.os.trans HB.out.os, hg2.tape.trans HB.out.tape, hg2.output.trans HB.out.output, Nat.le_trans HB.out.size hg2.size, fun i hi => (hg2.block i (Nat.lt_of_lt_of_le hi hszz.out) (by omega)).trans (HB.out.block i hi)⟩)
  replace ZG := hid (ZG.out.keptP hg2 (by simp))
  obtain ⟨rc, rn, rg⟩ := r
  clear hx h1 h2 hn2 hgp1 hg2 HB HD PN PG HRR HG
  dsimp only at P2 DO2 PN2 ⊢
  go_upto_region 3 with fail
  have bx := (Below.refl w2.heap.size w2).drew
  replace ZG := hid (ZG.out.step bx); replace P2 := hid (P2.out.step bx); replace DO2 := hid (DO2.out.step bx); replace PN2 := hid (PN2.out.step bx); replace HB2 := hid (below_then HB2.out bx)
  clear bx
  have hszd := hid (show w2.drew.heap.size = w2.heap.size from rfl)
  refine wp_region_noPanic ?_
  refine wp_region_held_drew (S := (fun W' : World => W'.cell? ⟨gp, 3, none⟩ = some (.int .i64 rg.dn) ∧ W'.cell? ⟨gp, 4, none⟩ = some (.int .i64 rg.ak) ∧ W'.cell? ⟨gp, 5, none⟩ = some (.bool rg.on) ∧ W'.cell? ⟨gp, 6, none⟩ = some (.slice D2 rg.nd.length kd2) ∧ W'.cell? ⟨(w.heap.size + 1 + 1), 0, none⟩ = some (.int .i64 rn))) (by kernel_rfl) ⟨P2.out.cells8.2.2.2.1, P2.out.cells8.2.2.2.2.1, P2.out.cells8.2.2.2.2.2.1, P2.out.cells8.2.2.2.2.2.2.1, PN2.out.cells1.1⟩ (fun hS => ?_)
  generalize w2.drew = Wd at *
  refine tk 0 hS ?_
  refine tk 1 hS ?_
  refine tk 2 hS ?_
  refine tk 3 hS ?_
  refine tk 4 hS ?_
  refine tk 5 hS ?_
  refine rdy [6] (csy (fun K hK => ?_) AllReadyH.nil)
  obtain ⟨y00, y01, y02, y03, yf0⟩ := ZG.out.cells4
  go_simp
  clear y00 y01 y02 y03 yf0
  refine named_store4 ZG.out ?_
  intro Ws6 hbk hgr hsz
  have hsz0 := hid hsz
  clear hsz
  replace P2 := hid (P2.out.grown hgr (by have := HGP.out; have := hszA.out; simp; omega)); replace PN2 := hid (PN2.out.grown hgr (by simp)); replace DO2 := hid (DO2.out.keptR ZG.out (by decide) hgr)
  replace HB2 := hid (HB2.out.grown hgr HB2.out.size (fun r e => by cases e; omega))
  replace ZG := hid hbk
  clear hbk hgr
  clear hS
  refine ky hK ⟨P2.out.cells8.2.2.2.1, P2.out.cells8.2.2.2.2.1, P2.out.cells8.2.2.2.2.2.1, P2.out.cells8.2.2.2.2.2.2.1, PN2.out.cells1.1⟩ fun hS => ?_
  clear hK K
  refine tk 7 hS ?_
  refine tk 8 hS ?_
  refine wpAnyH_done (by kernel_rfl) ?_ _
  refine NoPanic.normal ?_
  clear hS
  go_wp2
  obtain ⟨y00, y01, y02, y03, yf0⟩ := ZG.out.cells4
  refine bodyPost_ret (v := .tuple #[gv rg D2 rg.nd.length kd2, .int .i64 rn, .int .i64 rc]) (by simp [results, Tryz.results117, go_sem, y00, y01, y02, y03]) rfl ⟨D2, kd2, rfl, DO2.out.mono hszz.out, HB2.out⟩
/-- what Pick hands back: the error, the grace -/
def gpickF (g : Gr) (c : Int) (q : Bool) : Int × Gr := if 0 ≤ c ∧ c < (g.nd.length : Int) then (0, gPick g c.toNat q) else (2, zGr)
def GPickPost (w : World) (r : Int × Gr) (x : Ending) (w' : World) : Prop := ∃ D kd, x = .returned (.tuple #[gv r.2 D r.2.nd.length kd, .int .i64 r.1]) ∧ Ow blv w' w.heap.size 4 D r.2.nd.length kd r.2.nd ∧ Below w.heap.size w w'
set_option maxRecDepth 100000 in
set_option maxHeartbeats 4000000 in
theorem pick1_any (w1 : World) (gd gb gc gq hi : Nat) (g : Gr) (kd : Nat) (c : Int) (q : Bool) (hgd : hi ≤ gd) (hgb : hi ≤ gb) (hne : gd ≠ gb) (hP : Blk w1 gb 160 (bth 0 none 0 0 none 0 0 g (some ⟨gd, 0, none⟩) g.nd.length kd none 0 0))
    (hD : Ow blv w1 gd 4 (some ⟨gd, 0, none⟩) g.nd.length kd g.nd) (hc : Blk w1 gc 3 #[.int .i64 c]) (hq : Blk w1 gq 4 #[.bool q]) (hg : GrOk g) :
    Calls Tryz.prog 124 #[ptr gb, ptr gc, ptr gq] w1 fun x w2 => GrownP (fun i => min gd gb ≤ i) w1 w2 ∧ ((x = .returned (.tuple #[]) ∧ (gpickF g c q).1 = 0 ∧ GAt w2 (min gd gb) gb (gpickF g c q).2) ∨ ∃ e, x = leaves e ∧ e = (gpickF g c q).1 ∧ e ≠ 0 ∧ (gpickF g c q).2 = zGr) := by
  unfold gpickF
  by_cases h0 : 0 ≤ c ∧ c < (g.nd.length : Int)
  · rw [if_pos h0]
    have HA := hid (pick_yes gb gd gd g.nd.length kd c q ⟨0, none, 0, 0, none, 0, 0, none, 0, 0⟩ g w1 hP hD (fun e => hne e.symm) hg.2.1 h0 hg.wrap)
    have HLN := hid (gPick_len g c.toNat q)
    obtain ⟨y0, yf⟩ := hc.cells1
    obtain ⟨z0, zf⟩ := hq.cells1
    clear hP hD hc hq h0
    go_enter Tryz.func124, Tryz.ntmps124
    go_wp2_with fail
    refine HA.out.mono ?_
    rintro e w2 ⟨rfl, h1, h2, h3⟩
    have H1 := hid h1; have H2 := hid h2; have H3 := hid h3
    clear h1 h2 h3 y0 yf z0 zf
    go_wp2_with fail
    go_end0
    refine ⟨H3.out.mono (fun i hi => by rcases hi with rfl | rfl; exact Nat.min_le_right _ _; exact Nat.min_le_left _ _), .inl ⟨by simp, by simp, ?_⟩⟩
    exact ⟨some ⟨gd, 0, none⟩, kd, by rw [HLN.out]; exact H1.out, by rw [HLN.out]; exact H2.out.mono (Nat.min_le_left _ _), Nat.min_le_right _ _⟩
  · rw [if_neg h0]
    have HA := hid (pick_no gb 0 none 0 0 none 0 0 g (some ⟨gd, 0, none⟩) g.nd.length kd none 0 0 c q w1 hP (by omega))
    obtain ⟨y0, yf⟩ := hc.cells1
    obtain ⟨z0, zf⟩ := hq.cells1
    clear hP hD hc hq h0
    go_enter Tryz.func124, Tryz.ntmps124
    go_wp2_with fail
    refine HA.out.mono ?_
    rintro e w2 ⟨rfl, rfl⟩
    unfold leaves
    go_wp2_with fail
    exact ⟨rfl, .refl _ _, .inr ⟨2, rfl, by simp, by decide, by simp⟩⟩
set_option maxRecDepth 100000 in
set_option maxHeartbeats 4000000 in
theorem gpick_any (g : Gr) (D : Option Addr) (kd : Nat) (c : Int) (q : Bool) (w : World) (hD : Sl blv false w 0 w.heap.size D g.nd.length g.nd) (hg : GrOk g) :
    Calls Tryz.prog 83 #[gv g D g.nd.length kd, .int .i64 c, .bool q] w (GPickPost w (gpickF g c q)) := by
  obtain ⟨r, hr⟩ : ∃ r, r = gpickF g c q := ⟨_, rfl⟩
  have HRR := hid hr
  rw [← hr]
  have HD := hid hD; have HG := hid hg; have HB := hid (Below.refl w.heap.size w)
  clear hD hg hr
  have bx := below_box w (.cells (gcs g D g.nd.length kd) 27)
  replace HD := hid (HD.out.step bx); replace HB := hid (below_then HB.out bx)
  clear bx
  have PG := hid (Blk.new w 27 (gcs g D g.nd.length kd))
  have bx := below_box (w.alloc (.cells (gcs g D g.nd.length kd) 27)) (.cells #[.int .i64 c] 3)
  replace HD := hid (HD.out.step bx); replace PG := hid (PG.out.step bx); replace HB := hid (below_then HB.out bx)
  clear bx
  have PC := hid (Blk.new2 w 3 #[.int .i64 c] (.cells (gcs g D g.nd.length kd) 27))
  have bx := below_box ((w.alloc (.cells (gcs g D g.nd.length kd) 27)).alloc (.cells #[.int .i64 c] 3)) (.cells #[.bool q] 4)
  replace HD := hid (HD.out.step bx); replace PG := hid (PG.out.step bx); replace PC := hid (PC.out.step bx); replace HB := hid (below_then HB.out bx)
  clear bx
  have PQ := hid (Blk.new3 w 4 #[.bool q] (.cells (gcs g D g.nd.length kd) 27) (.cells #[.int .i64 c] 3))
  have bx := below_box (((w.alloc (.cells (gcs g D g.nd.length kd) 27)).alloc (.cells #[.int .i64 c] 3)).alloc (.cells #[.bool q] 4)) (.cells #[.int .i64 0, .int .i64 0, .bool false, .slice none 0 0] 27)
  replace HD := hid (HD.out.step bx); replace PG := hid (PG.out.step bx); replace PC := hid (PC.out.step bx); replace PQ := hid (PQ.out.step bx); replace HB := hid (below_then HB.out bx)
  clear bx
  have ZG := hid (Blk.new4 w 27 #[.int .i64 0, .int .i64 0, .bool false, .slice none 0 0] (.cells (gcs g D g.nd.length kd) 27) (.cells #[.int .i64 c] 3) (.cells #[.bool q] 4))
  go_enter Tryz.func83, Tryz.ntmps83
  have hmf : ∀ (fn : Fn) (first cap : Array Value) (w : World), (Instr.makeFunc fn first cap).run Tryz.prog w = .ok (.func fn first cap) w := fun _ _ _ _ => rfl
  obtain ⟨y00, y01, y02, y03, yf0⟩ := PG.out.cells4
  go_wp2_with fail
  have hz0 := hid (show ((((w.alloc (.cells (gcs g D g.nd.length kd) 27)).alloc (.cells #[.int .i64 c] 3)).alloc (.cells #[.bool q] 4)).alloc (.cells #[.int .i64 0, .int .i64 0, .bool false, .slice none 0 0] 27)).heap.size = w.heap.size + 4 by simp)
  generalize (((w.alloc (.cells (gcs g D g.nd.length kd) 27)).alloc (.cells #[.int .i64 c] 3)).alloc (.cells #[.bool q] 4)).alloc (.cells #[.int .i64 0, .int .i64 0, .bool false, .slice none 0 0] 27) = W0 at *
  have hszA := hz0
  clear y00 y01 y02 y03 yf0 hmf hz0
  refine (tries_any g D g.nd.length kd 0 124 #[ptr (w.heap.size + 1), ptr (w.heap.size + 1 + 1)] (fun _ => False) (fun l gb W => (gpickF g c q).1 = 0 ∧ GAt W l gb (gpickF g c q).2) (fun e _ => e = (gpickF g c q).1 ∧ e ≠ 0 ∧ (gpickF g c q).2 = zGr) W0 (fun _ h => h.elim) HD.out (by have := HG.out.2.1; omega) HG.out (enters_of Tryz.func124 (by kernel_rfl) rfl) ?_ ?_ ?_).mono ?_
  ·intro wc gd gb hgd hgb hne hbw hPb hDb
   refine (pick1_any wc gd gb (w.heap.size + 1) (w.heap.size + 1 + 1) W0.heap.size g g.nd.length c q hgd hgb hne hPb hDb (PC.out.step hbw) (PQ.out.step hbw) HG.out).mono ?_
   rintro x w2 ⟨hg2, hx⟩
   exact ⟨hg2.mono (fun i hi => .inr hi), hx⟩
  ·rintro l gb W p u ⟨h0, h2⟩ h3 h4
   exact ⟨h0, h2.set h4 u⟩
  ·rintro e W W' h hb
   exact h
  rintro x w2 ⟨hg2, hx⟩
  have hgp : ∃ gp, x = .returned (.tuple #[ptr gp, .int .i64 (gpickF g c q).1]) ∧ W0.heap.size ≤ gp ∧ GAt w2 W0.heap.size gp (gpickF g c q).2 := by
    rcases hx with ⟨gb, rfl, l, hl1, hl2, h1, D3, kd3, h3, h4, h5⟩ | ⟨gn, e, rfl, ⟨h1, h2, h4⟩, h5, h6⟩
    · exact ⟨gb, by rw [h1], by omega, D3, kd3, h3, h4.mono hl1, by omega⟩
    · exact ⟨gn, by rw [h1], h5, by rw [h4]; exact GAt.zero h6 _ h5⟩
  obtain ⟨gp, rfl, hgp1, D2, kd2, h1, h2, _⟩ := hgp
  rw [← HRR.out] at h1 h2 ⊢
  have hb2 := hg2.toBelow
  have P2 := hid h1; have DO2 := hid h2; have HGP := hid hgp1
  have hszz := hid (show w.heap.size ≤ W0.heap.size by have := hszA.out; omega)
  replace HB := hid (below_then HB.out hb2); replace ZG := hid (ZG.out.step hb2)
  obtain ⟨rc, rg⟩ := r
  clear hx h1 h2 hgp1 hg2 hb2 HD PG PC PQ HRR HG
  dsimp only at P2 DO2 ⊢
  obtain ⟨y00, y01, y02, y03, y04, y05, y06, y07, yf0⟩ := P2.out.cells8
  obtain ⟨y10, y11, y12, y13, yf1⟩ := ZG.out.cells4
  go_wp2_with fail
  clear y00 y01 y02 y03 y04 y05 y06 y07 yf0 y10 y11 y12 y13 yf1
  have Z4 := hid (show Blk ((((w2.setCell ⟨w.heap.size + 1 + 1 + 1, 0, none⟩ (.int .i64 rg.dn)).setCell ⟨w.heap.size + 1 + 1 + 1, 1, none⟩ (.int .i64 rg.ak)).setCell ⟨w.heap.size + 1 + 1 + 1, 2, none⟩ (.bool rg.on)).setCell ⟨w.heap.size + 1 + 1 + 1, 3, none⟩ (.slice D2 rg.nd.length kd2)) (w.heap.size + 1 + 1 + 1) 27 #[.int .i64 rg.dn, .int .i64 rg.ak, .bool rg.on, .slice D2 rg.nd.length kd2] from (((ZG.out.setCell 0 _).setCell 1 _).setCell 2 _).setCell 3 _)
  obtain ⟨y00, y01, y02, y03, yf0⟩ := Z4.out.cells4
  have hgr := (grown_set (grown_set (grown_set (grown_set (World.grownBy.refl w2 (some (w.heap.size + 1 + 1 + 1))) 0 (.int .i64 rg.dn)) 1 (.int .i64 rg.ak)) 2 (.bool rg.on)) 3 (.slice D2 rg.nd.length kd2))
  refine bodyPost_ret (v := .tuple #[gv rg D2 rg.nd.length kd2, .int .i64 rc]) (by simp [results, Tryz.results83, go_sem, y00, y01, y02, y03]) rfl ⟨D2, kd2, rfl, (DO2.out.keptR ZG.out (by decide) hgr).mono hszz.out, HB.out.grown hgr HB.out.size (fun r e => by cases e; omega)⟩
end Go.Proofs.YtfipdoofgbjbjaaGreat

/- package queue: byPeriod, Check. No condition but sizes. -/
namespace Go.Proofs.YtfipdoofgbjbjaaGreat
open Go.RowKit
abbrev Cb := Int × Int
def encC (x : Cb) : Nat → Value
  | 0 => .int .u64 x.1
  | _ => .int .u64 x.2
abbrev qv (A : Option Addr) (n c : Nat) (o : Int) : Value := .agg #[.slice A n c, .int .u64 o]
abbrev qcs (A : Option Addr) (n c : Nat) (o : Int) : Array Value := #[.slice A n c, .int .u64 o]
abbrev cbv (p w : Int) : Value := .agg #[.int .u64 p, .int .u64 w]
theorem encC_one (y : Cb) (j : Nat) (_ : j < 2) : (encC y j).oneCell' = true := by
  unfold encC; split <;> rfl
theorem info_cb : (Tryz.prog.info? 60).map (fun i => (i.zero, i.size, i.bytes)) = some (some (.agg #[.int .u64 0, .int .u64 0]), 2, 16) := by kernel_rfl
def cmpZ (a b : Int) : Int := if a < b then -1 else if b < a then 1 else 0
def perAt (l : List Cb) (i : Nat) : Int := (l[i]?.getD (0, 0)).1
/-- may a queue be? -/
def QUp (l : List Cb) : Prop := ∀ k, k < l.length → 1 ≤ k → perAt l (k - 1) ≤ perAt l k
def QSoon (o : Int) (l : List Cb) : Prop := ∀ k, k < l.length → perAt l k ≤ o + 2
def QGood (o : Int) (l : List Cb) : Prop := o ≤ 9223372036854775806 ∧ l.length ≤ 16 ∧ QUp l ∧ QSoon o l
instance {l : List Cb} : Decidable (QUp l) := by unfold QUp; infer_instance
instance {o : Int} {l : List Cb} : Decidable (QSoon o l) := by unfold QSoon; infer_instance
instance {o : Int} {l : List Cb} : Decidable (QGood o l) := by unfold QGood; infer_instance
theorem isnan_any (a : Int) (w : World) : Calls Tryz.prog 138 #[.int .u64 a] w fun e w' => e = .returned (.bool false) ∧ w' = w := by
  go_enter Tryz.func138, Tryz.ntmps138
  go_wp2
  go_ret
  exact ⟨by simp, rfl⟩
theorem cmp_any (a b : Int) (w : World) : Calls Tryz.prog 127 #[.int .u64 a, .int .u64 b] w fun e w' => e = .returned (.int .i64 (cmpZ a b)) ∧ Below w.heap.size w w' := by
  have HC := hid (show cmpZ a b = if a < b then -1 else if b < a then 1 else 0 from rfl)
  go_enter Tryz.func127, Tryz.ntmps127
  go_wp2_with fail
  refine (isnan_any a w).mono ?_
  rintro e w' ⟨rfl, rfl⟩
  go_wp2_with fail
  refine (isnan_any b w').mono ?_
  rintro e w'' ⟨rfl, rfl⟩
  by_cases h1 : a < b
  · go_wp2
    go_ret
    exact ⟨ret_int (by rw [HC.out, if_pos h1]), Below.refl _ _⟩
  · by_cases h2 : b < a
    · go_wp2
      go_ret
      exact ⟨ret_int (by rw [HC.out, if_neg (by omega), if_pos h2]), Below.refl _ _⟩
    · go_wp2
      go_ret
      exact ⟨ret_int (by rw [HC.out, if_neg (by omega), if_neg (by omega)]), Below.refl _ _⟩
theorem period_any (a b : Cb) (w : World) : Calls Tryz.prog 92 #[cbv a.1 a.2, cbv b.1 b.2] w fun e w' => e = .returned (.int .i64 (cmpZ a.1 b.1)) ∧ Below w.heap.size w w' := by
  have HB := hid (Below.refl w.heap.size w)
  have bx := below_box w (.cells #[.int .u64 a.1, .int .u64 a.2] 60)
  replace HB := hid (below_then HB.out bx)
  clear bx
  have PA := hid (Blk.new w 60 #[.int .u64 a.1, .int .u64 a.2])
  have bx := below_box (w.alloc (.cells #[.int .u64 a.1, .int .u64 a.2] 60)) (.cells #[.int .u64 b.1, .int .u64 b.2] 60)
  replace PA := hid (PA.out.step bx); replace HB := hid (below_then HB.out bx)
  clear bx
  have PB := hid (Blk.new2 w 60 #[.int .u64 b.1, .int .u64 b.2] (.cells #[.int .u64 a.1, .int .u64 a.2] 60))
  obtain ⟨y00, y01, yf0⟩ := PA.out.cells2
  obtain ⟨y10, y11, yf1⟩ := PB.out.cells2
  go_enter Tryz.func92, Tryz.ntmps92
  go_wp2_with fail
  clear y00 y01 yf0 y10 y11 yf1
  refine (cmp_any a.1 b.1 _).mono ?_
  rintro e w1 ⟨rfl, hb⟩
  replace PA := hid (PA.out.step hb); replace PB := hid (PB.out.step hb); replace HB := hid (below_then HB.out hb)
  clear hb
  go_wp2
  go_ret
  exact ⟨rfl, HB.out⟩
set_option maxHeartbeats 1000000 in
theorem sorted_any (A : Option Addr) (n c lo hi : Nat) (xs : List Cb) (w : World) (h : Sm 2 encC (0, 0) w lo hi A n xs) (hhi : hi ≤ w.heap.size) (hn : n ≤ 1000000) :
    Calls Tryz.prog 91 #[.slice A n c, .func (.func 92) #[] #[]] w fun e w' => e = .returned (.bool (decide (QUp xs))) ∧ Below w.heap.size w w' := by
  have eg := enters_of Tryz.func92 (by kernel_rfl) rfl
  have HR := hid h
  have hl := hid h.len
  have hw0 : IntKind.i64.wrap ((n : Int) - 1) = (n : Int) - 1 := by rw [IntKind.wrap_i64]; omega
  clear h
  go_enter Tryz.func91, Tryz.ntmps91
  go_wp2_with fail
  go_loopw [5] (fun i wr => ∃ v : Int, i = .int .i64 v ∧ v < n ∧ Below w.heap.size w wr ∧ ∀ k, k < n → v < (k : Int) → 1 ≤ k → perAt xs (k - 1) ≤ perAt xs k) (fun i _ => (intOf i).toNat)
  case atStart => exact ⟨_, rfl, by omega, Below.refl _ _, fun k hk h1 => by omega⟩
  case round =>
    obtain ⟨v, rfl, hv, hbr, hall⟩ := hrel
    have HA := hid hall; have HB := hid hbr
    clear hall hbr
    by_cases h0 : 0 < v
    · obtain ⟨q, rfl⟩ : ∃ q : Nat, v = (q : Int) := ⟨v.toNat, by omega⟩
      obtain ⟨j, hj⟩ : ∃ j : Nat, q = j + 1 := ⟨q - 1, by omega⟩
      obtain ⟨b, off, rfl, _, hbh, hc⟩ := HR.out.row (by omega)
      have HC : Hid (∀ W, Below w.heap.size w W → ∀ q, q < n → W.cell? ⟨b, off + q * 2, none⟩ = some (.int .u64 (xs[q]?.getD (0, 0)).1) ∧ W.cell? ⟨b, off + q * 2 + 1, none⟩ = some (.int .u64 (xs[q]?.getD (0, 0)).2)) := hid (fun W hb q hq => ⟨(hb.cell (p := ⟨b, off + q * 2, none⟩) (by show b < _; omega)).trans (by have := hc q hq 0 (by omega); rwa [Nat.add_zero] at this), (hb.cell (p := ⟨b, off + q * 2 + 1, none⟩) (by show b < _; omega)).trans (hc q hq 1 (by omega))⟩)
      clear hc
      obtain ⟨x, hx⟩ : ∃ x, x = xs[q]?.getD (0, 0) := ⟨_, rfl⟩
      obtain ⟨y, hy⟩ : ∃ y, y = xs[j]?.getD (0, 0) := ⟨_, rfl⟩
      have HS : Hid (∀ W, Below w.heap.size w W → (W.cell? ⟨b, off + q * 2, none⟩ = some (.int .u64 x.1) ∧ W.cell? ⟨b, off + q * 2 + 1, none⟩ = some (.int .u64 x.2)) ∧ W.cell? ⟨b, off + j * 2, none⟩ = some (.int .u64 y.1) ∧ W.cell? ⟨b, off + j * 2 + 1, none⟩ = some (.int .u64 y.2)) := hid (fun W hb => by rw [hx, hy]; exact ⟨HC.out W hb q (by omega), HC.out W hb j (by omega)⟩)
      have HX : Hid (perAt xs q = x.1) := hid (by rw [hx]; rfl)
      have HY : Hid (perAt xs j = y.1) := hid (by rw [hy]; rfl)
      have hw1 : IntKind.i64.wrap ((q : Int) - 1) = (j : Int) := by rw [IntKind.wrap_i64]; omega
      have hjn : (j : Int) < (n : Int) := by omega
      have HJ := hid hj
      clear hx hy HC hj
      have HE := hid (show cmpZ x.1 y.1 = if x.1 < y.1 then -1 else if y.1 < x.1 then 1 else 0 from rfl)
      obtain ⟨⟨f0, f1⟩, f2, f3⟩ := HS.out wr HB.out
      go_wp2_with fail
      go_region_held3 (fun W => (W.cell? ⟨b, off + q * 2, none⟩ = some (.int .u64 x.1) ∧ W.cell? ⟨b, off + q * 2 + 1, none⟩ = some (.int .u64 x.2)) ∧ W.cell? ⟨b, off + j * 2, none⟩ = some (.int .u64 y.1) ∧ W.cell? ⟨b, off + j * 2 + 1, none⟩ = some (.int .u64 y.2))
        (first | (exact HS.out _ HB.out.drew) | (exact HS.out _ hq1))
        (first | (go_at_call 92; go_split_ands; (with_reducible refine (period_any x y wr.drew).mono ?_); rintro e w1 ⟨rfl, hb⟩; have hq1 := below_then HB.out.drew hb))
      have HB1 := hid hq1
      clear hb hq1 f0 f1 f2 f3
      by_cases hlt : x.1 < y.1
      · have e1 : cmpZ x.1 y.1 = -1 := by rw [HE.out, if_pos hlt]
        have HQ : Hid (decide (QUp xs) = false) := hid (decide_eq_false (fun h => by have := h q (by rw [hl.out]; omega) (by omega); rw [HX.out, show q - 1 = j by have := HJ.out; omega, HY.out] at this; omega))
        go_wp2
        go_ret
        exact ⟨ret_bool HQ.out.symm, HB1.out⟩
      · have e1 : cmpZ x.1 y.1 = 1 ∨ cmpZ x.1 y.1 = 0 := by rw [HE.out, if_neg hlt]; split <;> simp
        rcases e1 with e1 | e1
        all_goals
          go_wp2
          go_roundw
          case rel =>
            refine ⟨(j : Int), by go_num, hjn, HB1.out, fun k hk h1 h2 => ?_⟩
            by_cases hkq : k = q
            · subst hkq; rw [HX.out, show k - 1 = j by have := HJ.out; omega, HY.out]; omega
            · exact HA.out k hk (by have := HJ.out; omega) h2
          case measure => have := HJ.out; simp [intOf]; omega
    · have HQ : Hid (decide (QUp xs) = true) := hid (decide_eq_true (fun k hk h1 => HA.out k (by rw [← hl.out]; exact hk) (by omega) h1))
      go_wp2
      go_ret
      exact ⟨ret_bool HQ.out.symm, HB.out⟩
end Go.Proofs.YtfipdoofgbjbjaaGreat

/- package queue: Check. No condition but sizes. -/
namespace Go.Proofs.YtfipdoofgbjbjaaGreat
open Go.RowKit
/-- the two cells of an element -/
theorem Sm.cb {w : World} {lo hi b off n : Nat} {xs : List Cb} (hc : ∀ k, k < n → ∀ j, j < 2 → w.cell? ⟨b, off + k * 2 + j, none⟩ = some (encC (xs[k]?.getD (0, 0)) j)) {k : Nat} (hk : k < n) :
    w.cell? ⟨b, off + k * 2, none⟩ = some (.int .u64 (xs[k]?.getD (0, 0)).1) ∧ w.cell? ⟨b, off + k * 2 + 1, none⟩ = some (.int .u64 (xs[k]?.getD (0, 0)).2) :=
  ⟨by have := hc k hk 0 (by omega); rwa [Nat.add_zero] at this, hc k hk 1 (by omega)⟩
theorem late_any (p x : Int) (g : Nat) (A : Option Addr) (n c : Nat) (o : Int) (w : World) (h : Blk w g 58 (qcs A n c o)) (h0 : 0 ≤ o) (h1 : o ≤ 9223372036854775806) :
    Calls Tryz.prog 90 #[cbv p x, ptr g] w fun e w' => e = .returned (.bool (decide (o + 2 < p))) ∧ Below w.heap.size w w' := by
  have hw : IntKind.u64.wrap (o + 2) = o + 2 := by rw [IntKind.wrap_u64]; omega
  have PQ := hid h; have HB := hid (Below.refl w.heap.size w)
  clear h
  have bx := below_box w (.cells #[.int .u64 p, .int .u64 x] 60)
  replace PQ := hid (PQ.out.step bx); replace HB := hid (below_then HB.out bx)
  clear bx
  have PA := hid (Blk.new w 60 #[.int .u64 p, .int .u64 x])
  obtain ⟨y00, y01, yf0⟩ := PA.out.cells2
  obtain ⟨y10, y11, yf1⟩ := PQ.out.cells2
  go_enter Tryz.func90, Tryz.ntmps90
  go_wp2
  go_ret
  exact ⟨by simp, HB.out⟩
set_option maxHeartbeats 1000000 in
theorem index_any (A : Option Addr) (n c lo hi : Nat) (xs : List Cb) (g : Nat) (A' : Option Addr) (n' c' : Nat) (o : Int) (w : World) (h : Sm 2 encC (0, 0) w lo hi A n xs) (hhi : hi ≤ w.heap.size) (hn : n ≤ 1000000)
    (hP : Blk w g 58 (qcs A' n' c' o)) (h0 : 0 ≤ o) (h1 : o ≤ 9223372036854775806) :
    Calls Tryz.prog 128 #[.slice A n c, .func (.func 90) #[] #[ptr g]] w fun e w' => (∃ v, e = .returned (.int .i64 v) ∧ decide (0 ≤ v) = !decide (QSoon o xs)) ∧ Below w.heap.size w w' := by
  have eg := enters_of Tryz.func90 (by kernel_rfl) rfl
  have HR := hid h; have PQ := hid hP
  have hl := hid h.len
  clear h hP
  go_enter Tryz.func128, Tryz.ntmps128
  go_wp2_with fail
  go_loopw [5, 8] (fun _ i wr => ∃ j : Nat, j ≤ n ∧ i = .int .i64 j ∧ Below w.heap.size w wr ∧ ∀ k, k < j → perAt xs k ≤ o + 2) (fun _ i _ => n - (intOf i).toNat)
  case atStart => exact ⟨0, Nat.zero_le _, rfl, Below.refl _ _, fun k hk => absurd hk (Nat.not_lt_zero _)⟩
  case round =>
    obtain ⟨j, hj, rfl, hbr, hall⟩ := hrel
    have HA := hid hall; have HB := hid hbr
    clear hall hbr
    by_cases hjn : j < n
    · obtain ⟨b, off, rfl, _, hbh, hc⟩ := HR.out.row (by omega)
      obtain ⟨c0, c1⟩ := Sm.cb (lo := lo) (hi := hi) hc hjn
      have f0 := (HB.out.cell (p := ⟨b, off + j * 2, none⟩) (by show b < _; omega)).trans c0
      have f1 := (HB.out.cell (p := ⟨b, off + j * 2 + 1, none⟩) (by show b < _; omega)).trans c1
      obtain ⟨x, hx⟩ : ∃ x, x = xs[j]?.getD (0, 0) := ⟨_, rfl⟩
      rw [← hx] at f0 f1
      have HX : Hid (perAt xs j = x.1) := hid (by rw [hx]; rfl)
      clear hx hc c0 c1
      go_wp2_with fail
      clear f0 f1
      refine (late_any x.1 x.2 g A' n' c' o wr (PQ.out.step HB.out) h0 h1).mono ?_
      rintro e w1 ⟨rfl, hb⟩
      have HB1 := hid (below_then HB.out hb)
      clear hb
      by_cases hlt : o + 2 < x.1
      · have HQ : Hid (decide (QSoon o xs) = false) := hid (decide_eq_false (fun h => by have := h j (by rw [hl.out]; omega); rw [HX.out] at this; omega))
        have e1 : decide (o + 2 < x.1) = true := decide_eq_true hlt
        clear hlt
        go_wp2
        go_ret
        exact ⟨⟨_, rfl, by rw [HQ.out]; simp⟩, HB1.out⟩
      · have e1 : decide (o + 2 < x.1) = false := decide_eq_false hlt
        rw [e1]
        clear e1
        go_wp2
        go_roundw
        case rel =>
          refine ⟨j + 1, by omega, by go_num, HB1.out, fun k hk => ?_⟩
          by_cases hkq : k = j
          · subst hkq; rw [HX.out]; omega
          · exact HA.out k (by omega)
        case measure => simp [intOf]; omega
    · obtain rfl : j = n := by omega
      have HQ : Hid (decide (QSoon o xs) = true) := hid (decide_eq_true (fun k hk => HA.out k (by rw [← hl.out]; exact hk)))
      go_wp2
      go_ret
      exact ⟨⟨_, rfl, by rw [HQ.out]; simp⟩, HB.out⟩
theorem contains_any (A : Option Addr) (n c lo hi : Nat) (xs : List Cb) (g : Nat) (A' : Option Addr) (n' c' : Nat) (o : Int) (w : World) (h : Sm 2 encC (0, 0) w lo hi A n xs) (hhi : hi ≤ w.heap.size) (hn : n ≤ 1000000)
    (hP : Blk w g 58 (qcs A' n' c' o)) (h0 : 0 ≤ o) (h1 : o ≤ 9223372036854775806) :
    Calls Tryz.prog 93 #[.slice A n c, .func (.func 90) #[] #[ptr g]] w fun e w' => e = .returned (.bool (!decide (QSoon o xs))) ∧ Below w.heap.size w w' := by
  have HR := hid h; have PQ := hid hP
  clear h hP
  go_enter Tryz.func93, Tryz.ntmps93
  go_wp2_with fail
  refine (index_any A n c lo hi xs g A' n' c' o w HR.out hhi hn PQ.out h0 h1).mono ?_
  rintro e w' ⟨⟨v, rfl, hv⟩, hb⟩
  have HV := hid hv; have HB := hid hb
  clear hv hb
  go_wp2
  go_ret
  exact ⟨ret_bool HV.out, HB.out⟩
def qcheckC (o : Int) (l : List Cb) : Int := if QGood o l then 0 else 230
set_option maxHeartbeats 1000000 in
theorem qcheck_any (A : Option Addr) (n c : Nat) (o : Int) (xs : List Cb) (w : World) (h : Sm 2 encC (0, 0) w 0 w.heap.size A n xs) (hn : n ≤ 1000000) (h0 : 0 ≤ o) :
    Calls Tryz.prog 56 #[qv A n c o] w fun e w' => e = .returned (.int .i64 (qcheckC o xs)) ∧ Below w.heap.size w w' := by
  have NO : Hid (¬ QGood o xs → qcheckC o xs = 230) := hid (fun h => if_neg h)
  have YES : Hid (QGood o xs → qcheckC o xs = 0) := hid (fun h => if_pos h)
  have hl := hid h.len
  have HR := hid h; have HB := hid (Below.refl w.heap.size w)
  clear h
  have bx := below_box w (.cells (qcs A n c o) 58)
  replace HR := hid (HR.out.step bx); replace HB := hid (below_then HB.out bx)
  clear bx
  have PQ := hid (Blk.new w 58 (qcs A n c o))
  by_cases h1 : 9223372036854775806 < o
  · have E := hid (NO.out (fun h => by have := h.1; omega))
    obtain ⟨y00, y01, yf0⟩ := PQ.out.cells2
    go_enter Tryz.func56, Tryz.ntmps56
    go_wp2
    go_ret
    exact ⟨ret_int E.out.symm, HB.out⟩
  · by_cases h2 : 16 < n
    · have E := hid (NO.out (fun h => by have := h.2.1; have := hl.out; omega))
      have h2i : (16 : Int) < (n : Int) := by omega
      obtain ⟨y00, y01, yf0⟩ := PQ.out.cells2
      go_enter Tryz.func56, Tryz.ntmps56
      go_wp2
      go_ret
      exact ⟨ret_int E.out.symm, HB.out⟩
    · have h2i : ¬ (16 : Int) < (n : Int) := by omega
      obtain ⟨y00, y01, yf0⟩ := PQ.out.cells2
      go_enter Tryz.func56, Tryz.ntmps56
      go_wp2_with fail
      clear y00 y01 yf0
      refine (sorted_any A n c _ _ xs _ HR.out (Nat.le_refl _) hn).mono ?_
      rintro e w1 ⟨rfl, hb⟩
      replace HR := hid (HR.out.step hb); replace PQ := hid (PQ.out.step hb); replace HB := hid (below_then HB.out hb)
      clear hb
      by_cases h3 : QUp xs
      · rw [decide_eq_true h3]
        obtain ⟨y00, y01, yf0⟩ := PQ.out.cells2
        go_wp2_with fail
        clear y00 y01 yf0
        refine (contains_any A n c _ _ xs w.heap.size A n c o _ HR.out (Nat.le_refl _) hn PQ.out h0 (by omega)).mono ?_
        rintro e w2 ⟨rfl, hb⟩
        replace HR := hid (HR.out.step hb); replace PQ := hid (PQ.out.step hb); replace HB := hid (below_then HB.out hb)
        clear hb
        by_cases h4 : QSoon o xs
        · have E := hid (YES.out ⟨by omega, by rw [hl.out]; omega, h3, h4⟩)
          rw [decide_eq_true h4]
          clear h3 h4
          go_wp2
          go_ret
          exact ⟨ret_int E.out.symm, HB.out⟩
        · have E := hid (NO.out (fun h => h4 h.2.2.2))
          rw [decide_eq_false h4]
          clear h3 h4
          go_wp2
          go_ret
          exact ⟨ret_int E.out.symm, HB.out⟩
      · rw [decide_eq_false h3]
        have E := hid (NO.out (fun h => h3 h.2.2.1))
        clear h3
        go_wp2
        go_ret
        exact ⟨ret_int E.out.symm, HB.out⟩
end Go.Proofs.YtfipdoofgbjbjaaGreat

/- package queue: Put, End. No condition but sizes. -/
namespace Go.Proofs.YtfipdoofgbjbjaaGreat
open Go.RowKit
set_option maxHeartbeats 400000 in
theorem clone_cb (A : Option Addr) (n c lo : Nat) (xs : List _) (w : World) (h : Sm 2 encC (0, 0) w lo w.heap.size A n xs) (hn : n ≤ 1000000) :
    Calls Tryz.prog 29 #[.slice A n c] w fun e w' => ∃ A' c', e = .returned (.slice A' n c') ∧ Om 2 encC w' w.heap.size 60 A' n c' xs ∧ Below w.heap.size w w' := by
  obtain ⟨i0, hi0, hz00, hz01, hz02⟩ := info_parts info_cb
  have hq := fun W a n c => run_eqnil (P := Tryz.prog) (t := 56) Tryz.underlying56 W a n c
  rcases A with _ | ad
  · obtain ⟨rfl, rfl⟩ := h.none_
    go_enter Tryz.func29, Tryz.ntmps29
    go_wp2
    go_ret
    exact ⟨none, 0, rfl, Om.nil _ _ _, Below.refl _ _⟩
  · go_enter Tryz.func29, Tryz.ntmps29
    go_wp2_with (at_builtin; refine wpList_appm 2 encC (0, 0) _ rfl _ _ 56 rfl w.heap.size 60 i0 _ 16 Tryz.underlying56 hi0 hz00 hz01 hz02 rfl (by omega) _ _ _ [] rfl (Om.empty w _ _ (Nat.le_refl _)) lo w.heap.size (some ad) n c xs rfl (h.alloc (Nat.le_refl _) _) encC_one (by simp only [maxLen]; omega) (by omega) (by simp) ?_; intro A1 c1 w1 hown1 hg1 hat1; simp only [Nat.zero_add, List.nil_append] at hown1)
    go_ret
    refine ⟨A1, c1, by simp, hown1, ?_⟩
    exact ((Below.refl _ w).alloc (Nat.le_refl _) _).grown hg1 (by simp) (fun k hk => by simp [Value.ownBlock] at hk; omega)

/-- a row of callbacks that may be written -/
structure Qown (w : World) (lo : Nat) (A : Option Addr) (n : Nat) (xs : List Cb) : Prop where
  sm : Sm 2 encC (0, 0) w lo w.heap.size A n xs
  free : 0 < n → ∀ b off, A = some ⟨b, off, .none⟩ → ∀ i, w.frozen? ⟨b, i, .none⟩ = false
section
variable {w w' : World} {lo lo' : Nat} {A : Option Addr} {n c : Nat} {xs : List Cb} {e : TypeId}
theorem Qown.ofOm (h : Om 2 encC w lo e A n c xs) : Qown w lo A n xs := by
  refine ⟨h.sm, fun hn b off hA i => ?_⟩
  rcases h.own.2 with ⟨hv, h0⟩ | ⟨k, cap, cur, hv, _, hg, _⟩
  · exact absurd h0 (by omega)
  · simp only [Value.slice.injEq] at hv
    rw [hA] at hv
    obtain ⟨hb, _⟩ := hv
    cases hb
    exact frozen_of_row w b i cur e hg
theorem Qown.nil (w : World) (lo : Nat) : Qown w lo none 0 [] := ⟨Sm.nil _ _ _ _, fun h => absurd h (by omega)⟩
theorem Qown.mono (h : Qown w lo A n xs) (h1 : lo' ≤ lo) : Qown w lo' A n xs := ⟨h.sm.mono h1 (Nat.le_refl _), h.free⟩
theorem Qown.step (h : Qown w lo A n xs) (hb : Below w.heap.size w w') : Qown w' lo A n xs := by
  refine ⟨h.sm.step hb, fun hn b off hA i => ?_⟩
  obtain ⟨b', off', hA', _, hlt, _⟩ := h.sm.row hn
  rw [hA] at hA'
  cases hA'
  exact (hb.frozen (p := ⟨b, i, .none⟩) hlt).trans (h.free hn b off hA i)
theorem Qown.setCell (h : Qown w lo A n xs) {p : Addr} (hp : p.block < lo) (u : Value) : Qown (w.setCell p u) lo A n xs := by
  refine ⟨by have := h.sm.setC (.inl hp) u; simpa using this, fun hn b off hA i => ?_⟩
  obtain ⟨b', off', hA', hlo, hlt, _⟩ := h.sm.row hn
  rw [hA] at hA'
  cases hA'
  rw [World.frozen?_setCell]
  exact h.free hn b off hA i
end
/-- what a function of queues hands back: a queue, and an error -/
def QPost (W : World) (r : Int × List Cb × Int) (e : Ending) (W' : World) : Prop :=
  ∃ A n c, e = .returned (.tuple #[qv A n c r.1, .int .i64 r.2.2]) ∧ Qown W' W.heap.size A n r.2.1 ∧ Below W.heap.size W W' ∧ n ≤ c
def endF (o : Int) (l : List Cb) (x : Int) : Int × List Cb × Int :=
  if ¬ QGood o l then (0, [], 230) else if x < o ∨ 9223372036854775806 < x then (0, [], 2) else (x, l, 0)
set_option maxHeartbeats 1000000 in
theorem qend_any (A : Option Addr) (n c : Nat) (o : Int) (xs : List Cb) (x : Int) (w : World) (h : Sm 2 encC (0, 0) w 0 w.heap.size A n xs) (hn : n ≤ 1000000) (h0 : 0 ≤ o) :
    Calls Tryz.prog 86 #[qv A n c o, .int .u64 x] w (QPost w (endF o xs x)) := by
  have HE := hid (show endF o xs x = if ¬ QGood o xs then (0, [], 230) else if x < o ∨ 9223372036854775806 < x then (0, [], 2) else (x, xs, 0) from rfl)
  have HC := hid (show qcheckC o xs = if QGood o xs then 0 else 230 from rfl)
  have HR := hid h; have HB := hid (Below.refl w.heap.size w)
  clear h
  have bx := below_box w (.cells (qcs A n c o) 58)
  replace HR := hid (HR.out.step bx); replace HB := hid (below_then HB.out bx)
  clear bx
  have PQ := hid (Blk.new w 58 (qcs A n c o))
  have bx := below_box (w.alloc (.cells (qcs A n c o) 58)) (.cells (qcs none 0 0 0) 58)
  replace HR := hid (HR.out.step bx); replace PQ := hid (PQ.out.step bx); replace HB := hid (below_then HB.out bx)
  clear bx
  have PZ := hid (Blk.new2 w 58 (qcs none 0 0 0) (.cells (qcs A n c o) 58))
  obtain ⟨y00, y01, yf0⟩ := PQ.out.cells2
  go_enter Tryz.func86, Tryz.ntmps86
  go_wp2_with fail
  clear y00 y01 yf0
  refine (qcheck_any A n c o xs _ HR.out hn h0).mono ?_
  rintro e w1 ⟨rfl, hb⟩
  replace HR := hid (HR.out.step hb); replace PQ := hid (PQ.out.step hb); replace PZ := hid (PZ.out.step hb); replace HB := hid (below_then HB.out hb)
  clear hb
  by_cases hg : QGood o xs
  · have e0 : qcheckC o xs = 0 := by rw [HC.out, if_pos hg]
    rw [e0]
    clear e0
    have HG := hid hg
    clear hg
    by_cases h1 : x < o
    · have h1b : decide (x < o) = true := decide_eq_true h1
      obtain ⟨y00, y01, yf0⟩ := PQ.out.cells2
      obtain ⟨y00, y01, yf0⟩ := PZ.out.cells2
      go_wp2
      obtain ⟨q0, q1, qf⟩ := ((PZ.out.setCell 0 (.slice none 0 0)).setCell 1 (.int .u64 0)).cells2
      refine bodyPost_ret (v := .tuple #[qv none 0 0 0, .int .i64 2]) (by simp [results, Tryz.results86, go_sem, q0, q1]) rfl ?_
      rw [HE.out, if_neg (not_not_intro HG.out), if_pos (.inl (of_decide_eq_true h1b))]
      exact ⟨none, 0, 0, rfl, Qown.nil _ _, (HB.out.setCell (by simp) _).setCell (by simp) _, Nat.le_refl _⟩
    · have h1b : decide (x < o) = false := decide_eq_false h1
      by_cases h2 : 9223372036854775806 < x
      · have h2b : decide (9223372036854775806 < x) = true := decide_eq_true h2
        obtain ⟨y00, y01, yf0⟩ := PQ.out.cells2
        obtain ⟨y00, y01, yf0⟩ := PZ.out.cells2
        go_wp2
        obtain ⟨q0, q1, qf⟩ := ((PZ.out.setCell 0 (.slice none 0 0)).setCell 1 (.int .u64 0)).cells2
        refine bodyPost_ret (v := .tuple #[qv none 0 0 0, .int .i64 2]) (by simp [results, Tryz.results86, go_sem, q0, q1]) rfl ?_
        rw [HE.out, if_neg (not_not_intro HG.out), if_pos (.inr (of_decide_eq_true h2b))]
        exact ⟨none, 0, 0, rfl, Qown.nil _ _, (HB.out.setCell (by simp) _).setCell (by simp) _, Nat.le_refl _⟩
      · have h2b : decide (9223372036854775806 < x) = false := decide_eq_false h2
        have HE2 := hid (show endF o xs x = (x, xs, 0) by rw [HE.out, if_neg (not_not_intro HG.out), if_neg (by omega)])
        obtain ⟨y00, y01, yf0⟩ := PQ.out.cells2
        go_wp2_with fail
        clear y00 y01 yf0
        refine (clone_cb A n c 0 xs _ HR.out hn).mono ?_
        rintro e w2 ⟨A', c', rfl, ho, hb⟩
        have HO := hid ho; have hs := hid hb.size; have hl := hid PZ.out.lt
        clear ho
        replace HR := hid (HR.out.step hb); replace PQ := hid (PQ.out.step hb); replace PZ := hid (PZ.out.step hb); replace HB := hid (below_then HB.out hb)
        clear hb
        obtain ⟨y00, y01, yf0⟩ := PZ.out.cells2
        go_wp2
        obtain ⟨q0, q1, qf⟩ := ((PZ.out.setCell 0 (.slice A' n c')).setCell 1 (.int .u64 x)).cells2
        refine bodyPost_ret (v := .tuple #[qv A' n c' x, .int .i64 0]) (by simp [results, Tryz.results86, go_sem, q0, q1]) rfl ?_
        rw [HE2.out]
        have o2 := Qown.ofOm HO.out
        exact ⟨A', n, c', rfl, ((o2.setCell (by have := hl.out; simp; omega) _).setCell (by have := hl.out; simp; omega) _).mono (by have := hl.out; omega), (HB.out.setCell (by simp) _).setCell (by simp) _, HO.out.cap.1⟩
  · have e0 : qcheckC o xs = 230 := by rw [HC.out, if_neg hg]
    rw [e0]
    clear e0
    have HG := hid hg
    clear hg
    obtain ⟨y00, y01, yf0⟩ := PZ.out.cells2
    go_wp2
    obtain ⟨q0, q1, qf⟩ := ((PZ.out.setCell 0 (.slice none 0 0)).setCell 1 (.int .u64 0)).cells2
    refine bodyPost_ret (v := .tuple #[qv none 0 0 0, .int .i64 230]) (by simp [results, Tryz.results86, go_sem, q0, q1]) rfl ?_
    rw [HE.out, if_pos HG.out]
    exact ⟨none, 0, 0, rfl, Qown.nil _ _, (HB.out.setCell (by simp) _).setCell (by simp) _, Nat.le_refl _⟩
def putF (o : Int) (l : List Cb) (x a : Int) : Int × List Cb × Int :=
  if ¬ QGood o l then (0, [], 230) else if a < 1 ∨ 2 < a then (0, [], 2) else if 0 < l.length ∧ o + a < perAt l (l.length - 1) then (0, [], 2) else if l.length = 16 then (0, [], 6) else (o, l ++ [(o + a, x)], 0)
set_option maxHeartbeats 4000000 in
theorem qput_any (A : Option Addr) (n c : Nat) (o : Int) (xs : List Cb) (x a : Int) (w : World) (h : Sm 2 encC (0, 0) w 0 w.heap.size A n xs) (hn : n ≤ 1000000) (h0 : 0 ≤ o) (hnc : n ≤ c) :
    Calls Tryz.prog 118 #[qv A n c o, .int .u64 x, .int .i64 a] w (QPost w (putF o xs x a)) := by
  have HE := hid (show putF o xs x a = if ¬ QGood o xs then (0, [], 230) else if a < 1 ∨ 2 < a then (0, [], 2) else if 0 < xs.length ∧ o + a < perAt xs (xs.length - 1) then (0, [], 2) else if xs.length = 16 then (0, [], 6) else (o, xs ++ [(o + a, x)], 0) from rfl)
  have HC := hid (show qcheckC o xs = if QGood o xs then 0 else 230 from rfl)
  have hl := hid h.len
  have eg := enters_of Tryz.func92 (by kernel_rfl) rfl
  have HR := hid h; have HB := hid (Below.refl w.heap.size w)
  clear h
  have bx := below_box w (.cells (qcs A n c o) 58)
  replace HR := hid (HR.out.step bx); replace HB := hid (below_then HB.out bx)
  clear bx
  have PQ := hid (Blk.new w 58 (qcs A n c o))
  have bx := below_box (w.alloc (.cells (qcs A n c o) 58)) (.cells (qcs none 0 0 0) 58)
  replace HR := hid (HR.out.step bx); replace PQ := hid (PQ.out.step bx); replace HB := hid (below_then HB.out bx)
  clear bx
  have PZ := hid (Blk.new2 w 58 (qcs none 0 0 0) (.cells (qcs A n c o) 58))
  obtain ⟨y00, y01, yf0⟩ := PQ.out.cells2
  go_enter Tryz.func118, Tryz.ntmps118
  go_wp2_with fail
  clear y00 y01 yf0
  refine (qcheck_any A n c o xs _ HR.out hn h0).mono ?_
  rintro e w1 ⟨rfl, hb⟩
  replace HR := hid (HR.out.step hb); replace PQ := hid (PQ.out.step hb); replace PZ := hid (PZ.out.step hb); replace HB := hid (below_then HB.out hb)
  clear hb
  by_cases hg : QGood o xs
  · have e0 : qcheckC o xs = 0 := by rw [HC.out, if_pos hg]
    rw [e0]
    clear e0
    have HG := hid hg
    clear hg
    by_cases h1 : a < 1
    · have h1b : decide (a < 1) = true := decide_eq_true h1
      obtain ⟨y00, y01, yf0⟩ := PZ.out.cells2
      go_wp2
      obtain ⟨q0, q1, qf⟩ := ((PZ.out.setCell 0 (.slice none 0 0)).setCell 1 (.int .u64 0)).cells2
      refine bodyPost_ret (v := .tuple #[qv none 0 0 0, .int .i64 2]) (by simp [results, Tryz.results118, go_sem, q0, q1]) rfl ?_
      rw [HE.out, if_neg (not_not_intro HG.out), if_pos (.inl (of_decide_eq_true h1b))]
      exact ⟨none, 0, 0, rfl, Qown.nil _ _, (HB.out.setCell (by simp) _).setCell (by simp) _, Nat.le_refl _⟩
    · have h1b : decide (a < 1) = false := decide_eq_false h1
      by_cases h2 : 2 < a
      · have h2b : decide (2 < a) = true := decide_eq_true h2
        obtain ⟨y00, y01, yf0⟩ := PZ.out.cells2
        go_wp2
        obtain ⟨q0, q1, qf⟩ := ((PZ.out.setCell 0 (.slice none 0 0)).setCell 1 (.int .u64 0)).cells2
        refine bodyPost_ret (v := .tuple #[qv none 0 0 0, .int .i64 2]) (by simp [results, Tryz.results118, go_sem, q0, q1]) rfl ?_
        rw [HE.out, if_neg (not_not_intro HG.out), if_pos (.inr (of_decide_eq_true h2b))]
        exact ⟨none, 0, 0, rfl, Qown.nil _ _, (HB.out.setCell (by simp) _).setCell (by simp) _, Nat.le_refl _⟩
      · have h2b : decide (2 < a) = false := decide_eq_false h2
        have HE2 := hid (show putF o xs x a = if 0 < xs.length ∧ o + a < perAt xs (xs.length - 1) then (0, [], 2) else if xs.length = 16 then (0, [], 6) else (o, xs ++ [(o + a, x)], 0) by rw [HE.out, if_neg (not_not_intro HG.out), if_neg (by omega)])
        have ha := hid (show 1 ≤ a ∧ a ≤ 2 by omega)
        have ho := hid HG.out.1
        have hw1 : IntKind.u64.wrap a = a := by rw [IntKind.wrap_u64]; omega
        have hw2 : IntKind.u64.wrap (o + a) = o + a := by have := HG.out.1; rw [IntKind.wrap_u64]; omega
        have h16 := hid (show n ≤ 16 by have := HG.out.2.1; have := hl.out; omega)
        clear HE HC h1 h2
        obtain ⟨y00, y01, yf0⟩ := PQ.out.cells2
        go_upto_region 7 with fail
        clear y00 y01 yf0 h1b h2b hw1 hw2
        have bx := below_box w1 (.cells #[.int .u64 (o + a), .int .u64 x] 60)
        replace HR := hid (HR.out.step bx); replace PQ := hid (PQ.out.step bx); replace PZ := hid (PZ.out.step bx); replace HB := hid (below_then HB.out bx)
        clear bx
        have PC := hid (Blk.new w1 60 #[.int .u64 (o + a), .int .u64 x])
        obtain ⟨y00, y01, yf0⟩ := PQ.out.cells2
        go_upto_region 8 with fail
        clear y00 y01 yf0
        have hz2 := hid (show (w1.alloc (.cells #[.int .u64 (o + a), .int .u64 x] 60)).heap.size = w1.heap.size + 1 by simp)
        generalize w1.alloc (.cells #[.int .u64 (o + a), .int .u64 x] 60) = W2 at *
        obtain ⟨bL, hbL⟩ : ∃ b, b = decide (0 < xs.length ∧ o + a < perAt xs (xs.length - 1)) := ⟨_, rfl⟩
        have HL := hid hbL
        clear hbL
        go_cut [34] (fun s wx => s = .bool bL ∧ Below W2.heap.size W2 wx)
        case first =>
          rcases Nat.eq_zero_or_pos n with hn0 | hn0
          · have hn0i : (n : Int) = 0 := by omega
            have E := HL.out
            rw [decide_eq_false (fun h => by have := h.1; have := hl.out; omega)] at E
            subst E
            obtain ⟨y0, y1, yf⟩ := PQ.out.cells2
            obtain ⟨z0, z1, zf⟩ := PC.out.cells2
            go_quiet (fail)
            go_wp2_with fail
            go_meet
            exact ⟨rfl, below_drewN (Below.refl _ _) _⟩
          · have hn0i : ¬ (n : Int) = 0 := by omega
            have hn0p : 0 < (n : Int) := by omega
            obtain ⟨q, hq⟩ : ∃ q : Nat, n = q + 1 := ⟨n - 1, by omega⟩
            have hw3 : IntKind.i64.wrap ((n : Int) - 1) = (q : Int) := by rw [IntKind.wrap_i64]; omega
            have hqn : (q : Int) < (n : Int) := by omega
            obtain ⟨b, off, rfl, _, hbh, hc⟩ := HR.out.row (by omega)
            obtain ⟨y, hy⟩ : ∃ y, y = xs[q]?.getD (0, 0) := ⟨_, rfl⟩
            obtain ⟨c0, c1⟩ := Sm.cb (lo := 0) (hi := W2.heap.size) hc (show q < n by omega)
            rw [← hy] at c0 c1
            have HY : Hid (bL = decide (o + a < y.1)) := hid (by
              rw [HL.out]
              refine decide_eq_decide.2 ?_
              rw [hl.out, show n - 1 = q by omega, show perAt xs q = y.1 by rw [hy]; rfl]
              exact ⟨fun h => h.2, fun h => ⟨by omega, h⟩⟩)
            have HS : Hid (∀ W, Below W2.heap.size W2 W → (W.cell? ⟨w.heap.size, 0, none⟩ = some (.slice (some ⟨b, off, none⟩) n c) ∧ W.cell? ⟨w1.heap.size, 0, none⟩ = some (.int .u64 (o + a)) ∧ W.cell? ⟨w1.heap.size, 1, none⟩ = some (.int .u64 x) ∧ W.cell? ⟨b, off + q * 2, none⟩ = some (.int .u64 y.1) ∧ W.cell? ⟨b, off + q * 2 + 1, none⟩ = some (.int .u64 y.2))) :=
              hid (fun W hb => ⟨(PQ.out.step hb).cells2.1, (PC.out.step hb).cells2.1, (PC.out.step hb).cells2.2.1, (hb.cell (p := ⟨b, off + q * 2, none⟩) hbh).trans c0, (hb.cell (p := ⟨b, off + q * 2 + 1, none⟩) hbh).trans c1⟩)
            have HQ := hid hq
            have HE3 := hid (show cmpZ y.1 (o + a) = if y.1 < o + a then -1 else if o + a < y.1 then 1 else 0 from rfl)
            clear hy hc c0 c1 hq
            obtain ⟨f0, f1, f2, f3, f4⟩ := HS.out W2 (Below.refl _ _)
            go_region_held3 (fun W => W.cell? ⟨w.heap.size, 0, none⟩ = some (.slice (some ⟨b, off, none⟩) n c) ∧ W.cell? ⟨w1.heap.size, 0, none⟩ = some (.int .u64 (o + a)) ∧ W.cell? ⟨w1.heap.size, 1, none⟩ = some (.int .u64 x) ∧ W.cell? ⟨b, off + q * 2, none⟩ = some (.int .u64 y.1) ∧ W.cell? ⟨b, off + q * 2 + 1, none⟩ = some (.int .u64 y.2))
              (first | (exact HS.out _ (Below.refl _ _).drew) | (exact HS.out _ hq1))
              (first | (go_at_call 92; go_split_ands; (with_reducible refine (period_any y (o + a, x) W2.drew).mono ?_); rintro e w5 ⟨rfl, hb⟩; have hq1 := below_then (Below.refl W2.heap.size W2).drew hb))
            have HB1 := hid hq1
            clear hb hq1 f0 f1 f2 f3 f4
            go_wp2_with fail
            go_meet
            refine ⟨?_, HB1.out⟩
            rw [HY.out]
            congr 1
            refine decide_eq_decide.2 ?_
            rw [HE3.out]
            constructor
            · intro h
              split at h
              · omega
              · split at h <;> omega
            · intro h
              rw [if_neg (by omega), if_pos h]
              omega
        case rest =>
          obtain ⟨rfl, hb⟩ := hcut
          rename World => W3
          replace HR := hid (HR.out.step hb); replace PQ := hid (PQ.out.step hb); replace PZ := hid (PZ.out.step hb); replace PC := hid (PC.out.step hb); replace HB := hid (below_then HB.out hb)
          clear hb
          rcases bL with _ | _
          · by_cases h6 : n = 16
            · have h6i : (n : Int) = 16 := by omega
              obtain ⟨y00, y01, yf0⟩ := PZ.out.cells2
              go_wp2
              obtain ⟨q0, q1, qf⟩ := ((PZ.out.setCell 0 (.slice none 0 0)).setCell 1 (.int .u64 0)).cells2
              refine bodyPost_ret (v := .tuple #[qv none 0 0 0, .int .i64 6]) (by simp [results, Tryz.results118, go_sem, q0, q1]) rfl ?_
              rw [HE2.out, if_neg (of_decide_eq_false HL.out.symm), if_pos (hl.out.trans h6)]
              exact ⟨none, 0, 0, rfl, Qown.nil _ _, (HB.out.setCell (by simp) _).setCell (by simp) _, Nat.le_refl _⟩
            · have h6i : ¬ (n : Int) = 16 := by omega
              obtain ⟨y00, y01, yf0⟩ := PQ.out.cells2
              obtain ⟨y10, y11, yf1⟩ := PC.out.cells2
              go_wp2_with fail
              clear y00 y01 yf0 y10 y11 yf1
              obtain ⟨i0, hi0, hz00, hz01, hz02⟩ := info_parts info_cb
              have hnn : (n : Int) ≤ (c : Int) := by omega
              have hnn0 : (0 : Int) ≤ (n : Int) := by omega
              have hn16 := h16.out
              have HC2 : Hid (∀ j, j < 2 → (#[.int .u64 (o + a), .int .u64 x] : Array Value)[j]? = some (encC (o + a, x) j)) := hid (by intro j hj; match j, hj with | 0, _ => rfl | 1, _ => rfl)
              obtain ⟨y0, y1, yf⟩ := PQ.out.cells2
              obtain ⟨z0, z1, zf⟩ := PC.out.cells2
              obtain ⟨v0, v1, vf⟩ := (PQ.out.step (below_box W3 (.cells #[.int .u64 (o + a), .int .u64 x] 60))).cells2
              go_region_law (refine step_appmf 2 encC (0, 0) _ rfl _ _ 56 rfl 60 i0 _ 16 Tryz.underlying56 hi0 hz00 hz01 hz02 rfl (by omega) 0 (W3.alloc (.cells #[.int .u64 (o + a), .int .u64 x] 60)).drew.heap.size A n n xs rfl (HR.out.step (below_box W3 (.cells #[.int .u64 (o + a), .int .u64 x] 60)).drew) 0 (W3.alloc (.cells #[.int .u64 (o + a), .int .u64 x] 60)).drew.heap.size _ 1 _ [(o + a, x)] rfl ((Sm.one (o + a, x) rfl HC2.out).step (Below.refl (W3.alloc (.cells #[.int .u64 (o + a), .int .u64 x] 60)).heap.size (W3.alloc (.cells #[.int .u64 (o + a), .int .u64 x] 60))).drew) (by omega) encC_one (by omega) (by simp only [maxLen]; omega) (by omega) (by omega) W3.heap.size (by simp) ?_; intro ca wA ownA bA sA; have bW := below_then (below_box W3 (.cells #[.int .u64 (o + a), .int .u64 x] 60)).drew bA; obtain ⟨s0, s1, sf⟩ := (PQ.out.step bW).cells2)
              all_goals
                have sv : Value := .slice (some ⟨W3.heap.size + 1, 0, none⟩) (n + 1) ca
                have hlq := PQ.out.lt
                rw [show (W3.alloc (.cells #[.int .u64 (o + a), .int .u64 x] 60)).drew.heap.size = W3.heap.size + 1 by simp] at ownA
                have hca := hid ownA.cap.1
                have O9 := hid ((Qown.ofOm ownA).setCell (p := ⟨w.heap.size, 0, none⟩) (by simp; omega) (.slice (some ⟨W3.heap.size + 1, 0, none⟩) (n + 1) ca))
                have P9 := hid ((PQ.out.step bW).setCell 0 (.slice (some ⟨W3.heap.size + 1, 0, none⟩) (n + 1) ca))
                have Z9 := hid ((PZ.out.step bW).far (p := ⟨w.heap.size, 0, none⟩) (by simp) (.slice (some ⟨W3.heap.size + 1, 0, none⟩) (n + 1) ca))
                have B9 := hid ((below_then HB.out bW).setCell (p := ⟨w.heap.size, 0, none⟩) (Nat.le_refl _) (.slice (some ⟨W3.heap.size + 1, 0, none⟩) (n + 1) ca))
                clear s0 s1 sf ownA bA sA bW y0 y1 yf z0 z1 zf v0 v1 vf hi0 hz00 hz01 hz02
                obtain ⟨q0, q1, qf⟩ := P9.out.cells2
                obtain ⟨r0, r1, rf⟩ := Z9.out.cells2
                go_wp2
                clear q0 q1 qf r0 r1 rf
                obtain ⟨r0, r1, rf⟩ := ((Z9.out.setCell 0 (.slice (some ⟨W3.heap.size + 1, 0, none⟩) (n + 1) ca)).setCell 1 (.int .u64 o)).cells2
                refine bodyPost_ret (v := .tuple #[qv (some ⟨W3.heap.size + 1, 0, none⟩) (n + 1) ca o, .int .i64 0]) (by simp [results, Tryz.results118, go_sem, r0, r1]) rfl ?_
                rw [HE2.out, if_neg (of_decide_eq_false HL.out.symm), if_neg (by rw [hl.out]; exact h6)]
                have hlz := PZ.out.lt
                exact ⟨some ⟨W3.heap.size + 1, 0, none⟩, n + 1, ca, rfl, ((O9.out.setCell (p := ⟨w.heap.size + 1, 0, none⟩) hlz _).setCell (p := ⟨w.heap.size + 1, 1, none⟩) hlz _).mono (Nat.le_of_lt hlq), (B9.out.setCell (by simp) _).setCell (by simp) _, hca.out⟩
          · skip
            obtain ⟨y00, y01, yf0⟩ := PZ.out.cells2
            go_wp2
            obtain ⟨q0, q1, qf⟩ := ((PZ.out.setCell 0 (.slice none 0 0)).setCell 1 (.int .u64 0)).cells2
            refine bodyPost_ret (v := .tuple #[qv none 0 0 0, .int .i64 2]) (by simp [results, Tryz.results118, go_sem, q0, q1]) rfl ?_
            rw [HE2.out, if_pos (of_decide_eq_true HL.out.symm)]
            exact ⟨none, 0, 0, rfl, Qown.nil _ _, (HB.out.setCell (by simp) _).setCell (by simp) _, Nat.le_refl _⟩
  · have e0 : qcheckC o xs = 230 := by rw [HC.out, if_neg hg]
    rw [e0]
    clear e0
    have HG := hid hg
    clear hg
    obtain ⟨y00, y01, yf0⟩ := PZ.out.cells2
    go_wp2
    obtain ⟨q0, q1, qf⟩ := ((PZ.out.setCell 0 (.slice none 0 0)).setCell 1 (.int .u64 0)).cells2
    refine bodyPost_ret (v := .tuple #[qv none 0 0 0, .int .i64 230]) (by simp [results, Tryz.results118, go_sem, q0, q1]) rfl ?_
    rw [HE.out, if_pos HG.out]
    exact ⟨none, 0, 0, rfl, Qown.nil _ _, (HB.out.setCell (by simp) _).setCell (by simp) _, Nat.le_refl _⟩
end Go.Proofs.YtfipdoofgbjbjaaGreat

/- package queue: take. No condition but sizes. -/
namespace Go.Proofs.YtfipdoofgbjbjaaGreat
open Go.RowKit
/-- the two cells of a queue that is being drained -/
abbrev dcs (A : Option Addr) (m c : Nat) (o : Int) : Array Value := #[.slice A m c, .int .u64 o]
set_option maxHeartbeats 2000000 in
theorem take_none (D : Nat) (A : Option Addr) (m c : Nat) (o lo hi : Nat) (oo : Int) (xs : List Cb) (w : World) (hP : Blk w D 183 (dcs A m c oo)) (h : Sm 2 encC (0, 0) w lo hi A m xs) (hn : m ≤ 1000000) (hno : ¬ (0 < m ∧ perAt xs 0 ≤ oo)) :
    Calls Tryz.prog 154 #[ptr D] w fun e w' => e = .returned (.tuple #[.int .u64 0, .bool false]) ∧ ∃ q, w' = w.drewN q := by
  obtain ⟨p0, p1, pf⟩ := hP.cells2
  rcases Nat.eq_zero_or_pos m with h0 | h0
  · have h0i : (m : Int) = 0 := by omega
    go_enter Tryz.func154, Tryz.ntmps154
    go_wp2_with fail
    go_quiet (fail)
    go_wp2
    exact bodyPost_ret (v := .tuple #[.int .u64 0, .bool false]) (by simp [results, Tryz.results154, go_sem]) rfl ⟨rfl, _, rfl⟩
  · have h0i : ((m : Int) == 0) = false := by simp; omega
    have h0p : (0 : Int) < (m : Int) := by omega
    obtain ⟨b, off, rfl, _, hbh, hc⟩ := h.row h0
    obtain ⟨c0, c1⟩ := Sm.cb (lo := lo) (hi := hi) hc h0
    obtain ⟨x, hx⟩ : ∃ x, x = xs[0]?.getD (0, 0) := ⟨_, rfl⟩
    rw [← hx] at c0 c1
    have hgt : oo < x.1 := by
      have : perAt xs 0 = x.1 := by rw [hx]; rfl
      rw [this] at hno
      omega
    rw [Nat.zero_mul, Nat.add_zero] at c0 c1
    clear hx hc hno
    go_enter Tryz.func154, Tryz.ntmps154
    go_wp2_with fail
    go_quiet (fail)
    go_wp2
    exact bodyPost_ret (v := .tuple #[.int .u64 0, .bool false]) (by simp [results, Tryz.results154, go_sem]) rfl ⟨rfl, _, rfl⟩
theorem take_some (D : Nat) (A : Option Addr) (m c lo hi : Nat) (oo : Int) (xs : List Cb) (w : World) (hP : Blk w D 183 (dcs A m c oo)) (h : Sm 2 encC (0, 0) w lo hi A m xs) (hn : m ≤ 1000000) (hmc : m ≤ c) (h0 : 0 < m) (hle : perAt xs 0 ≤ oo) :
    Calls Tryz.prog 154 #[ptr D] w fun e w' => e = .returned (.tuple #[.int .u64 (xs[0]?.getD (0, 0)).2, .bool true]) ∧ ∃ A', w.grownBy w' (some D) ∧ Blk w' D 183 (dcs A' (m - 1) (m - 1) oo) ∧ (1 < m → ∃ b off, A = some ⟨b, off, none⟩ ∧ A' = some ⟨b, off + 2, none⟩) := by
  have PD := hid hP
  obtain ⟨p0, p1, pf⟩ := hP.cells2
  have h0i : ((m : Int) == 0) = false := by simp; omega
  have h0p : (0 : Int) < (m : Int) := by omega
  obtain ⟨b, off, rfl, _, hbh, hc⟩ := h.row h0
  obtain ⟨c0, c1⟩ := Sm.cb (lo := lo) (hi := hi) hc h0
  obtain ⟨x, hx⟩ : ∃ x, x = xs[0]?.getD (0, 0) := ⟨_, rfl⟩
  rw [← hx] at c0 c1 ⊢
  have hgt : ¬ oo < x.1 := by
    have : perAt xs 0 = x.1 := by rw [hx]; rfl
    rw [this] at hle
    omega
  rw [Nat.zero_mul, Nat.add_zero] at c0 c1
  have h1m : (1 : Int) ≤ (m : Int) := by omega
  have hmci : (m : Int) ≤ (c : Int) := by omega
  clear hx hc hle hP
  go_enter Tryz.func154, Tryz.ntmps154
  go_wp2_with fail
  go_quiet (fail)
  go_wp2_with fail
  clear p0 p1 c0 c1
  have P2 := hid (PD.out.drewN nq)
  have hgr : w.grownBy (w.drewN nq) (some D) := ⟨rfl, rfl, rfl, Nat.le_refl _, fun _ _ _ => rfl⟩
  have HG := hid hgr
  clear hgr
  generalize w.drewN nq = w2 at *
  obtain ⟨p0, p1, pf⟩ := P2.out.cells2
  go_region
  clear p0 p1 pf
  generalize hA : (if m = 1 then some (⟨b, off, none⟩ : Addr) else some ⟨b, off + 2, none⟩) = A'
  have hgw := HG.out.trans (grownBy_setCell' w2 D (.slice A' (m - 1) (m - 1)))
  have hbk := P2.out.setCell 0 (.slice A' (m - 1) (m - 1))
  have HW := hid hgw; have HK := hid hbk
  have HA : Hid (1 < m → A' = some ⟨b, off + 2, none⟩) := hid (fun h1 => by rw [← hA, if_neg (by omega)])
  clear hgw hbk hA
  go_wp2
  exact bodyPost_ret (v := .tuple #[.int .u64 x.2, .bool true]) (by simp [results, Tryz.results154, go_sem]) rfl ⟨rfl, A', ⟨HW.out.os, HW.out.tape, HW.out.output, HW.out.size, HW.out.block⟩, HK.out, fun h1 => ⟨b, off, rfl, HA.out h1⟩⟩
end Go.Proofs.YtfipdoofgbjbjaaGreat

/- package queue: the iterator done. No condition but sizes. -/
namespace Go.Proofs.YtfipdoofgbjbjaaGreat
open Go.RowKit Go.Shelf
attribute [local go_sem] Oper.semAt_some
/-- how many are done -/
def doneN (o : Int) (xs : List Cb) : Nat := (xs.takeWhile fun c => decide (c.1 ≤ o)).length
theorem doneN_le (o : Int) (xs : List Cb) : doneN o xs ≤ xs.length := List.IsPrefix.length_le (List.takeWhile_prefix _)
theorem doneN_lt {o : Int} : ∀ {xs : List Cb} {k : Nat}, k < doneN o xs → perAt xs k ≤ o
  | [], k, h => by simp [doneN] at h
  | x :: xs, k, h => by
    unfold doneN at h
    by_cases hx : x.1 ≤ o
    · rw [List.takeWhile_cons_of_pos (by simpa using hx)] at h
      cases k with
      | zero => exact hx
      | succ k => exact doneN_lt (xs := xs) (by simpa [doneN] using h)
    · rw [List.takeWhile_cons_of_neg (by simpa using hx)] at h
      simp at h
theorem doneN_stop {o : Int} : ∀ {xs : List Cb}, ¬ (doneN o xs < xs.length ∧ perAt xs (doneN o xs) ≤ o)
  | [], h => by simp at h
  | x :: xs, h => by
    unfold doneN at h
    by_cases hx : x.1 ≤ o
    · rw [List.takeWhile_cons_of_pos (by simpa using hx)] at h
      refine doneN_stop (xs := xs) ⟨by have := h.1; simp at this; exact this, ?_⟩
      have := h.2
      simpa [perAt, doneN] using this
    · rw [List.takeWhile_cons_of_neg (by simpa using hx)] at h
      exact hx h.2
/-- the queue behind k takings -/
structure Drs (D Tb lo hi : Nat) (o : Int) (xs : List Cb) (k : Nat) (W : World) : Prop where
  fn : Blk W Tb 199 #[.func (.func 154) #[ptr D] #[]]
  box : ∃ A c, Blk W D 183 (dcs A (xs.length - k) c o) ∧ xs.length - k ≤ c ∧ Sm 2 encC (0, 0) W lo hi A (xs.length - k) (xs.drop k) ∧ (0 < xs.length - k → ∀ b off, A = some ⟨b, off, none⟩ → ∀ i, W.frozen? ⟨b, i, none⟩ = false)
def lenAt (D : Nat) (W : World) : Nat := match W.cell? ⟨D, 0, none⟩ with | some (.slice _ m _) => m | _ => 0
section
variable {D Tb lo hi : Nat} {o : Int} {xs : List Cb} {k : Nat} {W W' : World}
theorem Drs.lenAt (h : Drs D Tb lo hi o xs k W) : Go.Proofs.YtfipdoofgbjbjaaGreat.lenAt D W = xs.length - k := by
  obtain ⟨A, c, hb, _⟩ := h.box
  unfold Go.Proofs.YtfipdoofgbjbjaaGreat.lenAt
  rw [hb.cells2.1]
/-- what turns neither the boxes nor the row -/
theorem Drs.kept (h : Drs D Tb lo hi o xs k W) (hT : W'.heap[Tb]? = W.heap[Tb]?) (hD : W'.heap[D]? = W.heap[D]?) (hr : ∀ b, lo ≤ b → b < hi → W'.heap[b]? = W.heap[b]?) : Drs D Tb lo hi o xs k W' := by
  obtain ⟨A, c, h1, h2, h3, h4⟩ := h.box
  refine ⟨hT.trans h.fn, A, c, hD.trans h1, h2, h3.keep fun b i e1 e2 => by unfold World.cell?; rw [hr b e1 e2], fun hn b off hA i => ?_⟩
  obtain ⟨b', off', hA', e1, e2, _⟩ := h3.row hn
  rw [hA] at hA'
  cases hA'
  rw [← h4 hn b off hA i]
  unfold World.frozen?
  rw [hr b e1 e2]
theorem Drs.next (h : Drs D Tb lo hi o xs k W) (hg : W.grownBy W' (some D)) (hT : Tb ≠ D) (hTl : Tb < W.heap.size) (hlo : D < lo) (hhi : hi ≤ W.heap.size) (hk : k < xs.length) {A : Option Addr} {m c : Nat} (hb0 : Blk W D 183 (dcs A m c o)) {A' : Option Addr} (hb : Blk W' D 183 (dcs A' (xs.length - k - 1) (xs.length - k - 1) o)) (hA : 1 < xs.length - k → ∃ b off, A = some ⟨b, off, none⟩ ∧ A' = some ⟨b, off + 2, none⟩) :
    Drs D Tb lo hi o xs (k + 1) W' := by
  obtain ⟨A0, c0, h1, h2, h3, h4⟩ := h.box
  have hA0 : A0 = A := by
    have e := h1.cells2.1
    rw [hb0.cells2.1] at e
    simp at e
    exact e.1.symm
  subst hA0
  refine ⟨(hg.block _ hTl (fun e => by cases e; exact hT rfl)).trans h.fn, A', xs.length - k - 1, hb, Nat.le_refl _, ?_, ?_⟩
  · refine ⟨by rw [List.length_drop], fun hn => ?_⟩
    obtain ⟨b, off, rfl, rfl⟩ := hA (by omega)
    obtain ⟨b', off', e, e1, e2, hc⟩ := h3.row (by omega)
    cases e
    refine ⟨b, off + 2, rfl, e1, e2, fun j hj i hi => ?_⟩
    have hx := hc (j + 1) (by omega) i hi
    rw [show off + 2 + j * 2 + i = off + (j + 1) * 2 + i by omega]
    have he : (xs.drop (k + 1))[j]? = (xs.drop k)[j + 1]? := by rw [List.getElem?_drop, List.getElem?_drop, show k + 1 + j = k + (j + 1) by omega]
    rw [he, ← hx]
    unfold World.cell?
    rw [hg.block b (by omega) (fun e => by cases e; omega)]
  · intro hn b2 off2 hb2 i
    obtain ⟨b, off, rfl, rfl⟩ := hA (by omega)
    cases hb2
    obtain ⟨b', off', e, e1, e2, _⟩ := h3.row (by omega)
    cases e
    rw [← h4 (by omega) _ off rfl i]
    unfold World.frozen?
    rw [hg.block b2 (by omega) (fun e => by cases e; omega)]
end
theorem done_any (D : Nat) (w : World) : Calls Tryz.prog 148 #[ptr D] w fun e w' => e = .returned (.func (.func 155) #[] #[ptr w.heap.size]) ∧ w.alloc (.cells #[.func (.func 154) #[ptr D] #[]] 199) = w' := by
  go_enter Tryz.func148, Tryz.ntmps148
  go_wp2
  go_ret
  exact ⟨rfl, rfl⟩
set_option maxRecDepth 100000 in
set_option maxHeartbeats 4000000 in
theorem done_seq (M D Tb lo hi : Nat) (o : Int) (xs : List Cb) (B0 : Nat) (hm : 1 ≤ M) (hn : xs.length ≤ 1000000) (hT : Tb ≠ D) (hlo : D < lo) (hlh : lo ≤ hi) (hTh : hi ≤ Tb) :
    StateSeq Fence.wide M Tryz.prog 155 #[ptr Tb] (fun k => #[.int .u64 (xs[k]?.getD (0, 0)).2]) (doneN o xs) D (Drs D Tb lo hi o xs) := by
  intro l J Jx W hJD hY hJ0 hI0
  have ek := enters_of Tryz.func154 (by kernel_rfl) rfl
  refine callsIn_of_wp Tryz.func155 rfl trivial ?_ rfl
  simp only [Tryz.ntmps155, List.size_toArray, List.length_cons, List.length_nil, Nat.reduceAdd, Nat.reduceSub, Array.replicate_succ, Array.replicate_zero, List.push_toArray, List.append_toArray, List.nil_append, List.cons_append]
  refine wpIn_wide.2 ?_
  go_wp2_with fail
  go_loopw [3, 4] (fun _ _ wr => ∃ k : Nat, k ≤ doneN o xs ∧ J k wr ∧ Drs D Tb lo hi o xs k wr) (fun _ _ wr => lenAt D wr)
  case atStart => exact ⟨0, Nat.zero_le _, hJ0, hI0⟩
  case round =>
    obtain ⟨k, hk, hj, hd⟩ := hrel
    have HJ := hid hj; have HD := hid hd
    have HYH := hid (show hi ≤ wr.heap.size from Nat.le_trans hTh (Nat.le_of_lt hd.fn.lt))
    clear hj hd hJ0 hI0
    obtain ⟨A, c, hb, hc, hs, hf⟩ := HD.out.box
    obtain ⟨t0, tf⟩ := HD.out.fn.cells1
    by_cases hlt : k < doneN o xs
    · have hkn : k < xs.length := Nat.lt_of_lt_of_le hlt (doneN_le o xs)
      have htake := hid (take_some D A (xs.length - k) c lo hi o (xs.drop k) wr hb hs (by omega) hc (by omega) (by have := doneN_lt hlt; unfold perAt at this ⊢; rw [List.getElem?_drop, Nat.add_zero]; exact this))
      have HBK := hid hb; have HSM := hid hs
      clear hb hs hf hc
      go_wp2_with fail
      clear t0 tf
      refine htake.out.mono ?_
      rintro e w1 ⟨rfl, A', hg, hb', hA⟩
      have hd1 := HD.out.next hg hT HD.out.fn.lt hlo HYH.out hkn HBK.out hb' hA
      have hj1 := hJD k _ _ HJ.out hg
      have hx : ((xs.drop k)[0]?.getD (0, 0)).2 = (xs[k]?.getD (0, 0)).2 := by rw [List.getElem?_drop, Nat.add_zero]
      obtain ⟨v, hv⟩ : ∃ v, v = (xs[k]?.getD (0, 0)).2 := ⟨_, rfl⟩
      have hy0 := hY k w1 hlt hj1 hd1
      rw [hx, ← hv]
      rw [← hv] at hy0
      obtain ⟨fn, tmps, assign, body, hy, hR⟩ := hy0
      clear htake hx hg hb' hA hj1 hv
      have HL := hid (show lenAt D wr = xs.length - k from HD.out.lenAt)
      clear HD HBK HSM HJ hd1 hY
      go_upto_region 1 with fail
      refine (wpIn_wide (n := M)).1 ?_
      gi_wp2
      refine hR.mono ?_
      rintro e W3 (⟨rfl, hJ3, hI3⟩ | ⟨rfl, hJx3⟩)
      · gi_wp2
        go_wp2_with fail
        go_roundw
        case rel => exact ⟨k + 1, by omega, hJ3, hI3⟩
        case measure => rw [HL.out, hI3.lenAt]; omega
      · gi_wp2
        go_wp2_with fail
        exact bodyPost_ret (v := .tuple #[]) (by simp [results, Tryz.results155, go_sem]) rfl ⟨⟨_, rfl⟩, .inr ⟨_, hJx3⟩⟩
    · obtain rfl : k = doneN o xs := by omega
      have hst := doneN_stop (o := o) (xs := xs)
      have htake := hid (take_none D A (xs.length - doneN o xs) c o.toNat lo hi o (xs.drop (doneN o xs)) wr hb hs (by omega) (fun h => hst ⟨by omega, by have := h.2; unfold perAt at this ⊢; rwa [List.getElem?_drop, Nat.add_zero] at this⟩))
      clear hb hs hf hc hst hY
      go_wp2_with fail
      clear t0 tf
      refine htake.out.mono ?_
      rintro e w1 ⟨rfl, q, rfl⟩
      have hg : wr.grownBy (wr.drewN q) (some D) := ⟨rfl, rfl, rfl, Nat.le_refl _, fun _ _ _ => rfl⟩
      have hj1 := hid (hJD _ _ _ HJ.out hg)
      have hd1 := hid (HD.out.kept (W' := wr.drewN q) rfl rfl (fun _ _ _ => rfl))
      clear htake hg
      go_wp2
      exact bodyPost_ret (v := .tuple #[]) (by simp [results, Tryz.results155, go_sem]) rfl ⟨⟨_, rfl⟩, .inl ⟨hj1.out, hd1.out⟩⟩
end Go.Proofs.YtfipdoofgbjbjaaGreat
