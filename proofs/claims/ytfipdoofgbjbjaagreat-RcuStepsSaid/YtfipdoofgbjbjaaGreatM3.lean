/- Walks and plain laws for this claim, part 3. No condition but sizes. -/
import Derived.Test.YtfipdoofgbjbjaaGreatM2
import Derived.Test.YtfipdoofgbjbjaaGreatM1
import Derived.Laws.StructEq
import Derived.Test.YtfipdoofgbjbjaaGreatProg
import Derived.Deep.RegionHeld3
import Derived.Tactics2
import Derived.Deep.DeepCutAuto
/- package reader: Run, Enter, Leave, New. No condition but sizes. -/
namespace Go.Proofs.YtfipdoofgbjbjaaGreat
open Go.RowKit Go.Shelf Go.Maps

theorem run_any (now : Int) (A : Option Addr) (n c : Nat) (B : Option Addr) (m d : Nat) (ns os : List Int) (L : Option Addr) (nl kc : Nat) (ls : List (Int × Bool)) (w : World) (h : Rds w A n c B m d ns os) (hL : Sm 2 encR (0, false) w 0 w.heap.size L nl ls) (hnl : nl ≤ 1000) :
    Calls Tryz.prog 139 #[rv now A n c B m d, .slice L nl kc] w (RunPost w (runF now ns os ls)) := by
  by_cases hg : Good now ns os
  · exact run_good now A n c B m d ns os L nl kc ls w h hL hnl hg
  · exact run_bad now A n c B m d ns os L nl kc ls w h hg
/-- what one step hands back: the error, the readers -/
def oneF (now : Int) (ns os : List Int) (x : Int × Bool) : Int × St := ((runF now ns os [x]).1, (runF now ns os [x]).2.2)
def OnePost (W : World) (r : Int × St) (e : Ending) (W' : World) : Prop :=
  ∃ A n c B m d, e = .returned (.tuple #[rv r.2.1 A n c B m d, .int .i64 r.1]) ∧ Rown W' W.heap.size A n c B m d r.2.2.1 r.2.2.2 ∧ Below W.heap.size W W'

set_option maxHeartbeats 2000000 in
theorem enter1_any (now : Int) (A : Option Addr) (n c : Nat) (B : Option Addr) (m d : Nat) (ns os : List Int) (cpu : Int) (w : World) (h : Rds w A n c B m d ns os) :
    Calls Tryz.prog 115 #[rv now A n c B m d, .int .i64 cpu] w (OnePost w (oneF now ns os (cpu, true))) := by
  have hbx := below_then (below_box w (.cells (rcs now A n c B m d) 24)) (below_box _ (.cells (rcs 0 none 0 0 none 0 0) 24))
  have hbx2 := below_then hbx (below_box _ (.cells #[.int .i64 cpu, .bool true] 87))
  have h0 := h.step hbx2
  have P := (Blk.new w 24 (rcs now A n c B m d)).step (below_box _ (.cells (rcs 0 none 0 0 none 0 0) 24))
  have P' := (Blk.new2 w 24 (rcs 0 none 0 0 none 0 0) (.cells (rcs now A n c B m d) 24)).step (below_box _ (.cells #[.int .i64 cpu, .bool true] 87))
  have HL := hid (Sm.one (sz := 2) (enc := encR) (d := ((0 : Int), false)) (w := ((w.alloc (.cells (rcs now A n c B m d) 24)).alloc (.cells (rcs 0 none 0 0 none 0 0) 24))) (e := 87) (cs := #[.int .i64 cpu, .bool true]) (g := w.heap.size + 1 + 1) (cpu, true) (by simp) (by intro j hj; match j, hj with | 0, _ => rfl | 1, _ => rfl))
  have HR := hid h0; have HBX := hid hbx2; have HP := hid P'
  obtain ⟨k0, k1, k2, kf⟩ := P.cells3
  clear h h0 hbx hbx2 P P'
  go_enter Tryz.func115, Tryz.ntmps115
  go_wp2_with fail
  clear k0 k1 k2 kf
  refine (run_any now A n c B m d ns os _ 1 1 [(cpu, true)] _ HR.out HL.out (by omega)).mono ?_
  rintro e w1 ⟨A', n', c', B', m', d', rfl, hown, hb⟩
  have hz := hb.size
  simp only [World.size_alloc] at hz
  have PZ := hid (HP.out.step hb)
  have HB1 := hid (below_then HBX.out hb)
  have HO := hid (hown.step (below_box w1 (.cells (rcs (oneF now ns os (cpu, true)).2.1 A' n' c' B' m' d') 24)))
  obtain ⟨code, hcode⟩ : ∃ code, code = (oneF now ns os (cpu, true)).1 := ⟨_, rfl⟩
  obtain ⟨nw, hnw⟩ : ∃ nw, nw = (oneF now ns os (cpu, true)).2.1 := ⟨_, rfl⟩
  have HC := hid hcode; have HN := hid hnw
  rw [show (runF now ns os [(cpu, true)]).1 = code from hcode.symm, show (runF now ns os [(cpu, true)]).2.2.1 = nw from hnw.symm]
  rw [← hnw] at HO
  clear hcode hnw hown
  have PZ1 := PZ.out.step (below_box w1 (.cells (rcs nw A' n' c' B' m' d') 24))
  have PN := Blk.new w1 24 (rcs nw A' n' c' B' m' d')
  obtain ⟨r0, r1, r2, rf⟩ := PZ1.cells3
  obtain ⟨s0, s1, s2, sf⟩ := PN.cells3
  have HZ1 := hid PZ1; have HZ := hid hz
  clear PZ1 PN hb hz
  go_wp2
  have q := ((HZ1.out.setCell 0 (.int .i64 nw)).setCell 1 (.slice A' n' c')).setCell 2 (.slice B' m' d')
  obtain ⟨q0, q1, q2, qf⟩ := q.cells3
  have hz := HZ.out
  refine bodyPost_ret (v := .tuple #[rv nw A' n' c' B' m' d', .int .i64 code]) (by simp [results, Tryz.results115, go_sem, q0, q1, q2]) rfl ⟨A', n', c', B', m', d', by rw [← HC.out, ← HN.out], ?_, ?_⟩
  · have o := HO.out
    exact ⟨(((o.oa.setCell (p := ⟨w.heap.size + 1, 0, none⟩) (by simp) _).setCell (p := ⟨w.heap.size + 1, 1, none⟩) (by simp) _).setCell (p := ⟨w.heap.size + 1, 2, none⟩) (by simp) _).mono (by simp; omega), (((o.ob.setCell (p := ⟨w.heap.size + 1, 0, none⟩) (by simp) _).setCell (p := ⟨w.heap.size + 1, 1, none⟩) (by simp) _).setCell (p := ⟨w.heap.size + 1, 2, none⟩) (by simp) _).mono (by simp; omega), o.apart, o.hn, o.hm⟩
  · exact (((below_then HB1.out (below_box w1 _)).setCell (by simp) _).setCell (by simp) _).setCell (by simp) _

set_option maxHeartbeats 2000000 in
theorem leave1_any (now : Int) (A : Option Addr) (n c : Nat) (B : Option Addr) (m d : Nat) (ns os : List Int) (cpu : Int) (w : World) (h : Rds w A n c B m d ns os) :
    Calls Tryz.prog 116 #[rv now A n c B m d, .int .i64 cpu] w (OnePost w (oneF now ns os (cpu, false))) := by
  have hbx := below_then (below_box w (.cells (rcs now A n c B m d) 24)) (below_box _ (.cells (rcs 0 none 0 0 none 0 0) 24))
  have hbx2 := below_then hbx (below_box _ (.cells #[.int .i64 cpu, .bool false] 87))
  have h0 := h.step hbx2
  have P := (Blk.new w 24 (rcs now A n c B m d)).step (below_box _ (.cells (rcs 0 none 0 0 none 0 0) 24))
  have P' := (Blk.new2 w 24 (rcs 0 none 0 0 none 0 0) (.cells (rcs now A n c B m d) 24)).step (below_box _ (.cells #[.int .i64 cpu, .bool false] 87))
  have HL := hid (Sm.one (sz := 2) (enc := encR) (d := ((0 : Int), false)) (w := ((w.alloc (.cells (rcs now A n c B m d) 24)).alloc (.cells (rcs 0 none 0 0 none 0 0) 24))) (e := 87) (cs := #[.int .i64 cpu, .bool false]) (g := w.heap.size + 1 + 1) (cpu, false) (by simp) (by intro j hj; match j, hj with | 0, _ => rfl | 1, _ => rfl))
  have HR := hid h0; have HBX := hid hbx2; have HP := hid P'
  obtain ⟨k0, k1, k2, kf⟩ := P.cells3
  clear h h0 hbx hbx2 P P'
  go_enter Tryz.func116, Tryz.ntmps116
  go_wp2_with fail
  clear k0 k1 k2 kf
  refine (run_any now A n c B m d ns os _ 1 1 [(cpu, false)] _ HR.out HL.out (by omega)).mono ?_
  rintro e w1 ⟨A', n', c', B', m', d', rfl, hown, hb⟩
  have hz := hb.size
  simp only [World.size_alloc] at hz
  have PZ := hid (HP.out.step hb)
  have HB1 := hid (below_then HBX.out hb)
  have HO := hid (hown.step (below_box w1 (.cells (rcs (oneF now ns os (cpu, false)).2.1 A' n' c' B' m' d') 24)))
  obtain ⟨code, hcode⟩ : ∃ code, code = (oneF now ns os (cpu, false)).1 := ⟨_, rfl⟩
  obtain ⟨nw, hnw⟩ : ∃ nw, nw = (oneF now ns os (cpu, false)).2.1 := ⟨_, rfl⟩
  have HC := hid hcode; have HN := hid hnw
  rw [show (runF now ns os [(cpu, false)]).1 = code from hcode.symm, show (runF now ns os [(cpu, false)]).2.2.1 = nw from hnw.symm]
  rw [← hnw] at HO
  clear hcode hnw hown
  have PZ1 := PZ.out.step (below_box w1 (.cells (rcs nw A' n' c' B' m' d') 24))
  have PN := Blk.new w1 24 (rcs nw A' n' c' B' m' d')
  obtain ⟨r0, r1, r2, rf⟩ := PZ1.cells3
  obtain ⟨s0, s1, s2, sf⟩ := PN.cells3
  have HZ1 := hid PZ1; have HZ := hid hz
  clear PZ1 PN hb hz
  go_wp2
  have q := ((HZ1.out.setCell 0 (.int .i64 nw)).setCell 1 (.slice A' n' c')).setCell 2 (.slice B' m' d')
  obtain ⟨q0, q1, q2, qf⟩ := q.cells3
  have hz := HZ.out
  refine bodyPost_ret (v := .tuple #[rv nw A' n' c' B' m' d', .int .i64 code]) (by simp [results, Tryz.results116, go_sem, q0, q1, q2]) rfl ⟨A', n', c', B', m', d', by rw [← HC.out, ← HN.out], ?_, ?_⟩
  · have o := HO.out
    exact ⟨(((o.oa.setCell (p := ⟨w.heap.size + 1, 0, none⟩) (by simp) _).setCell (p := ⟨w.heap.size + 1, 1, none⟩) (by simp) _).setCell (p := ⟨w.heap.size + 1, 2, none⟩) (by simp) _).mono (by simp; omega), (((o.ob.setCell (p := ⟨w.heap.size + 1, 0, none⟩) (by simp) _).setCell (p := ⟨w.heap.size + 1, 1, none⟩) (by simp) _).setCell (p := ⟨w.heap.size + 1, 2, none⟩) (by simp) _).mono (by simp; omega), o.apart, o.hn, o.hm⟩
  · exact (((below_then HB1.out (below_box w1 _)).setCell (by simp) _).setCell (by simp) _).setCell (by simp) _

end Go.Proofs.YtfipdoofgbjbjaaGreat

/- package reader: New. afterglowref11: Step. No condition but sizes. -/
namespace Go.Proofs.YtfipdoofgbjbjaaGreat
open Go.RowKit Go.Shelf Go.Maps

def NewPost (W : World) (n : Nat) (e : Ending) (W' : World) : Prop :=
  ∃ A B, e = .returned (.tuple #[rv 0 A n n B n n, .int .i64 0]) ∧ Rown W' W.heap.size A n n B n n (List.replicate n 0) (List.replicate n 0) ∧ Below W.heap.size W W'
set_option maxHeartbeats 2000000 in
theorem new_ok (n : Nat) (w : World) (h1 : 1 ≤ n) (h8 : n ≤ 8) : Calls Tryz.prog 68 #[.int .i64 n] w (NewPost w n) := by
  have hm := run_make_int n (by omega)
  have g1 : ¬ (n : Int) < 1 := by omega
  have g2 : ¬ (8 : Int) < (n : Int) := by omega
  go_enter Tryz.func68, Tryz.ntmps68
  go_wp2
  go_region
  · go_wp2
    refine bodyPost_ret (v := .tuple #[rv 0 (some ⟨w.heap.size + 1, 0, none⟩) n n (some ⟨w.heap.size + 1 + 1, 0, none⟩) n n, .int .i64 0]) (by simp [results, Tryz.results68, go_sem]) rfl ⟨_, _, rfl, ⟨?_, ?_, fun a b e1 e2 => by simp at e1 e2; omega, by omega, by omega⟩, ?_⟩
    · exact ((Ow.made (enc := i64) 0 (by simp) (by simp [maxLen]; omega) (by simp)).alloc _).drewN 1
    · exact (Ow.made (enc := i64) 0 (by simp <;> omega) (by simp [maxLen]; omega) (by simp)).drewN 1
    · exact below_drewN ((((Below.refl _ w).alloc (Nat.le_refl _) _).alloc (by simp) _).alloc (by simp <;> omega) _) 1
  · go_wp2
    refine bodyPost_ret (v := .tuple #[rv 0 (some ⟨w.heap.size + 1 + 1, 0, none⟩) n n (some ⟨w.heap.size + 1, 0, none⟩) n n, .int .i64 0]) (by simp [results, Tryz.results68, go_sem]) rfl ⟨_, _, rfl, ⟨?_, ?_, fun a b e1 e2 => by simp at e1 e2; omega, by omega, by omega⟩, ?_⟩
    · exact (Ow.made (enc := i64) 0 (by simp <;> omega) (by simp [maxLen]; omega) (by simp)).drewN 1
    · exact ((Ow.made (enc := i64) 0 (by simp) (by simp [maxLen]; omega) (by simp)).alloc _).drewN 1
    · exact below_drewN ((((Below.refl _ w).alloc (Nat.le_refl _) _).alloc (by simp) _).alloc (by simp <;> omega) _) 1
end Go.Proofs.YtfipdoofgbjbjaaGreat

/- The plain law of readers: what may be stays so behind a step. No condition. -/
namespace Go.Proofs.YtfipdoofgbjbjaaGreat
open Go.RowKit

theorem set_getD (l : List Int) (k j : Nat) (v : Int) (hk : k < l.length) : (l.set k v)[j]?.getD 0 = if j = k then v else l[j]?.getD 0 := by
  by_cases h : j = k
  · subst h; rw [List.getElem?_set_self hk, if_pos rfl]; rfl
  · rw [List.getElem?_set_ne (Ne.symm h), if_neg h]
theorem stepOs_get {now : Int} {ns os : List Int} {k j : Nat} {ent : Bool} (hk : k < os.length) :
    (stepOs now ns os k ent)[j]?.getD 0 = if j = k then (if ent = true then (if ns[k]?.getD 0 = 0 then now + 1 else os[k]?.getD 0) else (if ns[k]?.getD 0 = 1 then 0 else os[k]?.getD 0)) else os[j]?.getD 0 := by
  unfold stepOs enterO leaveO
  by_cases h : j = k
  · subst h
    cases ent
    · by_cases h1 : ns[j]?.getD 0 = 1
      · simp [h1, set_getD os j j 0 hk]
      · simp [h1]
    · by_cases h1 : ns[j]?.getD 0 = 0
      · simp [h1, set_getD os j j (now + 1) hk]
      · simp [h1]
  · cases ent
    · by_cases h1 : ns[k]?.getD 0 = 1
      · simp [h1, set_getD os k j 0 hk, h]
      · simp [h1, h]
    · by_cases h1 : ns[k]?.getD 0 = 0
      · simp [h1, set_getD os k j (now + 1) hk, h]
      · simp [h1, h]
theorem stepNs_len (ns : List Int) (k : Nat) (ent : Bool) : (stepNs ns k ent).length = ns.length := by simp [stepNs]
theorem stepOs_len (now : Int) (ns os : List Int) (k : Nat) (ent : Bool) : (stepOs now ns os k ent).length = os.length := by
  unfold stepOs enterO leaveO; split <;> split <;> simp
theorem good_step {now : Int} {ns os : List Int} {x : Int × Bool} (hg : Good now ns os) (hc : stC (now, ns, os) x = 0) :
    Good (stN (now, ns, os) x).1 (stN (now, ns, os) x).2.1 (stN (now, ns, os) x).2.2 := by
  obtain ⟨cpu, ent⟩ := x
  obtain ⟨c1, c2, c3, c4, c5⟩ := stC_zero hc
  dsimp only at c1 c2 c3 c4 c5
  show Good (now + 1) (stepNs ns cpu.toNat ent) (stepOs now ns os cpu.toNat ent)
  generalize cpu.toNat = k at *
  obtain ⟨⟨s1, s2, s3, s4, s5⟩, hr⟩ := good_iff.1 hg
  refine good_iff.2 ⟨⟨by rw [stepNs_len]; exact s1, by rw [stepNs_len]; exact s2, by rw [stepNs_len, stepOs_len]; exact s3, by omega, by omega⟩, fun i hi => ?_⟩
  rw [stepNs_len] at hi
  have hk := hr k c2
  have hi' := hr i hi
  obtain ⟨k1, k2, k3, k4, k5⟩ := hk
  obtain ⟨i1, i2, i3, i4, i5⟩ := hi'
  have le_now : ∀ j, j < ns.length → os[j]?.getD 0 ≤ now := fun j hj => by
    obtain ⟨a1, _, a3, a4, _⟩ := hr j hj
    by_cases h : 0 < ns[j]?.getD 0
    · exact (a4 h).2
    · rw [a3 (by omega)]; exact s4
  unfold RowR
  rw [stepNs_get c2, stepOs_get (by omega)]
  by_cases h : i = k
  · subst h
    simp only [if_true]
    cases ent
    · have c5' := c5 rfl
      simp only [Bool.false_eq_true, if_false]
      refine ⟨by omega, by omega, fun h0 => by rw [if_pos (by omega)], fun h0 => ?_, fun j hj hne => ?_⟩
      · rw [if_neg (by omega)]; have := k4 (by omega); omega
      · rw [stepOs_get (by omega), if_neg (by omega)]
        by_cases h1 : ns[i]?.getD 0 = 1
        · rw [if_pos h1] at hne; exact absurd rfl hne
        · rw [if_neg h1] at hne ⊢; exact k5 j hj hne
    · have c4' := c4 rfl
      simp only [eq_self, if_true]
      refine ⟨by omega, by omega, fun h0 => by omega, fun _ => ?_, fun j hj hne => ?_⟩
      · by_cases h0 : ns[i]?.getD 0 = 0
        · rw [if_pos h0]; omega
        · rw [if_neg h0]; have := k4 (by omega); omega
      · rw [stepOs_get (by omega), if_neg (by omega)]
        by_cases h0 : ns[i]?.getD 0 = 0
        · rw [if_pos h0]; have := le_now j (by omega); omega
        · rw [if_neg h0] at hne ⊢; exact k5 j hj hne
  · simp only [if_neg h]
    refine ⟨i1, i2, i3, fun h0 => by have := i4 h0; omega, fun j hj hne => ?_⟩
    rw [stepOs_get (by omega)]
    by_cases hjk : j = k
    · subst hjk
      simp only [if_true]
      have hle := le_now i hi
      have hpos : 0 < ns[i]?.getD 0 := by
        apply Classical.byContradiction; intro h0; exact hne (i3 (by omega))
      have := (i4 hpos).1
      cases ent
      · simp only [Bool.false_eq_true, if_false]
        split
        · omega
        · exact i5 j hj hne
      · simp only [if_true]
        split
        · omega
        · exact i5 j hj hne
    · rw [if_neg hjk]; exact i5 j hj hne

/-! ### one step -/
theorem oneF_err {now : Int} {ns os : List Int} {x : Int × Bool} (h : Good now ns os) (hc : stC (now, ns, os) x ≠ 0) : oneF now ns os x = (stC (now, ns, os) x, (0, [], [])) := by
  unfold oneF runF; rw [if_pos h]; simp only [runA, if_neg hc]
theorem oneF_ok {now : Int} {ns os : List Int} {x : Int × Bool} (h : Good now ns os) (hc : stC (now, ns, os) x = 0) : oneF now ns os x = (0, stN (now, ns, os) x) := by
  unfold oneF runF; rw [if_pos h]; simp only [runA, if_pos hc]
end Go.Proofs.YtfipdoofgbjbjaaGreat

/- Readers and a grace: what a tick does, and that who was in a section is waited for, plainly. No condition. -/
namespace Go.Proofs.YtfipdoofgbjbjaaGreat
/-- a tick: the error, the readers, the grace, what was asked for -/
def tickF (s : St) (g : Gr) (t : Int × Int) : Int × St × Gr × List Int :=
  if t.1 = 1 ∨ t.1 = 2 then (stC s (t.2, decide (t.1 = 1)), stN s (t.2, decide (t.1 = 1)), g, [])
  else if t.1 = 3 then (if t.2 < 0 ∨ (g.nd.length : Int) ≤ t.2 then (2, s, g, []) else if 2147483645 < gNext g then (6, s, g, []) else (0, s, gAsk g, [gNext g]))
  else if t.1 = 4 then (if t.2 < 0 ∨ (g.nd.length : Int) ≤ t.2 then (2, s, g, []) else (0, s, gPick g t.2.toNat (decide (s.2.1[t.2.toNat]?.getD 0 = 0)), []))
  else (221, s, g, [])
def Both (s : St) (g : Gr) : Prop := Good s.1 s.2.1 s.2.2 ∧ GrOk g ∧ s.2.1.length = g.nd.length
/-- with which step each period was asked for last -/
def AtInv (s : St) (g : Gr) (at_ : List (Int × Int)) : Prop :=
  (∀ x ∈ at_, 1 ≤ x.1 ∧ x.1 ≤ g.ak ∧ 0 ≤ x.2 ∧ x.2 ≤ s.1 ∧ (x.1 ≤ g.dn → ∀ k, k < s.2.1.length → 0 < s.2.1[k]?.getD 0 → x.2 < s.2.2[k]?.getD 0) ∧
    (x.1 = g.dn + 1 → g.on = true → ∀ k, k < s.2.1.length → g.nd[k]?.getD false = false → 0 < s.2.1[k]?.getD 0 → x.2 < s.2.2[k]?.getD 0)) ∧ ∀ n, 1 ≤ n → n ≤ g.ak → n ∈ at_.map Prod.fst
def putI (L : List (Int × Int)) (k v : Int) : List (Int × Int) := match L with
  | [] => [(k, v)]
  | x :: L => if x.1 = k then (k, v) :: L else x :: putI L k v
/-- what was asked for by a tick is laid down -/
def atF (s : St) (at_ : List (Int × Int)) (l : List Int) : List (Int × Int) := l.foldl (fun a n => putI a n s.1) at_
end Go.Proofs.YtfipdoofgbjbjaaGreat

/- package grace: pick, step, enters, leaves, asks, picks. No condition but sizes. -/
namespace Go.Proofs.YtfipdoofgbjbjaaGreat
open Go.RowKit
attribute [local go_sem] Oper.semAt_some
set_option maxRecDepth 100000 in
set_option maxHeartbeats 4000000 in
theorem pick_yes (gb gd lo nd kd : Nat) (cp : Int) (q : Bool) (c : Bc) (g : Gr) (w : World) (hP : Blk w gb 160 (c.cs g gd nd kd)) (hD : Ow blv w lo 4 (some ⟨gd, 0, none⟩) nd kd g.nd) (hne : gb ≠ gd) (hn : nd ≤ 8) (hcp : 0 ≤ cp ∧ cp < nd) (hdn : wrap64 (g.dn + 1) = g.dn + 1) :
    Calls Tryz.prog 125 #[ptr gb, .int .i64 cp, .bool q] w (ChPost w gb gd lo nd kd c (gPick g cp.toNat q)) := by
  obtain ⟨cn, rfl⟩ := Int.eq_ofNat_of_zero_le hcp.1
  have hcn : cn < nd := by omega
  rw [Int.toNat_natCast]
  have HB1 := hid (fun nq => begin_any gb gd lo nd kd c g (w.drewN nq) (hP.drewN nq) (hD.drewN nq) hne hn)
  have HDR := hid (fun nq => GrownP.ofBelow (p := fun i => i = gb ∨ i = gd) (below_drewN (Below.refl w.heap.size w) nq))
  have HR1 := hid (report_any gb gd lo nd kd cn c g w hP hD hne hn hcn hdn)
  have HD := hid hD; have P := hid hP
  have HP : Hid (gPick g cn q = g → ∀ nq, ChPost w gb gd lo nd kd c (gPick g cn q) (.returned (.tuple #[])) (w.drewN nq)) := hid (fun h1 nq => by rw [h1]; exact ⟨rfl, hP.drewN nq, hD.drewN nq, .ofBelow (below_drewN (Below.refl w.heap.size w) nq)⟩)
  have hin := in_yes gb c.now c.A c.n c.k c.B c.m c.d g (some ⟨gd, 0, none⟩) nd kd c.E c.ne c.ke (cn : Int) w hP (by omega)
  have HIN := hid hin
  have HE : Hid (gPick g cn q = if g.on && q then gReport g cn else if !g.on && decide (g.dn < g.ak) then gBegin g else g) := hid rfl
  clear hin hD hP hdn hcp
  obtain ⟨now, A, n, k, B, m, d, E, ne, ke⟩ := c
  obtain ⟨nd', dn, ak, on⟩ := g
  go_enter Tryz.func125, Tryz.ntmps125
  go_wp2_with fail
  refine HIN.out.mono ?_
  rintro e w1 ⟨rfl, rfl⟩
  clear HIN
  obtain ⟨y00, y01, y02, y03, y04, y05, y06, y07, yf0⟩ := P.out.cells8
  rcases on with _ | _
  · skip
    go_upto_region 3 with fail
    by_cases hak : dn < ak
    · skip
      have d1 : decide (dn < ak) = true := decide_eq_true hak
      have HAK := hid hak
      clear hak
      have hpk := HE.out
      simp only [Bool.false_and, Bool.false_eq_true, if_false, Bool.not_false, Bool.true_and, d1, if_true] at hpk
      have HPK := hid hpk
      clear hpk HE HP HR1
      go_quiet (fail)
      clear y00 y01 y02 y03 y04 y05 y06 y07 yf0
      go_wp2_with fail
      refine (HB1.out _).mono ?_
      rintro e w2 ⟨rfl, h1, h2, h3⟩
      go_wp2
      go_end0
      rw [HPK.out]
      exact ⟨rfl, h1, h2, (HDR.out _).trans h3⟩
    · skip
      have d1 : decide (dn < ak) = false := decide_eq_false hak
      have HAK := hid hak
      clear hak
      have hpk := HE.out
      simp only [Bool.false_and, Bool.false_eq_true, if_false, Bool.not_false, Bool.true_and, d1] at hpk
      have HF := hid (HP.out hpk)
      clear hpk HE HP HR1 HB1
      go_quiet (fail)
      clear y00 y01 y02 y03 y04 y05 y06 y07 yf0
      go_wp2
      go_end0
      exact HF.out _
  · skip
    rcases q with _ | _
    · skip
      go_upto_region 3 with fail
      have HF := hid (HP.out HE.out)
      go_quiet (fail)
      clear y00 y01 y02 y03 y04 y05 y06 y07 yf0
      go_wp2
      go_end0
      exact HF.out _
    · skip
      go_upto_region 2 with fail
      clear y00 y01 y02 y03 y04 y05 y06 y07 yf0
      have hpk := HE.out
      simp only [Bool.and_self, if_true] at hpk
      rw [hpk]
      clear hpk HE HP HB1
      go_wp2_with fail
      refine HR1.out.mono ?_
      rintro e w2 ⟨rfl, h1, h2, h3⟩
      go_wp2
      go_end0
      exact ⟨rfl, h1, h2, h3⟩
set_option maxRecDepth 100000 in
theorem pick_no (gb : Nat) (now : Int) (A : Option Addr) (n k : Nat) (B : Option Addr) (m d : Nat) (g : Gr) (D : Option Addr) (nd kd : Nat) (E : Option Addr) (ne ke : Nat) (c : Int) (q : Bool) (w : World) (P : Blk w gb 160 (bth now A n k B m d g D nd kd E ne ke)) (h : c < 0 ∨ (nd : Int) ≤ c) :
    Calls Tryz.prog 125 #[ptr gb, .int .i64 c, .bool q] w fun x w' => x = leaves 2 ∧ w' = w := by
  have HIN := hid (in_no gb now A n k B m d g D nd kd E ne ke c w P h)
  clear P h
  go_enter Tryz.func125, Tryz.ntmps125
  go_wp2_with fail
  refine HIN.out.mono ?_
  rintro e w1 ⟨rfl, rfl⟩
  unfold leaves
  go_wp2_with fail
  exact ⟨rfl, rfl, rfl⟩
theorem Ow.keptP {α : Type} {enc : α → Value} {w w' : World} {lo n c : Nat} {e : TypeId} {A : Option Addr} {xs : List α} {p : Nat → Prop} (h : Ow enc w lo e A n c xs) (k : GrownP p w w') (hp : ∀ a, A = some a → ¬ p a.block) : Ow enc w' lo e A n c xs :=
  h.same fun a ha => k.block _ (by obtain ⟨_, cs, hb⟩ := h.blk a ha; exact hb.lt) (hp a ha)
theorem Rown.keptP {w w' : World} {lo n c m d : Nat} {A B : Option Addr} {ns os : List Int} {p : Nat → Prop} (h : Rown w lo A n c B m d ns os) (k : GrownP p w w') (hp : ∀ a, A = some a ∨ B = some a → ¬ p a.block) : Rown w' lo A n c B m d ns os :=
  ⟨h.oa.keptP k (fun a ha => hp a (.inl ha)), h.ob.keptP k (fun a ha => hp a (.inr ha)), h.apart, h.hn, h.hm⟩
end Go.Proofs.YtfipdoofgbjbjaaGreat

/- package grace: asks. No condition but sizes. -/
namespace Go.Proofs.YtfipdoofgbjbjaaGreat
open Go.RowKit
attribute [local go_sem] Oper.semAt_some
set_option maxRecDepth 100000 in
theorem ask_no (gb : Nat) (now : Int) (A : Option Addr) (n k : Nat) (B : Option Addr) (m d : Nat) (g : Gr) (D : Option Addr) (nd kd : Nat) (E : Option Addr) (ne ke : Nat) (w : World) (P : Blk w gb 160 (bth now A n k B m d g D nd kd E ne ke)) (h : ¬ nextW g ≤ 2147483645) :
    Calls Tryz.prog 141 #[ptr gb] w fun x w' => x = leaves 6 ∧ Below w.heap.size w w' := by
  obtain ⟨N, hN⟩ : ∃ N, N = nextW g := ⟨_, rfl⟩
  have HN := hid hN
  rw [← hN] at h
  have HH := hid h
  obtain ⟨y0, y1, y2, y3, y4, y5, y6, y7, yf⟩ := P.cells8
  clear P hN h
  go_enter Tryz.func141, Tryz.ntmps141
  go_wp2_with fail
  clear y0 y1 y2 y3 y4 y5 y6 y7 yf
  refine (next_any g D nd kd w).mono ?_
  rintro x w1 ⟨rfl, hb⟩
  rw [← HN.out]
  have HB := hid hb
  have d1 : decide (N ≤ 2147483645) = false := decide_eq_false (by have := HH.out; omega)
  clear hb HH
  go_wp2_with fail
  refine (need_no 6 w1).mono ?_
  rintro x w2 ⟨rfl, rfl⟩
  unfold leaves
  go_wp2_with fail
  exact ⟨rfl, rfl, HB.out⟩
theorem GrownP.thenG {q : Nat → Prop} {row : Option Nat} {w a b : World} (h : GrownP q w a) (k : a.grownBy b row) (hr : ∀ r, row = some r → w.heap.size ≤ r ∨ q r) : GrownP q w b :=
  ⟨k.os.trans h.os, k.tape.trans h.tape, k.output.trans h.output, Nat.le_trans h.size k.size, fun i hi hq => (k.block i (Nat.lt_of_lt_of_le hi h.size) (fun e => by rcases hr i e.symm with h | h; omega; exact hq h)).trans (h.block i hi hq)⟩
end Go.Proofs.YtfipdoofgbjbjaaGreat

/- package grace: Ask and Pick, for a grace that may be; New. No condition but sizes. -/
namespace Go.Proofs.YtfipdoofgbjbjaaGreat
open Go.RowKit
attribute [local go_sem] Oper.semAt_some
theorem Ow.keptR {α : Type} {enc : α → Value} {w w' : World} {lo n c g : Nat} {e t : TypeId} {A : Option Addr} {xs : List α} {cs : Array Value} (h : Ow enc w lo e A n c xs) (hb : Blk w g t cs) (hne : t ≠ e) (hg : w.grownBy w' (some g)) : Ow enc w' lo e A n c xs :=
  h.keptG hg (fun a ha e => h.ne_blk hb hne a ha (Option.some.inj e))
theorem GrOk.wrap {g : Gr} (h : GrOk g) : wrap64 (g.dn + 1) = g.dn + 1 := by
  have := h.small
  unfold wrap64; omega
/-- a both with a grace alone -/
def GAt (W : World) (l gb : Nat) (g : Gr) : Prop := ∃ D kd, Blk W gb 160 (bth 0 none 0 0 none 0 0 g D g.nd.length kd none 0 0) ∧ Ow blv W l 4 D g.nd.length kd g.nd ∧ l ≤ gb
theorem GAt.set {W : World} {l gb : Nat} {g : Gr} (h : GAt W l gb g) {p : Addr} (hp : p.block < l) (u : Value) : GAt (W.setCell p u) l gb g := by
  obtain ⟨D, kd, h1, h2, h3⟩ := h
  exact ⟨D, kd, h1.far (by omega) u, h2.setCell hp u, h3⟩
theorem GAt.zero {W : World} {gn : Nat} (h : Blk W gn 160 bth0) (l : Nat) (hl : l ≤ gn) : GAt W l gn zGr := ⟨none, 0, h, Ow.nil _ _ _, hl⟩
/-- what Ask hands back: the error, the number, the grace -/
def gaskF (g : Gr) : Int × Int × Gr := if gNext g ≤ 2147483645 then (0, gNext g, gAsk g) else (6, 0, zGr)
def GAskPost (w : World) (r : Int × Int × Gr) (x : Ending) (w' : World) : Prop := ∃ D kd, x = .returned (.tuple #[gv r.2.2 D r.2.2.nd.length kd, .int .i64 r.2.1, .int .i64 r.1]) ∧ Ow blv w' w.heap.size 4 D r.2.2.nd.length kd r.2.2.nd ∧ Below w.heap.size w w'
set_option maxRecDepth 100000 in
set_option maxHeartbeats 4000000 in
theorem ask1_any (w1 : World) (gd gb gn hi : Nat) (g : Gr) (kd : Nat) (hgd : hi ≤ gd) (hgb : hi ≤ gb) (hne : gd ≠ gb) (hgn : gn < hi) (hP : Blk w1 gb 160 (bth 0 none 0 0 none 0 0 g (some ⟨gd, 0, none⟩) g.nd.length kd none 0 0))
    (hD : Ow blv w1 gd 4 (some ⟨gd, 0, none⟩) g.nd.length kd g.nd) (hN : Blk w1 gn 3 #[.int .i64 0]) (hg : GrOk g) :
    Calls Tryz.prog 140 #[ptr gb, ptr gn] w1 fun x w2 => GrownP (fun i => i = gn ∨ min gd gb ≤ i) w1 w2 ∧ ((x = .returned (.tuple #[]) ∧ (gaskF g).1 = 0 ∧ Blk w2 gn 3 #[.int .i64 (gaskF g).2.1] ∧ GAt w2 (min gd gb) gb (gaskF g).2.2) ∨ ∃ c, x = leaves c ∧ c = (gaskF g).1 ∧ c ≠ 0 ∧ Blk w2 gn 3 #[.int .i64 (gaskF g).2.1] ∧ (gaskF g).2.2 = zGr) := by
  unfold gaskF
  by_cases h0 : gNext g ≤ 2147483645
  · rw [if_pos h0]
    have ha := ask_yes gb 0 none 0 0 none 0 0 g (some ⟨gd, 0, none⟩) g.nd.length kd none 0 0 w1 hP (by rw [nextW_ok hg]; exact h0)
    rw [nextW_ok hg] at ha
    have HA := hid ha
    have P := hid hP; have D := hid hD; have PN := hid hN
    clear hP hD hN ha
    obtain ⟨N, hNN⟩ : ∃ N, N = gNext g := ⟨_, rfl⟩
    have HN := hid hNN
    rw [← hNN] at HA ⊢
    clear hNN h0
    go_enter Tryz.func140, Tryz.ntmps140
    go_wp2_with fail
    refine HA.out.mono ?_
    rintro e w3 ⟨rfl, w2, hb, rfl⟩
    have P2 := hid (P.out.step hb); have D2 := hid (D.out.step hb); have PN2 := hid (PN.out.step hb)
    have hlt := hid P.out.lt
    have P3 := hid (show Blk (w2.setCell ⟨gb, 4, none⟩ (.int .i64 (max g.ak N))) gb 160 (bth 0 none 0 0 none 0 0 (gAsk g) (some ⟨gd, 0, none⟩) g.nd.length kd none 0 0) by rw [show gAsk g = { g with ak := max g.ak N } by rw [HN.out]; rfl]; exact P2.out.setCell 4 _)
    have D3 := hid (D2.out.far (p := ⟨gb, 4, none⟩) hne (.int .i64 (max g.ak N)))
    have PN3 := hid (PN2.out.far (p := ⟨gb, 4, none⟩) (show gn ≠ gb by omega) (.int .i64 (max g.ak N)))
    have HG := hid ((GrownP.ofBelow (p := fun i => i = gn ∨ min gd gb ≤ i) hb).set (p := ⟨gb, 4, none⟩) (.inr (Nat.min_le_right _ _)) (.int .i64 (max g.ak N)))
    clear P P2 D D2 PN PN2 HA hb
    generalize w2.setCell ⟨gb, 4, none⟩ (.int .i64 (max g.ak N)) = W3 at *
    obtain ⟨y0, yf⟩ := PN3.out.cells1
    go_wp2_with fail
    clear y0 yf
    go_end0
    refine ⟨HG.out.set (p := ⟨gn, 0, none⟩) (.inl rfl) _, .inl ⟨by simp, by simp, PN3.out.setCell 0 _, ?_⟩⟩
    exact ⟨some ⟨gd, 0, none⟩, kd, P3.out.far (p := ⟨gn, 0, none⟩) (show gb ≠ gn by omega) _, (D3.out.far (p := ⟨gn, 0, none⟩) (show gd ≠ gn by omega) _).mono (Nat.min_le_left _ _), Nat.min_le_right _ _⟩
  · rw [if_neg h0]
    have ha := ask_no gb 0 none 0 0 none 0 0 g (some ⟨gd, 0, none⟩) g.nd.length kd none 0 0 w1 hP (by rw [nextW_ok hg]; exact h0)
    have HA := hid ha; have PN := hid hN
    clear hP hD hN ha h0
    go_enter Tryz.func140, Tryz.ntmps140
    go_wp2_with fail
    refine HA.out.mono ?_
    rintro e w2 ⟨rfl, hb⟩
    have HB := hid hb
    clear hb HA
    unfold leaves
    go_wp2_with fail
    exact ⟨rfl, .ofBelow HB.out, .inr ⟨6, rfl, by simp, by decide, PN.out.step HB.out, by simp⟩⟩
set_option maxRecDepth 100000 in
set_option maxHeartbeats 4000000 in
theorem gask_any (g : Gr) (D : Option Addr) (kd : Nat) (w : World) (hD : Sl blv false w 0 w.heap.size D g.nd.length g.nd) (hg : GrOk g) :
    Calls Tryz.prog 117 #[gv g D g.nd.length kd] w (GAskPost w (gaskF g)) := by
  obtain ⟨r, hr⟩ : ∃ r, r = gaskF g := ⟨_, rfl⟩
  have HRR := hid hr
  rw [← hr]
  have HD := hid hD; have HG := hid hg; have HB := hid (Below.refl w.heap.size w)
  clear hD hg hr
  have bx := below_box w (.cells (gcs g D g.nd.length kd) 27)
  replace HD := hid (HD.out.step bx); replace HB := hid (below_then HB.out bx)
  clear bx
  have PG := hid (Blk.new w 27 (gcs g D g.nd.length kd))
  have bx := below_box (w.alloc (.cells (gcs g D g.nd.length kd) 27)) (.cells #[.int .i64 0, .int .i64 0, .bool false, .slice none 0 0] 27)
  replace HD := hid (HD.out.step bx); replace PG := hid (PG.out.step bx); replace HB := hid (below_then HB.out bx)
  clear bx
  have ZG := hid (Blk.new2 w 27 #[.int .i64 0, .int .i64 0, .bool false, .slice none 0 0] (.cells (gcs g D g.nd.length kd) 27))
  have bx := below_box ((w.alloc (.cells (gcs g D g.nd.length kd) 27)).alloc (.cells #[.int .i64 0, .int .i64 0, .bool false, .slice none 0 0] 27)) (.cells #[.int .i64 0] 3)
  replace HD := hid (HD.out.step bx); replace PG := hid (PG.out.step bx); replace ZG := hid (ZG.out.step bx); replace HB := hid (below_then HB.out bx)
  clear bx
  have PN := hid (Blk.new3 w 3 #[.int .i64 0] (.cells (gcs g D g.nd.length kd) 27) (.cells #[.int .i64 0, .int .i64 0, .bool false, .slice none 0 0] 27))
  go_enter Tryz.func117, Tryz.ntmps117
  have hmf : ∀ (fn : Fn) (first cap : Array Value) (w : World), (Instr.makeFunc fn first cap).run Tryz.prog w = .ok (.func fn first cap) w := fun _ _ _ _ => rfl
  obtain ⟨y00, y01, y02, y03, yf0⟩ := PG.out.cells4
  obtain ⟨y10, yf1⟩ := PN.out.cells1
  go_wp2_with fail
  have hz0 := hid (show (((w.alloc (.cells (gcs g D g.nd.length kd) 27)).alloc (.cells #[.int .i64 0, .int .i64 0, .bool false, .slice none 0 0] 27)).alloc (.cells #[.int .i64 0] 3)).heap.size = w.heap.size + 3 by simp)
  generalize ((w.alloc (.cells (gcs g D g.nd.length kd) 27)).alloc (.cells #[.int .i64 0, .int .i64 0, .bool false, .slice none 0 0] 27)).alloc (.cells #[.int .i64 0] 3) = W0 at *
  have hszA := hz0
  clear y00 y01 y02 y03 yf0 y10 yf1 hmf hz0
  refine (tries_any g D g.nd.length kd 0 140 #[ptr (w.heap.size + 1 + 1)] (fun i => i = w.heap.size + 1 + 1) (fun l gb W => (gaskF g).1 = 0 ∧ Blk W (w.heap.size + 1 + 1) 3 #[.int .i64 (gaskF g).2.1] ∧ GAt W l gb (gaskF g).2.2) (fun c W => c = (gaskF g).1 ∧ c ≠ 0 ∧ Blk W (w.heap.size + 1 + 1) 3 #[.int .i64 (gaskF g).2.1] ∧ (gaskF g).2.2 = zGr) W0 (by rintro i rfl; have := hszA.out; omega) HD.out (by have := HG.out.2.1; omega) HG.out (enters_of Tryz.func140 (by kernel_rfl) rfl) ?_ ?_ ?_).mono ?_
  ·intro wc gd gb hgd hgb hne hbw hPb hDb
   refine (ask1_any wc gd gb (w.heap.size + 1 + 1) W0.heap.size g g.nd.length hgd hgb hne (by have := hszA.out; omega) hPb hDb (PN.out.step hbw) HG.out).mono ?_
   rintro x w2 ⟨hg2, hx⟩
   exact ⟨hg2, hx⟩
  ·rintro l gb W p u ⟨h0, h1, h2⟩ h3 h4
   exact ⟨h0, h1.far (by have := hszA.out; omega) u, h2.set h4 u⟩
  ·rintro c W W' ⟨h0, h1, h2, h3⟩ hb
   exact ⟨h0, h1, h2.below hb (by have := hszA.out; omega), h3⟩
  rintro x w2 ⟨hg2, hx⟩
  have hgp : ∃ gp, x = .returned (.tuple #[ptr gp, .int .i64 (gaskF g).1]) ∧ W0.heap.size ≤ gp ∧ GAt w2 W0.heap.size gp (gaskF g).2.2 ∧ Blk w2 (w.heap.size + 1 + 1) 3 #[.int .i64 (gaskF g).2.1] := by
    rcases hx with ⟨gb, rfl, l, hl1, hl2, h1, h2, D3, kd3, h3, h4, h5⟩ | ⟨gn, c, rfl, ⟨h1, h2, h3, h4⟩, h5, h6⟩
    · exact ⟨gb, by rw [h1], by omega, ⟨D3, kd3, h3, h4.mono hl1, by omega⟩, h2⟩
    · exact ⟨gn, by rw [h1], h5, by rw [h4]; exact GAt.zero h6 _ h5, h3⟩
  obtain ⟨gp, rfl, hgp1, ⟨D2, kd2, h1, h2, _⟩, hn2⟩ := hgp
  rw [← HRR.out] at h1 h2 hn2 ⊢
  have P2 := hid h1; have DO2 := hid h2; have PN2 := hid hn2; have HGP := hid hgp1
  have hszz := hid (show w.heap.size ≤ W0.heap.size by have := hszA.out; omega)
  have HB2 := hid (show Below w.heap.size w w2 from ⟨hg2.os.trans HB.out.os, hg2.tape.trans HB.out.tape, hg2.output.trans HB.out.output, Nat.le_trans HB.out.size hg2.size, fun i hi => (hg2.block i (Nat.lt_of_lt_of_le hi hszz.out) (by omega)).trans (HB.out.block i hi)⟩)
  replace ZG := hid (ZG.out.keptP hg2 (by simp))
  obtain ⟨rc, rn, rg⟩ := r
  clear hx h1 h2 hn2 hgp1 hg2 HB HD PN PG HRR HG
  dsimp only at P2 DO2 PN2 ⊢
  go_upto_region 3 with fail
  have bx := (Below.refl w2.heap.size w2).drew
  replace ZG := hid (ZG.out.step bx); replace P2 := hid (P2.out.step bx); replace DO2 := hid (DO2.out.step bx); replace PN2 := hid (PN2.out.step bx); replace HB2 := hid (below_then HB2.out bx)
  clear bx
  have hszd := hid (show w2.drew.heap.size = w2.heap.size from rfl)
  refine wp_region_noPanic ?_
  refine wp_region_held_drew (S := (fun W' : World => W'.cell? ⟨gp, 3, none⟩ = some (.int .i64 rg.dn) ∧ W'.cell? ⟨gp, 4, none⟩ = some (.int .i64 rg.ak) ∧ W'.cell? ⟨gp, 5, none⟩ = some (.bool rg.on) ∧ W'.cell? ⟨gp, 6, none⟩ = some (.slice D2 rg.nd.length kd2) ∧ W'.cell? ⟨(w.heap.size + 1 + 1), 0, none⟩ = some (.int .i64 rn))) (by kernel_rfl) ⟨P2.out.cells8.2.2.2.1, P2.out.cells8.2.2.2.2.1, P2.out.cells8.2.2.2.2.2.1, P2.out.cells8.2.2.2.2.2.2.1, PN2.out.cells1.1⟩ (fun hS => ?_)
  generalize w2.drew = Wd at *
  refine tk 0 hS ?_
  refine tk 1 hS ?_
  refine tk 2 hS ?_
  refine tk 3 hS ?_
  refine tk 4 hS ?_
  refine tk 5 hS ?_
  refine rdy [6] (csy (fun K hK => ?_) AllReadyH.nil)
  obtain ⟨y00, y01, y02, y03, yf0⟩ := ZG.out.cells4
  go_simp
  clear y00 y01 y02 y03 yf0
  refine named_store4 ZG.out ?_
  intro Ws6 hbk hgr hsz
  have hsz0 := hid hsz
  clear hsz
  replace P2 := hid (P2.out.grown hgr (by have := HGP.out; have := hszA.out; simp; omega)); replace PN2 := hid (PN2.out.grown hgr (by simp)); replace DO2 := hid (DO2.out.keptR ZG.out (by decide) hgr)
  replace HB2 := hid (HB2.out.grown hgr HB2.out.size (fun r e => by cases e; omega))
  replace ZG := hid hbk
  clear hbk hgr
  clear hS
  refine ky hK ⟨P2.out.cells8.2.2.2.1, P2.out.cells8.2.2.2.2.1, P2.out.cells8.2.2.2.2.2.1, P2.out.cells8.2.2.2.2.2.2.1, PN2.out.cells1.1⟩ fun hS => ?_
  clear hK K
  refine tk 7 hS ?_
  refine tk 8 hS ?_
  refine wpAnyH_done (by kernel_rfl) ?_ _
  refine NoPanic.normal ?_
  clear hS
  go_wp2
  obtain ⟨y00, y01, y02, y03, yf0⟩ := ZG.out.cells4
  refine bodyPost_ret (v := .tuple #[gv rg D2 rg.nd.length kd2, .int .i64 rn, .int .i64 rc]) (by simp [results, Tryz.results117, go_sem, y00, y01, y02, y03]) rfl ⟨D2, kd2, rfl, DO2.out.mono hszz.out, HB2.out⟩
/-- what Pick hands back: the error, the grace -/
def gpickF (g : Gr) (c : Int) (q : Bool) : Int × Gr := if 0 ≤ c ∧ c < (g.nd.length : Int) then (0, gPick g c.toNat q) else (2, zGr)
def GPickPost (w : World) (r : Int × Gr) (x : Ending) (w' : World) : Prop := ∃ D kd, x = .returned (.tuple #[gv r.2 D r.2.nd.length kd, .int .i64 r.1]) ∧ Ow blv w' w.heap.size 4 D r.2.nd.length kd r.2.nd ∧ Below w.heap.size w w'
set_option maxRecDepth 100000 in
set_option maxHeartbeats 4000000 in
theorem pick1_any (w1 : World) (gd gb gc gq hi : Nat) (g : Gr) (kd : Nat) (c : Int) (q : Bool) (hgd : hi ≤ gd) (hgb : hi ≤ gb) (hne : gd ≠ gb) (hP : Blk w1 gb 160 (bth 0 none 0 0 none 0 0 g (some ⟨gd, 0, none⟩) g.nd.length kd none 0 0))
    (hD : Ow blv w1 gd 4 (some ⟨gd, 0, none⟩) g.nd.length kd g.nd) (hc : Blk w1 gc 3 #[.int .i64 c]) (hq : Blk w1 gq 4 #[.bool q]) (hg : GrOk g) :
    Calls Tryz.prog 124 #[ptr gb, ptr gc, ptr gq] w1 fun x w2 => GrownP (fun i => min gd gb ≤ i) w1 w2 ∧ ((x = .returned (.tuple #[]) ∧ (gpickF g c q).1 = 0 ∧ GAt w2 (min gd gb) gb (gpickF g c q).2) ∨ ∃ e, x = leaves e ∧ e = (gpickF g c q).1 ∧ e ≠ 0 ∧ (gpickF g c q).2 = zGr) := by
  unfold gpickF
  by_cases h0 : 0 ≤ c ∧ c < (g.nd.length : Int)
  · rw [if_pos h0]
    have HA := hid (pick_yes gb gd gd g.nd.length kd c q ⟨0, none, 0, 0, none, 0, 0, none, 0, 0⟩ g w1 hP hD (fun e => hne e.symm) hg.2.1 h0 hg.wrap)
    have HLN := hid (gPick_len g c.toNat q)
    obtain ⟨y0, yf⟩ := hc.cells1
    obtain ⟨z0, zf⟩ := hq.cells1
    clear hP hD hc hq h0
    go_enter Tryz.func124, Tryz.ntmps124
    go_wp2_with fail
    refine HA.out.mono ?_
    rintro e w2 ⟨rfl, h1, h2, h3⟩
    have H1 := hid h1; have H2 := hid h2; have H3 := hid h3
    clear h1 h2 h3 y0 yf z0 zf
    go_wp2_with fail
    go_end0
    refine ⟨H3.out.mono (fun i hi => by rcases hi with rfl | rfl; exact Nat.min_le_right _ _; exact Nat.min_le_left _ _), .inl ⟨by simp, by simp, ?_⟩⟩
    exact ⟨some ⟨gd, 0, none⟩, kd, by rw [HLN.out]; exact H1.out, by rw [HLN.out]; exact H2.out.mono (Nat.min_le_left _ _), Nat.min_le_right _ _⟩
  · rw [if_neg h0]
    have HA := hid (pick_no gb 0 none 0 0 none 0 0 g (some ⟨gd, 0, none⟩) g.nd.length kd none 0 0 c q w1 hP (by omega))
    obtain ⟨y0, yf⟩ := hc.cells1
    obtain ⟨z0, zf⟩ := hq.cells1
    clear hP hD hc hq h0
    go_enter Tryz.func124, Tryz.ntmps124
    go_wp2_with fail
    refine HA.out.mono ?_
    rintro e w2 ⟨rfl, rfl⟩
    unfold leaves
    go_wp2_with fail
    exact ⟨rfl, .refl _ _, .inr ⟨2, rfl, by simp, by decide, by simp⟩⟩
set_option maxRecDepth 100000 in
set_option maxHeartbeats 4000000 in
theorem gpick_any (g : Gr) (D : Option Addr) (kd : Nat) (c : Int) (q : Bool) (w : World) (hD : Sl blv false w 0 w.heap.size D g.nd.length g.nd) (hg : GrOk g) :
    Calls Tryz.prog 83 #[gv g D g.nd.length kd, .int .i64 c, .bool q] w (GPickPost w (gpickF g c q)) := by
  obtain ⟨r, hr⟩ : ∃ r, r = gpickF g c q := ⟨_, rfl⟩
  have HRR := hid hr
  rw [← hr]
  have HD := hid hD; have HG := hid hg; have HB := hid (Below.refl w.heap.size w)
  clear hD hg hr
  have bx := below_box w (.cells (gcs g D g.nd.length kd) 27)
  replace HD := hid (HD.out.step bx); replace HB := hid (below_then HB.out bx)
  clear bx
  have PG := hid (Blk.new w 27 (gcs g D g.nd.length kd))
  have bx := below_box (w.alloc (.cells (gcs g D g.nd.length kd) 27)) (.cells #[.int .i64 c] 3)
  replace HD := hid (HD.out.step bx); replace PG := hid (PG.out.step bx); replace HB := hid (below_then HB.out bx)
  clear bx
  have PC := hid (Blk.new2 w 3 #[.int .i64 c] (.cells (gcs g D g.nd.length kd) 27))
  have bx := below_box ((w.alloc (.cells (gcs g D g.nd.length kd) 27)).alloc (.cells #[.int .i64 c] 3)) (.cells #[.bool q] 4)
  replace HD := hid (HD.out.step bx); replace PG := hid (PG.out.step bx); replace PC := hid (PC.out.step bx); replace HB := hid (below_then HB.out bx)
  clear bx
  have PQ := hid (Blk.new3 w 4 #[.bool q] (.cells (gcs g D g.nd.length kd) 27) (.cells #[.int .i64 c] 3))
  have bx := below_box (((w.alloc (.cells (gcs g D g.nd.length kd) 27)).alloc (.cells #[.int .i64 c] 3)).alloc (.cells #[.bool q] 4)) (.cells #[.int .i64 0, .int .i64 0, .bool false, .slice none 0 0] 27)
  replace HD := hid (HD.out.step bx); replace PG := hid (PG.out.step bx); replace PC := hid (PC.out.step bx); replace PQ := hid (PQ.out.step bx); replace HB := hid (below_then HB.out bx)
  clear bx
  have ZG := hid (Blk.new4 w 27 #[.int .i64 0, .int .i64 0, .bool false, .slice none 0 0] (.cells (gcs g D g.nd.length kd) 27) (.cells #[.int .i64 c] 3) (.cells #[.bool q] 4))
  go_enter Tryz.func83, Tryz.ntmps83
  have hmf : ∀ (fn : Fn) (first cap : Array Value) (w : World), (Instr.makeFunc fn first cap).run Tryz.prog w = .ok (.func fn first cap) w := fun _ _ _ _ => rfl
  obtain ⟨y00, y01, y02, y03, yf0⟩ := PG.out.cells4
  go_wp2_with fail
  have hz0 := hid (show ((((w.alloc (.cells (gcs g D g.nd.length kd) 27)).alloc (.cells #[.int .i64 c] 3)).alloc (.cells #[.bool q] 4)).alloc (.cells #[.int .i64 0, .int .i64 0, .bool false, .slice none 0 0] 27)).heap.size = w.heap.size + 4 by simp)
  generalize (((w.alloc (.cells (gcs g D g.nd.length kd) 27)).alloc (.cells #[.int .i64 c] 3)).alloc (.cells #[.bool q] 4)).alloc (.cells #[.int .i64 0, .int .i64 0, .bool false, .slice none 0 0] 27) = W0 at *
  have hszA := hz0
  clear y00 y01 y02 y03 yf0 hmf hz0
  refine (tries_any g D g.nd.length kd 0 124 #[ptr (w.heap.size + 1), ptr (w.heap.size + 1 + 1)] (fun _ => False) (fun l gb W => (gpickF g c q).1 = 0 ∧ GAt W l gb (gpickF g c q).2) (fun e _ => e = (gpickF g c q).1 ∧ e ≠ 0 ∧ (gpickF g c q).2 = zGr) W0 (fun _ h => h.elim) HD.out (by have := HG.out.2.1; omega) HG.out (enters_of Tryz.func124 (by kernel_rfl) rfl) ?_ ?_ ?_).mono ?_
  ·intro wc gd gb hgd hgb hne hbw hPb hDb
   refine (pick1_any wc gd gb (w.heap.size + 1) (w.heap.size + 1 + 1) W0.heap.size g g.nd.length c q hgd hgb hne hPb hDb (PC.out.step hbw) (PQ.out.step hbw) HG.out).mono ?_
   rintro x w2 ⟨hg2, hx⟩
   exact ⟨hg2.mono (fun i hi => .inr hi), hx⟩
  ·rintro l gb W p u ⟨h0, h2⟩ h3 h4
   exact ⟨h0, h2.set h4 u⟩
  ·rintro e W W' h hb
   exact h
  rintro x w2 ⟨hg2, hx⟩
  have hgp : ∃ gp, x = .returned (.tuple #[ptr gp, .int .i64 (gpickF g c q).1]) ∧ W0.heap.size ≤ gp ∧ GAt w2 W0.heap.size gp (gpickF g c q).2 := by
    rcases hx with ⟨gb, rfl, l, hl1, hl2, h1, D3, kd3, h3, h4, h5⟩ | ⟨gn, e, rfl, ⟨h1, h2, h4⟩, h5, h6⟩
    · exact ⟨gb, by rw [h1], by omega, D3, kd3, h3, h4.mono hl1, by omega⟩
    · exact ⟨gn, by rw [h1], h5, by rw [h4]; exact GAt.zero h6 _ h5⟩
  obtain ⟨gp, rfl, hgp1, D2, kd2, h1, h2, _⟩ := hgp
  rw [← HRR.out] at h1 h2 ⊢
  have hb2 := hg2.toBelow
  have P2 := hid h1; have DO2 := hid h2; have HGP := hid hgp1
  have hszz := hid (show w.heap.size ≤ W0.heap.size by have := hszA.out; omega)
  replace HB := hid (below_then HB.out hb2); replace ZG := hid (ZG.out.step hb2)
  obtain ⟨rc, rg⟩ := r
  clear hx h1 h2 hgp1 hg2 hb2 HD PG PC PQ HRR HG
  dsimp only at P2 DO2 ⊢
  obtain ⟨y00, y01, y02, y03, y04, y05, y06, y07, yf0⟩ := P2.out.cells8
  obtain ⟨y10, y11, y12, y13, yf1⟩ := ZG.out.cells4
  go_wp2_with fail
  clear y00 y01 y02 y03 y04 y05 y06 y07 yf0 y10 y11 y12 y13 yf1
  have Z4 := hid (show Blk ((((w2.setCell ⟨w.heap.size + 1 + 1 + 1, 0, none⟩ (.int .i64 rg.dn)).setCell ⟨w.heap.size + 1 + 1 + 1, 1, none⟩ (.int .i64 rg.ak)).setCell ⟨w.heap.size + 1 + 1 + 1, 2, none⟩ (.bool rg.on)).setCell ⟨w.heap.size + 1 + 1 + 1, 3, none⟩ (.slice D2 rg.nd.length kd2)) (w.heap.size + 1 + 1 + 1) 27 #[.int .i64 rg.dn, .int .i64 rg.ak, .bool rg.on, .slice D2 rg.nd.length kd2] from (((ZG.out.setCell 0 _).setCell 1 _).setCell 2 _).setCell 3 _)
  obtain ⟨y00, y01, y02, y03, yf0⟩ := Z4.out.cells4
  have hgr := (grown_set (grown_set (grown_set (grown_set (World.grownBy.refl w2 (some (w.heap.size + 1 + 1 + 1))) 0 (.int .i64 rg.dn)) 1 (.int .i64 rg.ak)) 2 (.bool rg.on)) 3 (.slice D2 rg.nd.length kd2))
  refine bodyPost_ret (v := .tuple #[gv rg D2 rg.nd.length kd2, .int .i64 rc]) (by simp [results, Tryz.results83, go_sem, y00, y01, y02, y03]) rfl ⟨D2, kd2, rfl, (DO2.out.keptR ZG.out (by decide) hgr).mono hszz.out, HB.out.grown hgr HB.out.size (fun r e => by cases e; omega)⟩
end Go.Proofs.YtfipdoofgbjbjaaGreat

/- afterglowref12: Needed, Right, Same. No condition but sizes. -/
namespace Go.Proofs.YtfipdoofgbjbjaaGreat
open Go.RowKit
attribute [local go_sem] Oper.semAt_some
theorem below_succg {p : Nat → Prop} {k : Nat} (h : ∀ j, j < k → p j) (hk : p k) : ∀ j, j < k + 1 → p j := fun j hj => by
  rcases Nat.lt_or_eq_of_le (Nat.le_of_lt_succ hj) with h1 | h1
  · exact h j h1
  · exact h1 ▸ hk
/-- how many CPUs are needed -/
def ndN (nd : List Bool) : Nat := nd.countP id
theorem ndN_take {nd : List Bool} {j : Nat} (h : j < nd.length) : ndN (nd.take (j + 1)) = ndN (nd.take j) + (if nd[j]?.getD false then 1 else 0) := by
  unfold ndN
  rw [List.take_succ_eq_append_getElem h, List.countP_append, List.getElem?_eq_getElem h]
  simp [List.countP_cons]
theorem ndN_le (nd : List Bool) : ndN nd ≤ nd.length := List.countP_le_length
theorem gIdle_nd (nd : List Bool) : gIdle nd = decide (ndN nd = 0) := by
  rw [Bool.eq_iff_iff, decide_eq_true_eq]
  unfold gIdle ndN
  rw [List.countP_eq_zero, List.all_eq_true]
  constructor
  · exact fun h x hx => by have := h x hx; simpa using this
  · exact fun h x hx => by have := h x hx; simpa using this
theorem grOk_on {g : Gr} (h : g.on = true) : GrOk g ↔ (1 ≤ g.nd.length ∧ g.nd.length ≤ 8 ∧ 0 ≤ g.dn ∧ g.ak ≤ 2147483645) ∧ 0 < ndN g.nd ∧ g.dn < g.ak ∧ g.ak ≤ g.dn + 2 := by
  unfold GrOk gNext
  rw [h, gIdle_nd]
  simp only [if_true]
  constructor
  · rintro ⟨h1, h2, h3, h4, h5, h6, h7⟩
    have h8 : ndN g.nd ≠ 0 := by simpa using h7
    omega
  · rintro ⟨⟨h1, h2, h3, h4⟩, h5, h6, h7⟩
    have h8 : ndN g.nd ≠ 0 := by omega
    exact ⟨h1, h2, h3, by omega, h7, h4, by simp [h8]⟩
theorem grOk_off {g : Gr} (h : g.on = false) : GrOk g ↔ (1 ≤ g.nd.length ∧ g.nd.length ≤ 8 ∧ 0 ≤ g.dn ∧ g.ak ≤ 2147483645) ∧ ndN g.nd = 0 ∧ g.dn ≤ g.ak ∧ g.ak ≤ g.dn + 1 := by
  unfold GrOk gNext
  rw [h, gIdle_nd]
  simp only [Bool.false_eq_true, if_false]
  constructor
  · rintro ⟨h1, h2, h3, h4, h5, h6, h7⟩
    have h8 : ndN g.nd = 0 := by simpa using h7
    omega
  · rintro ⟨⟨h1, h2, h3, h4⟩, h5, h6, h7⟩
    exact ⟨h1, h2, h3, by omega, h7, h4, by simp [h5]⟩
instance {g : Gr} : Decidable (GrOk g) := by unfold GrOk; infer_instance
set_option maxRecDepth 100000 in
set_option maxHeartbeats 4000000 in
theorem rgneeded_any (g : Gr) (D : Option Addr) (n k : Nat) (w : World) (h : Sl blv false w 0 w.heap.size D n g.nd) (hn : n ≤ 1000000) :
    Calls Tryz.prog 70 #[gv g D n k] w fun e w' => e = .returned (.int .i64 (ndN g.nd)) ∧ Below w.heap.size w w' := by
  obtain ⟨nd, dn, ak, on⟩ := g
  have HR := hid h; have HB := hid (Below.refl w.heap.size w); have hl := hid h.len
  clear h
  have bx := below_box w (.cells #[.int .i64 dn, .int .i64 ak, .bool on, .slice D n k] 27)
  replace HR := hid (HR.out.step bx); replace HB := hid (below_then HB.out bx)
  clear bx
  have P := hid (Blk.new w 27 #[.int .i64 dn, .int .i64 ak, .bool on, .slice D n k])
  obtain ⟨y00, y01, y02, y03, yf0⟩ := P.out.cells4
  go_enter Tryz.func70, Tryz.ntmps70
  go_wp2_with fail
  clear y00 y01 y02 y03 yf0
  have hz0 := hid (show (w.alloc (.cells #[.int .i64 dn, .int .i64 ak, .bool on, .slice D n k] 27)).heap.size = w.heap.size + 1 by simp)
  generalize w.alloc (.cells #[.int .i64 dn, .int .i64 ak, .bool on, .slice D n k] 27) = W0 at *
  have HB0 := hid (Below.refl W0.heap.size W0)
  go_loopw [3, 9] (fun c i wr => ∃ j : Nat, j ≤ n ∧ i = .int .i64 j ∧ c = .int .i64 (ndN (nd.take j)) ∧ Below W0.heap.size W0 wr) (fun _ i _ => n - (intOf i).toNat)
  case atStart => exact ⟨0, Nat.zero_le _, rfl, rfl, HB0.out⟩
  case round =>
    obtain ⟨j, hj, rfl, rfl, hb⟩ := hrel
    have HBW := hid hb
    clear hb HB0
    by_cases hjn : j < n
    rotate_left
    · obtain rfl : j = n := by omega
      have hnn : ¬ ((j : Int) < (j : Int)) := by omega
      have he := hid (show ndN (nd.take j) = ndN nd by rw [List.take_of_length_le (by rw [hl.out]; exact Nat.le_refl _)])
      rw [he.out]
      clear he
      go_wp2
      go_ret
      exact ⟨rfl, below_then HB.out HBW.out⟩
    have hji : (j : Int) < (n : Int) := by omega
    obtain ⟨b, off, rfl, _, hbh, hc⟩ := (HR.out.below HBW.out (Nat.le_refl _)).row (by omega)
    have f0 := hc j hjn
    have hnt := ndN_take (nd := nd) (j := j) (by rw [hl.out]; exact hjn)
    obtain ⟨x, hx⟩ : ∃ x, x = nd[j]?.getD false := ⟨_, rfl⟩
    rw [← hx] at f0 hnt
    have hle : ndN (nd.take j) ≤ n := by have := ndN_le (nd.take j); rw [List.length_take] at this; omega
    have hw1 : IntKind.i64.wrap ((j : Int) + 1) = (j : Int) + 1 := by rw [IntKind.wrap_i64]; omega
    have hw2 : IntKind.i64.wrap ((ndN (nd.take j) : Int) + 1) = (ndN (nd.take j) : Int) + 1 := by rw [IntKind.wrap_i64]; omega
    have HNT := hid hnt
    clear hc hx hnt hle hbh
    cases x
    ·skip
     go_wp2
     go_roundw
     case rel => exact ⟨j + 1, by omega, by go_num, by rw [HNT.out]; simp, HBW.out⟩
     case measure => simp [intOf]; omega
    ·skip
     go_wp2
     go_roundw
     case rel => exact ⟨j + 1, by omega, by go_num, by rw [HNT.out]; simp, HBW.out⟩
     case measure => simp [intOf]; omega
set_option maxRecDepth 100000 in
set_option maxHeartbeats 4000000 in
theorem rgright_any (g : Gr) (D : Option Addr) (k : Nat) (w : World) (h : Sl blv false w 0 w.heap.size D g.nd.length g.nd) (hn : g.nd.length ≤ 1000000) :
    Calls Tryz.prog 31 #[gv g D g.nd.length k] w fun e w' => e = .returned (.bool (decide (GrOk g))) ∧ Below w.heap.size w w' := by
  obtain ⟨nd, dn, ak, on⟩ := g
  have HON := hid (grOk_on (g := ⟨nd, dn, ak, on⟩)); have HOFF := hid (grOk_off (g := ⟨nd, dn, ak, on⟩))
  obtain ⟨V, hV⟩ : ∃ V, V = decide (GrOk ⟨nd, dn, ak, on⟩) := ⟨_, rfl⟩
  have HV := hid hV
  rw [← hV]
  clear hV
  dsimp only at h hn HON HOFF ⊢
  have HR := hid h; have HB := hid (Below.refl w.heap.size w); have hnl := hid (ndN_le nd); have HNN := hid hn
  clear h hn
  obtain ⟨n, hnn⟩ : ∃ n, n = nd.length := ⟨_, rfl⟩
  rw [← hnn] at HON HOFF HR hnl HNN ⊢
  clear hnn
  have bx := below_box w (.cells #[.int .i64 dn, .int .i64 ak, .bool on, .slice D n k] 27)
  replace HR := hid (HR.out.step bx); replace HB := hid (below_then HB.out bx)
  clear bx
  have P := hid (Blk.new w 27 #[.int .i64 dn, .int .i64 ak, .bool on, .slice D n k])
  go_enter Tryz.func31, Tryz.ntmps31
  obtain ⟨y00, y01, y02, y03, yf0⟩ := P.out.cells4
  by_cases hP : 1 ≤ n ∧ n ≤ 8 ∧ 0 ≤ dn ∧ ak ≤ 2147483645
  rotate_left
  ·skip
   have HF := hid (show V = false by
     rw [HV.out]
     refine decide_eq_false fun h => hP ?_
     cases on with
     | true => exact ((HON.out rfl).1 h).1
     | false => exact ((HOFF.out rfl).1 h).1)
   have HP := hid hP
   clear hP
   go_wp2_with fail
   all_goals first
     | exact bodyPost_ret (v := .bool false) (by simp [results, Tryz.results31, go_sem]) rfl ⟨ret_bool HF.out.symm, HB.out⟩
     | (exfalso; apply HP.out; (try simp only [beq_iff_eq, beq_eq_false_iff_ne, bne_iff_ne, ne_eq, Bool.not_eq_true', Bool.not_eq_false', decide_eq_false_iff_not, decide_eq_true_eq, Bool.or_eq_true, Bool.and_eq_true, Bool.or_eq_false_iff] at *); omega)
  have hq1 : ¬ ((n : Int) < 1) := by omega
  have hq2 : ¬ ((8 : Int) < (n : Int)) := by omega
  have hq3 : ¬ (dn < 0) := by omega
  have hq4 : ¬ ((2147483645 : Int) < ak) := by omega
  have HP := hid hP
  clear hP
  cases on
  ·skip
   have HV2 := hid (show V = decide (ndN nd = 0 ∧ dn ≤ ak ∧ ak ≤ dn + 1) by rw [HV.out, decide_eq_decide, HOFF.out rfl]; exact ⟨fun h => h.2, fun h => ⟨HP.out, h⟩⟩)
   clear HV HON HOFF
   go_wp2_with fail
   clear hq1 hq2 hq3 hq4 y00 y01 y02 y03 yf0
   generalize w.alloc (.cells #[.int .i64 dn, .int .i64 ak, .bool false, .slice D n k] 27) = W0 at *
   have hgv : (Value.agg #[.int .i64 dn, .int .i64 ak, .bool false, .slice D n k]) = gv ⟨nd, dn, ak, false⟩ D n k := rfl
   refine (rgneeded_any ⟨nd, dn, ak, false⟩ D n k _ HR.out HNN.out).mono ?_
   rintro e w1 ⟨rfl, hb⟩
   replace HR := hid (HR.out.step hb); replace P := hid (P.out.step hb); replace HB := hid (below_then HB.out hb)
   clear hb hgv
   obtain ⟨N, hN⟩ : ∃ N, N = ndN nd := ⟨_, rfl⟩
   dsimp only
   rw [← hN] at HV2 ⊢
   clear hN hnl
   obtain ⟨y00, y01, y02, y03, yf0⟩ := P.out.cells4
   skip
   go_wp2_with fail
   all_goals
     refine bodyPost_ret (v := .bool V) ?_ rfl ⟨rfl, HB.out⟩
     rw [HV2.out]
     simp [results, Tryz.results31, go_sem]
   all_goals
     have hp := HP.out
     first
     | omega
     | (rw [Bool.eq_iff_iff]; simp only [Bool.and_eq_true, decide_eq_true_eq]; unfold wrap64; omega)
  ·skip
   have HV2 := hid (show V = decide (0 < ndN nd ∧ dn < ak ∧ ak ≤ dn + 2) by rw [HV.out, decide_eq_decide, HON.out rfl]; exact ⟨fun h => h.2, fun h => ⟨HP.out, h⟩⟩)
   clear HV HON HOFF
   go_wp2_with fail
   clear hq1 hq2 hq3 hq4 y00 y01 y02 y03 yf0
   generalize w.alloc (.cells #[.int .i64 dn, .int .i64 ak, .bool true, .slice D n k] 27) = W0 at *
   have hgv : (Value.agg #[.int .i64 dn, .int .i64 ak, .bool true, .slice D n k]) = gv ⟨nd, dn, ak, true⟩ D n k := rfl
   refine (rgneeded_any ⟨nd, dn, ak, true⟩ D n k _ HR.out HNN.out).mono ?_
   rintro e w1 ⟨rfl, hb⟩
   replace HR := hid (HR.out.step hb); replace P := hid (P.out.step hb); replace HB := hid (below_then HB.out hb)
   clear hb hgv
   obtain ⟨N, hN⟩ : ∃ N, N = ndN nd := ⟨_, rfl⟩
   dsimp only
   rw [← hN] at HV2 ⊢
   clear hN hnl
   obtain ⟨y00, y01, y02, y03, yf0⟩ := P.out.cells4
   skip
   go_wp2_with fail
   all_goals
     refine bodyPost_ret (v := .bool V) ?_ rfl ⟨rfl, HB.out⟩
     rw [HV2.out]
     simp [results, Tryz.results31, go_sem]
   all_goals
     have hp := HP.out
     first
     | omega
     | (rw [Bool.eq_iff_iff]; simp only [Bool.and_eq_true, decide_eq_true_eq]; unfold wrap64; omega)
/-- the same graces -/
def sameG (g h : Gr) : Bool := decide (g.dn = h.dn ∧ g.ak = h.ak ∧ g.on = h.on ∧ g.nd = h.nd)
set_option maxRecDepth 100000 in
set_option maxHeartbeats 4000000 in
theorem rgsame_any (g h : Gr) (D E : Option Addr) (k kk : Nat) (w : World) (hD : Sl blv false w 0 w.heap.size D g.nd.length g.nd) (hE : Sl blv false w 0 w.heap.size E h.nd.length h.nd) (hn : g.nd.length ≤ 1000000) (hm : h.nd.length ≤ 1000000) :
    Calls Tryz.prog 42 #[gv g D g.nd.length k, gv h E h.nd.length kk] w fun e w' => e = .returned (.bool (sameG g h)) ∧ Below w.heap.size w w' := by
  obtain ⟨nd, dn, ak, on⟩ := g
  obtain ⟨nd', dn', ak', on'⟩ := h
  dsimp only at hD hE hn hm ⊢
  obtain ⟨V, hV⟩ : ∃ V, V = sameG ⟨nd, dn, ak, on⟩ ⟨nd', dn', ak', on'⟩ := ⟨_, rfl⟩
  have HV := hid (show V = decide (dn = dn' ∧ ak = ak' ∧ on = on' ∧ nd = nd') from hV)
  rw [← hV]
  clear hV
  have HR := hid hD; have HT := hid hE; have HB := hid (Below.refl w.heap.size w); have HL := hid hD.len; have HL' := hid hE.len
  clear hD hE
  obtain ⟨n, hnn⟩ : ∃ n, n = nd.length := ⟨_, rfl⟩
  obtain ⟨m, hmm⟩ : ∃ n, n = nd'.length := ⟨_, rfl⟩
  rw [← hnn] at HR HL hn ⊢
  rw [← hmm] at HT HL' hm ⊢
  have HN := hid hnn; have HM := hid hmm
  clear hnn hmm
  have bx := below_box w (.cells #[.int .i64 dn, .int .i64 ak, .bool on, .slice D n k] 27)
  replace HR := hid (HR.out.step bx); replace HT := hid (HT.out.step bx); replace HB := hid (below_then HB.out bx)
  clear bx
  have P := hid (Blk.new w 27 #[.int .i64 dn, .int .i64 ak, .bool on, .slice D n k])
  have bx := below_box (w.alloc (.cells #[.int .i64 dn, .int .i64 ak, .bool on, .slice D n k] 27)) (.cells #[.int .i64 dn', .int .i64 ak', .bool on', .slice E m kk] 27)
  replace HR := hid (HR.out.step bx); replace HT := hid (HT.out.step bx); replace P := hid (P.out.step bx); replace HB := hid (below_then HB.out bx)
  clear bx
  have P2 := hid (Blk.new2 w 27 #[.int .i64 dn', .int .i64 ak', .bool on', .slice E m kk] (.cells #[.int .i64 dn, .int .i64 ak, .bool on, .slice D n k] 27))
  go_enter Tryz.func42, Tryz.ntmps42
  obtain ⟨y00, y01, y02, y03, yf0⟩ := P.out.cells4
  obtain ⟨y10, y11, y12, y13, yf1⟩ := P2.out.cells4
  by_cases h1 : dn = dn'
  rotate_left
  ·skip
   have HF := hid (show V = false by rw [HV.out]; exact decide_eq_false (fun h => h1 h.1))
   have ef : (dn != dn') = true := by simp; omega
   all_goals
     clear h1
     go_wp2_with fail
     exact bodyPost_ret (v := .bool false) (by simp [results, Tryz.results42, go_sem]) rfl ⟨ret_bool HF.out.symm, HB.out⟩
  subst h1
  have e0 : (dn != dn) = false := by simp
  by_cases h1 : ak = ak'
  rotate_left
  ·skip
   have HF := hid (show V = false by rw [HV.out]; exact decide_eq_false (fun h => h1 h.2.1))
   have ef : (ak != ak') = true := by simp; omega
   all_goals
     clear h1
     go_wp2_with fail
     exact bodyPost_ret (v := .bool false) (by simp [results, Tryz.results42, go_sem]) rfl ⟨ret_bool HF.out.symm, HB.out⟩
  subst h1
  have e1 : (ak != ak) = false := by simp
  by_cases h1 : on = on'
  rotate_left
  ·skip
   have HF := hid (show V = false by rw [HV.out]; exact decide_eq_false (fun h => h1 h.2.2.1))
   cases on <;> cases on' <;> first | exact absurd rfl h1 | skip
   all_goals
     clear h1
     go_wp2_with fail
     exact bodyPost_ret (v := .bool false) (by simp [results, Tryz.results42, go_sem]) rfl ⟨ret_bool HF.out.symm, HB.out⟩
  subst h1
  have e2 : (on != on) = false := by cases on <;> rfl
  by_cases h1 : n = m
  rotate_left
  ·skip
   have HF := hid (show V = false by rw [HV.out]; exact decide_eq_false (fun h => h1 (by rw [HN.out, HM.out, h.2.2.2])))
   have ef : ((n : Int) != (m : Int)) = true := by simp; omega
   all_goals
     clear h1
     go_wp2_with fail
     exact bodyPost_ret (v := .bool false) (by simp [results, Tryz.results42, go_sem]) rfl ⟨ret_bool HF.out.symm, HB.out⟩
  subst h1
  have e3 : ((n : Int) != (n : Int)) = false := by simp
  replace HV := hid (show V = decide (nd = nd') by rw [HV.out]; simp)
  go_wp2_with fail
  clear e0 e1 e2 e3 y00 y01 y02 y03 yf0 y10 y11 y12 y13 yf1
  generalize (w.alloc (.cells #[.int .i64 dn, .int .i64 ak, .bool on, .slice D n k] 27)).alloc (.cells #[.int .i64 dn, .int .i64 ak, .bool on, .slice E n kk] 27) = W0 at *
  have HB0 := hid (Below.refl W0.heap.size W0)
  go_loopw [38] (fun i wr => ∃ j : Nat, j ≤ n ∧ i = .int .i64 j ∧ Below W0.heap.size W0 wr ∧ ∀ i, i < j → nd[i]?.getD false = nd'[i]?.getD false) (fun i _ => n - (intOf i).toNat)
  case atStart => exact ⟨0, Nat.zero_le _, rfl, HB0.out, fun i hi => absurd hi (Nat.not_lt_zero _)⟩
  case round =>
    obtain ⟨j, hj, rfl, hb, hall⟩ := hrel
    have HBW := hid hb; have HA := hid hall
    clear hb hall HB0
    by_cases hjn : j < n
    rotate_left
    · obtain rfl : j = n := by omega
      have hnn : ¬ ((j : Int) < (j : Int)) := by omega
      have HF := hid (show V = true by rw [HV.out]; exact decide_eq_true (ext_getDg false HN.out.symm HM.out.symm HA.out))
      go_wp2
      go_ret
      exact ⟨ret_bool HF.out.symm, below_then HB.out HBW.out⟩
    have hji : (j : Int) < (n : Int) := by omega
    obtain ⟨b, off, rfl, _, hbh, hc⟩ := (HR.out.below HBW.out (Nat.le_refl _)).row (by omega)
    obtain ⟨b', off', rfl, _, hbh', hc'⟩ := (HT.out.below HBW.out (Nat.le_refl _)).row (by omega)
    have f0 := hc j hjn
    have f1 := hc' j hjn
    obtain ⟨x, hx⟩ : ∃ x, x = nd[j]?.getD false := ⟨_, rfl⟩
    obtain ⟨y, hy⟩ : ∃ y, y = nd'[j]?.getD false := ⟨_, rfl⟩
    rw [← hx] at f0
    rw [← hy] at f1
    have hw1 : IntKind.i64.wrap ((j : Int) + 1) = (j : Int) + 1 := by rw [IntKind.wrap_i64]; omega
    obtain ⟨y20, y21, y22, y23, yf2⟩ := (P2.out.step HBW.out).cells4
    have HX := hid hx; have HY := hid hy
    clear hc hc' hx hy hbh hbh'
    by_cases hxy : x = y
    rotate_left
    ·skip
     have HF := hid (show V = false by rw [HV.out]; exact decide_eq_false (fun h => hxy (by rw [HX.out, HY.out, h])))
     cases x <;> cases y <;> first | exact absurd rfl hxy | skip
     all_goals
       clear hxy
       go_wp2
       go_ret
       exact ⟨ret_bool HF.out.symm, below_then HB.out HBW.out⟩
    subst hxy
    have ef : (x != x) = false := by cases x <;> rfl
    go_wp2
    go_roundw
    case rel => exact ⟨j + 1, by omega, by go_num, HBW.out, below_succg HA.out (by rw [← HX.out, ← HY.out])⟩
    case measure => simp [intOf]; omega
end Go.Proofs.YtfipdoofgbjbjaaGreat

/- afterglowref12: Report, Begin, Pick. No condition but sizes. -/
namespace Go.Proofs.YtfipdoofgbjbjaaGreat
open Go.RowKit
attribute [local go_sem] Oper.semAt_some
/-- what comes of it: a grace of its own row -/
def GmPost (w : World) (g : Gr) (x : Ending) (w' : World) : Prop := ∃ D k, x = .returned (gv g D g.nd.length k) ∧ Ow blv w' w.heap.size 4 D g.nd.length k g.nd ∧ Below w.heap.size w w'
set_option maxRecDepth 100000 in
set_option maxHeartbeats 4000000 in
theorem rgreport_any (g : Gr) (D : Option Addr) (k cp : Nat) (w : World) (hD : Sl blv false w 0 w.heap.size D g.nd.length g.nd) (hn : g.nd.length ≤ 1000) (hcp : cp < g.nd.length) (hdn : 0 ≤ g.dn ∧ g.dn ≤ 2147483645) :
    Calls Tryz.prog 119 #[gv g D g.nd.length k, .int .i64 cp] w (GmPost w (gReport g cp)) := by
  obtain ⟨nd, dn, ak, on⟩ := g
  dsimp only at hD hn hcp hdn ⊢
  have HB := hid (Below.refl w.heap.size w); have HR := hid hD; have HN := hid hn; have HC := hid hcp; have HD := hid hdn
  clear hD hn hcp hdn
  obtain ⟨n, hnn⟩ : ∃ n, n = nd.length := ⟨_, rfl⟩
  rw [← hnn] at HR HN HC ⊢
  have HL := hid hnn
  clear hnn
  obtain ⟨i0, hi0, hz00, hz01, hz02⟩ := info_parts info_bool
  have bx := below_box w (.cells #[.int .i64 dn, .int .i64 ak, .bool on, .slice D n k] 27)
  replace HR := hid (HR.out.step bx); replace HB := hid (below_then HB.out bx)
  clear bx
  have P := hid (Blk.new w 27 #[.int .i64 dn, .int .i64 ak, .bool on, .slice D n k])
  have bx := below_box (w.alloc (.cells #[.int .i64 dn, .int .i64 ak, .bool on, .slice D n k] 27)) (.cells #[.int .i64 0, .int .i64 0, .bool false, .slice none 0 0] 27)
  replace HR := hid (HR.out.step bx); replace P := hid (P.out.step bx); replace HB := hid (below_then HB.out bx)
  clear bx
  have PZ := hid (Blk.new2 w 27 #[.int .i64 0, .int .i64 0, .bool false, .slice none 0 0] (.cells #[.int .i64 dn, .int .i64 ak, .bool on, .slice D n k] 27))
  go_enter Tryz.func119, Tryz.ntmps119
  obtain ⟨y00, y01, y02, y03, yf0⟩ := P.out.cells4
  obtain ⟨y10, y11, y12, y13, yf1⟩ := PZ.out.cells4
  go_upto_region 1 with fail
  clear y10 y11 y12 y13 yf1 y00 y01 y02 y03 yf0
  have hz0 := hid (show ((w.alloc (.cells #[.int .i64 dn, .int .i64 ak, .bool on, .slice D n k] 27)).alloc (.cells #[.int .i64 0, .int .i64 0, .bool false, .slice none 0 0] 27)).heap.size = w.heap.size + 2 by simp)
  generalize (w.alloc (.cells #[.int .i64 dn, .int .i64 ak, .bool on, .slice D n k] 27)).alloc (.cells #[.int .i64 0, .int .i64 0, .bool false, .slice none 0 0] 27) = W0 at *
  have bx := below_box W0 (.cells #[] 4)
  have HR0 := hid (HR.out.step bx); have P0 := hid (P.out.step bx)
  clear bx
  obtain ⟨y00, y01, y02, y03, yf0⟩ := P.out.cells4
  obtain ⟨y10, y11, y12, y13, yf1⟩ := P0.out.cells4
  have hn1 : 0 < n := by have := HC.out; omega
  go_upto_region 2 with (first | (at_builtin; refine wpList_appf blv false _ rfl _ _ 25 rfl 4 i0 _ 1 Tryz.underlying25 hi0 hz00 hz01 hz02 rfl 0 0 _ 0 0 [] rfl (Sl.nil _ _ _ _) 0 _ D n k nd rfl HR0.out hn1 (fun _ => rfl) (by omega) (by have := HN.out; simp only [maxLen]; omega) (by omega) (by have := HN.out; omega) W0.heap.size (by simp) ?_; intro c1 w1 how hb hsz; have HO := hid how; have HBB := hid hb; have HSZ := hid hsz; clear how hb hsz; simp only [Nat.zero_add, List.nil_append] at HO))
  clear hn1 y00 y01 y02 y03 yf0 y10 y11 y12 y13 yf1
  have HBW := hid (below_box W0 (.cells #[] 4) |> fun h => below_then h HBB.out)
  replace P := hid (P0.out.step HBB.out); replace HR := hid (HR0.out.step HBB.out)
  replace PZ := hid (PZ.out.step HBW.out)
  replace HB := hid (below_then HB.out HBW.out)
  clear P0 HR0 HBB
  have hz1 := hid (show w.heap.size + 2 ≤ W0.heap.size + 1 by have := hz0.out; omega)
  have hsz1 := hid (show (W0.alloc (.cells #[] 4)).heap.size = W0.heap.size + 1 by simp)
  rw [hsz1.out] at HO
  obtain ⟨ga, hga⟩ : ∃ ga, ga = W0.heap.size + 1 := ⟨_, rfl⟩
  rw [← hga] at HO hz1
  have hcn := HC.out
  have hci : (cp : Int) < (n : Int) := by omega
  obtain ⟨gx, hgx, hl1, hl2, f0, ff⟩ := HO.out.at_ false hcn
  cases hgx
  clear hl1 hl2
  rw [← hga]
  have HGA := hid hga
  clear hga
  go_upto_region 3 with fail
  clear f0 ff hcn hci
  have hgr := grown_set (World.grownBy.refl w1 (some ga)) cp (.bool false)
  replace HO := hid (show Ow blv (w1.setCell ⟨ga, cp, none⟩ (.bool false)) W0.heap.size 4 (some ⟨ga, 0, none⟩) n c1 (nd.set cp false) from HO.out.stored cp false)
  replace P := hid (P.out.grown hgr (by have := hz1.out; simp; omega)); replace PZ := hid (PZ.out.grown hgr (by have := hz1.out; simp; omega))
  replace HB := hid (HB.out.grown hgr HB.out.size (fun r e => by cases e; have := hz1.out; omega))
  clear hgr HR HBW
  generalize w1.setCell ⟨ga, cp, none⟩ (.bool false) = w2 at *
  obtain ⟨md, hmd⟩ : ∃ md, md = nd.set cp false := ⟨_, rfl⟩
  have HL2 := hid (show md.length = n by rw [hmd, List.length_set]; exact HL.out.symm)
  rw [← hmd] at HO
  have HMD := hid hmd
  clear hmd HL
  obtain ⟨y00, y01, y02, y03, yf0⟩ := P.out.cells4
  go_upto_region 4 with fail
  clear y00 y01 y02 y03 yf0
  have hbk0 : Blk (w2.setCell ⟨w.heap.size, 3, none⟩ (.slice (some ⟨ga, 0, none⟩) n c1)) (w.heap.size) 27 #[.int .i64 dn, .int .i64 ak, .bool on, .slice (some ⟨ga, 0, none⟩) n c1] := P.out.setCell 3 (.slice (some ⟨ga, 0, none⟩) n c1)
  have hgr : w2.grownBy (w2.setCell ⟨w.heap.size, 3, none⟩ (.slice (some ⟨ga, 0, none⟩) n c1)) (some (w.heap.size)) := (grown_set (World.grownBy.refl w2 (some (w.heap.size))) 3 (.slice (some ⟨ga, 0, none⟩) n c1))
  replace P := hid hbk0
  clear hbk0
  generalize w2.setCell ⟨w.heap.size, 3, none⟩ (.slice (some ⟨ga, 0, none⟩) n c1) = w3 at *
  replace PZ := hid (PZ.out.grown hgr (by simp)); replace HO := hid (HO.out.keptG hgr (fun a ha e => by cases ha; have := hz1.out; have := Option.some.inj e; dsimp only at this; omega))
  replace HB := hid (HB.out.grown hgr HB.out.size (fun r e => by cases e; exact Nat.le_refl _))
  clear hgr
  obtain ⟨y00, y01, y02, y03, yf0⟩ := P.out.cells4
  go_wp2_with fail
  clear y00 y01 y02 y03 yf0
  have hgv : (Value.agg #[.int .i64 dn, .int .i64 ak, .bool on, .slice (some ⟨ga, 0, none⟩) n c1]) = gv ⟨md, dn, ak, on⟩ (some ⟨ga, 0, none⟩) n c1 := rfl
  refine (rgneeded_any ⟨md, dn, ak, on⟩ (some ⟨ga, 0, none⟩) n c1 _ ((HO.out.sl (d := false)).mono (Nat.zero_le _) (Nat.le_refl _)) (by have := HN.out; omega)).mono ?_
  rintro e w4 ⟨rfl, hb⟩
  replace P := hid (P.out.step hb); replace PZ := hid (PZ.out.step hb); replace HO := hid (HO.out.step hb); replace HB := hid (below_then HB.out hb)
  clear hb hgv
  dsimp only
  by_cases h0 : ndN md = 0
  ·skip
   have hid0 := hid (show gReport ⟨nd, dn, ak, on⟩ cp = ⟨md, dn + 1, ak, false⟩ by unfold gReport; rw [← HMD.out, if_pos (by rw [gIdle_nd, decide_eq_true h0])])
   have e0 : ((ndN md : Int) == 0) = true := by simp; omega
   have hw1 : IntKind.i64.wrap (dn + 1) = dn + 1 := by have := HD.out; rw [IntKind.wrap_i64]; omega
   clear h0
   obtain ⟨y00, y01, y02, y03, yf0⟩ := P.out.cells4
   obtain ⟨y10, y11, y12, y13, yf1⟩ := PZ.out.cells4
   go_upto_region 6 with fail
   clear e0 hw1 y00 y01 y02 y03 yf0 y10 y11 y12 y13 yf1
   have HW2 := hid (show w.heap.size < w4.heap.size from P.out.lt); have HL9 := hid (show w.heap.size + 2 ≤ ga by have := hz1.out; omega)
   have hbk0 : Blk (w4.setCell ⟨w.heap.size, 0, none⟩ (.int .i64 (dn + 1))) (w.heap.size) 27 #[.int .i64 (dn + 1), .int .i64 ak, .bool on, .slice (some ⟨ga, 0, none⟩) n c1] := P.out.setCell 0 (.int .i64 (dn + 1))
   have hbk1 : Blk ((w4.setCell ⟨w.heap.size, 0, none⟩ (.int .i64 (dn + 1))).setCell ⟨w.heap.size, 2, none⟩ (.bool false)) (w.heap.size) 27 #[.int .i64 (dn + 1), .int .i64 ak, .bool false, .slice (some ⟨ga, 0, none⟩) n c1] := hbk0.setCell 2 (.bool false)
   have hgr : w4.grownBy ((w4.setCell ⟨w.heap.size, 0, none⟩ (.int .i64 (dn + 1))).setCell ⟨w.heap.size, 2, none⟩ (.bool false)) (some (w.heap.size)) := (grown_set (grown_set (World.grownBy.refl w4 (some (w.heap.size))) 0 (.int .i64 (dn + 1))) 2 (.bool false))
   replace P := hid hbk1
   clear hbk0 hbk1
   generalize (w4.setCell ⟨w.heap.size, 0, none⟩ (.int .i64 (dn + 1))).setCell ⟨w.heap.size, 2, none⟩ (.bool false) = w5 at *
   replace PZ := hid (PZ.out.grown hgr (by simp)); replace HO := hid (HO.out.keptG hgr (fun a ha e => by cases ha; have := HL9.out; have := Option.some.inj e; dsimp only at this; omega))
   replace HB := hid (HB.out.grown hgr HB.out.size (fun r e => by cases e; exact Nat.le_refl _))
   clear hgr
   obtain ⟨y00, y01, y02, y03, yf0⟩ := P.out.cells4
   obtain ⟨y10, y11, y12, y13, yf1⟩ := PZ.out.cells4
   go_wp2_with fail
   clear y00 y01 y02 y03 yf0 y10 y11 y12 y13 yf1
   have hbk0 : Blk (w5.setCell ⟨w.heap.size + 1, 0, none⟩ (.int .i64 (dn + 1))) (w.heap.size + 1) 27 #[.int .i64 (dn + 1), .int .i64 0, .bool false, .slice none 0 0] := PZ.out.setCell 0 (.int .i64 (dn + 1))
   have hbk1 : Blk ((w5.setCell ⟨w.heap.size + 1, 0, none⟩ (.int .i64 (dn + 1))).setCell ⟨w.heap.size + 1, 1, none⟩ (.int .i64 ak)) (w.heap.size + 1) 27 #[.int .i64 (dn + 1), .int .i64 ak, .bool false, .slice none 0 0] := hbk0.setCell 1 (.int .i64 ak)
   have hbk2 : Blk (((w5.setCell ⟨w.heap.size + 1, 0, none⟩ (.int .i64 (dn + 1))).setCell ⟨w.heap.size + 1, 1, none⟩ (.int .i64 ak)).setCell ⟨w.heap.size + 1, 2, none⟩ (.bool false)) (w.heap.size + 1) 27 #[.int .i64 (dn + 1), .int .i64 ak, .bool false, .slice none 0 0] := hbk1.setCell 2 (.bool false)
   have hbk3 : Blk ((((w5.setCell ⟨w.heap.size + 1, 0, none⟩ (.int .i64 (dn + 1))).setCell ⟨w.heap.size + 1, 1, none⟩ (.int .i64 ak)).setCell ⟨w.heap.size + 1, 2, none⟩ (.bool false)).setCell ⟨w.heap.size + 1, 3, none⟩ (.slice (some ⟨ga, 0, none⟩) n c1)) (w.heap.size + 1) 27 #[.int .i64 (dn + 1), .int .i64 ak, .bool false, .slice (some ⟨ga, 0, none⟩) n c1] := hbk2.setCell 3 (.slice (some ⟨ga, 0, none⟩) n c1)
   have hgr : w5.grownBy ((((w5.setCell ⟨w.heap.size + 1, 0, none⟩ (.int .i64 (dn + 1))).setCell ⟨w.heap.size + 1, 1, none⟩ (.int .i64 ak)).setCell ⟨w.heap.size + 1, 2, none⟩ (.bool false)).setCell ⟨w.heap.size + 1, 3, none⟩ (.slice (some ⟨ga, 0, none⟩) n c1)) (some (w.heap.size + 1)) := (grown_set (grown_set (grown_set (grown_set (World.grownBy.refl w5 (some (w.heap.size + 1))) 0 (.int .i64 (dn + 1))) 1 (.int .i64 ak)) 2 (.bool false)) 3 (.slice (some ⟨ga, 0, none⟩) n c1))
   replace PZ := hid hbk3
   clear hbk0 hbk1 hbk2 hbk3
   generalize (((w5.setCell ⟨w.heap.size + 1, 0, none⟩ (.int .i64 (dn + 1))).setCell ⟨w.heap.size + 1, 1, none⟩ (.int .i64 ak)).setCell ⟨w.heap.size + 1, 2, none⟩ (.bool false)).setCell ⟨w.heap.size + 1, 3, none⟩ (.slice (some ⟨ga, 0, none⟩) n c1) = w6 at *
   replace HO := hid (HO.out.keptG hgr (fun a ha e => by cases ha; have := HL9.out; have := Option.some.inj e; dsimp only at this; omega))
   replace HB := hid (HB.out.grown hgr HB.out.size (fun r e => by cases e; omega))
   clear hgr P
   obtain ⟨q0, q1, q2, q3, qf⟩ := PZ.out.cells4
   rw [hid0.out]
   refine bodyPost_ret (v := .agg #[.int .i64 (dn + 1), .int .i64 ak, .bool false, .slice (some ⟨ga, 0, none⟩) n c1]) (by simp [results, Tryz.results119, go_sem, q0, q1, q2, q3]) rfl ⟨some ⟨ga, 0, none⟩, c1, ?_, ?_, HB.out⟩
   ·show _ = Ending.returned (gv ⟨md, _, _, _⟩ _ md.length c1)
    rw [HL2.out]
   ·show Ow blv w6 w.heap.size _ _ md.length c1 md
    rw [HL2.out]
    exact HO.out.mono (by have := hz0.out; omega)
  ·skip
   have hid0 := hid (show gReport ⟨nd, dn, ak, on⟩ cp = ⟨md, dn, ak, on⟩ by unfold gReport; rw [← HMD.out, if_neg (by rw [gIdle_nd, decide_eq_false h0]; decide)])
   have e0 : ((ndN md : Int) == 0) = false := by simp; omega
   clear h0
   obtain ⟨y00, y01, y02, y03, yf0⟩ := P.out.cells4
   obtain ⟨y10, y11, y12, y13, yf1⟩ := PZ.out.cells4
   go_upto_region 6 with fail
   clear e0 y00 y01 y02 y03 yf0 y10 y11 y12 y13 yf1
   have HW2 := hid (show w.heap.size < w4.heap.size from P.out.lt); have HL9 := hid (show w.heap.size + 2 ≤ ga by have := hz1.out; omega)
   obtain ⟨y00, y01, y02, y03, yf0⟩ := P.out.cells4
   obtain ⟨y10, y11, y12, y13, yf1⟩ := PZ.out.cells4
   go_wp2_with fail
   clear y00 y01 y02 y03 yf0 y10 y11 y12 y13 yf1
   have hbk0 : Blk (w4.setCell ⟨w.heap.size + 1, 0, none⟩ (.int .i64 dn)) (w.heap.size + 1) 27 #[.int .i64 dn, .int .i64 0, .bool false, .slice none 0 0] := PZ.out.setCell 0 (.int .i64 dn)
   have hbk1 : Blk ((w4.setCell ⟨w.heap.size + 1, 0, none⟩ (.int .i64 dn)).setCell ⟨w.heap.size + 1, 1, none⟩ (.int .i64 ak)) (w.heap.size + 1) 27 #[.int .i64 dn, .int .i64 ak, .bool false, .slice none 0 0] := hbk0.setCell 1 (.int .i64 ak)
   have hbk2 : Blk (((w4.setCell ⟨w.heap.size + 1, 0, none⟩ (.int .i64 dn)).setCell ⟨w.heap.size + 1, 1, none⟩ (.int .i64 ak)).setCell ⟨w.heap.size + 1, 2, none⟩ (.bool on)) (w.heap.size + 1) 27 #[.int .i64 dn, .int .i64 ak, .bool on, .slice none 0 0] := hbk1.setCell 2 (.bool on)
   have hbk3 : Blk ((((w4.setCell ⟨w.heap.size + 1, 0, none⟩ (.int .i64 dn)).setCell ⟨w.heap.size + 1, 1, none⟩ (.int .i64 ak)).setCell ⟨w.heap.size + 1, 2, none⟩ (.bool on)).setCell ⟨w.heap.size + 1, 3, none⟩ (.slice (some ⟨ga, 0, none⟩) n c1)) (w.heap.size + 1) 27 #[.int .i64 dn, .int .i64 ak, .bool on, .slice (some ⟨ga, 0, none⟩) n c1] := hbk2.setCell 3 (.slice (some ⟨ga, 0, none⟩) n c1)
   have hgr : w4.grownBy ((((w4.setCell ⟨w.heap.size + 1, 0, none⟩ (.int .i64 dn)).setCell ⟨w.heap.size + 1, 1, none⟩ (.int .i64 ak)).setCell ⟨w.heap.size + 1, 2, none⟩ (.bool on)).setCell ⟨w.heap.size + 1, 3, none⟩ (.slice (some ⟨ga, 0, none⟩) n c1)) (some (w.heap.size + 1)) := (grown_set (grown_set (grown_set (grown_set (World.grownBy.refl w4 (some (w.heap.size + 1))) 0 (.int .i64 dn)) 1 (.int .i64 ak)) 2 (.bool on)) 3 (.slice (some ⟨ga, 0, none⟩) n c1))
   replace PZ := hid hbk3
   clear hbk0 hbk1 hbk2 hbk3
   generalize (((w4.setCell ⟨w.heap.size + 1, 0, none⟩ (.int .i64 dn)).setCell ⟨w.heap.size + 1, 1, none⟩ (.int .i64 ak)).setCell ⟨w.heap.size + 1, 2, none⟩ (.bool on)).setCell ⟨w.heap.size + 1, 3, none⟩ (.slice (some ⟨ga, 0, none⟩) n c1) = w6 at *
   replace HO := hid (HO.out.keptG hgr (fun a ha e => by cases ha; have := HL9.out; have := Option.some.inj e; dsimp only at this; omega))
   replace HB := hid (HB.out.grown hgr HB.out.size (fun r e => by cases e; omega))
   clear hgr P
   obtain ⟨q0, q1, q2, q3, qf⟩ := PZ.out.cells4
   rw [hid0.out]
   refine bodyPost_ret (v := .agg #[.int .i64 dn, .int .i64 ak, .bool on, .slice (some ⟨ga, 0, none⟩) n c1]) (by simp [results, Tryz.results119, go_sem, q0, q1, q2, q3]) rfl ⟨some ⟨ga, 0, none⟩, c1, ?_, ?_, HB.out⟩
   ·show _ = Ending.returned (gv ⟨md, _, _, _⟩ _ md.length c1)
    rw [HL2.out]
   ·show Ow blv w6 w.heap.size _ _ md.length c1 md
    rw [HL2.out]
    exact HO.out.mono (by have := hz0.out; omega)
set_option maxRecDepth 100000 in
set_option maxHeartbeats 4000000 in
theorem rgbegin_any (g : Gr) (D : Option Addr) (k : Nat) (w : World) (hn : g.nd.length ≤ 1000) :
    Calls Tryz.prog 120 #[gv g D g.nd.length k] w (GmPost w (gBegin g)) := by
  obtain ⟨nd, dn, ak, on⟩ := g
  dsimp only at hn ⊢
  have HB := hid (Below.refl w.heap.size w)
  obtain ⟨n, hnn⟩ : ∃ n, n = nd.length := ⟨_, rfl⟩
  rw [← hnn] at hn ⊢
  have HN := hid hn; have HL := hid hnn
  clear hnn hn
  obtain ⟨i0, hi0, hz00, hz01, hz02⟩ := info_parts info_bool
  have bx := below_box w (.cells #[.int .i64 dn, .int .i64 ak, .bool on, .slice D n k] 27)
  replace HB := hid (below_then HB.out bx)
  clear bx
  have P := hid (Blk.new w 27 #[.int .i64 dn, .int .i64 ak, .bool on, .slice D n k])
  have bx := below_box (w.alloc (.cells #[.int .i64 dn, .int .i64 ak, .bool on, .slice D n k] 27)) (.cells #[.int .i64 0, .int .i64 0, .bool false, .slice none 0 0] 27)
  replace P := hid (P.out.step bx); replace HB := hid (below_then HB.out bx)
  clear bx
  have PZ := hid (Blk.new2 w 27 #[.int .i64 0, .int .i64 0, .bool false, .slice none 0 0] (.cells #[.int .i64 dn, .int .i64 ak, .bool on, .slice D n k] 27))
  go_enter Tryz.func120, Tryz.ntmps120
  obtain ⟨y00, y01, y02, y03, yf0⟩ := P.out.cells4
  obtain ⟨y10, y11, y12, y13, yf1⟩ := PZ.out.cells4
  go_wp2_with fail
  clear y10 y11 y12 y13 yf1 y00 y01 y02 y03 yf0
  have hz0 := hid (show ((w.alloc (.cells #[.int .i64 dn, .int .i64 ak, .bool on, .slice D n k] 27)).alloc (.cells #[.int .i64 0, .int .i64 0, .bool false, .slice none 0 0] 27)).heap.size = w.heap.size + 2 by simp)
  generalize (w.alloc (.cells #[.int .i64 dn, .int .i64 ak, .bool on, .slice D n k] 27)).alloc (.cells #[.int .i64 0, .int .i64 0, .bool false, .slice none 0 0] 27) = W0 at *
  have HB0 := hid (Below.refl W0.heap.size W0)
  go_loopw [3, 7] (fun sl i wr => ∃ (j : Nat) (A : Option Addr) (c : Nat), j ≤ n ∧ i = .int .i64 j ∧ sl = .slice A j c ∧ Ow blv wr W0.heap.size 4 A j c (List.replicate j true) ∧ Below W0.heap.size W0 wr) (fun _ i _ => n - (intOf i).toNat)
  case atStart => exact ⟨0, none, 0, Nat.zero_le _, rfl, rfl, Ow.nil _ _ _, HB0.out⟩
  case round =>
    obtain ⟨j, A, c, hj, rfl, rfl, ho, hb⟩ := hrel
    have HO := hid ho; have HBW := hid hb
    clear ho hb HB0
    by_cases hjn : j < n
    rotate_left
    ·skip
     obtain rfl : j = n := by omega
     have hnn : ¬ ((j : Int) < (j : Int)) := by omega
     replace P := hid (P.out.step HBW.out); replace PZ := hid (PZ.out.step HBW.out); replace HB := hid (below_then HB.out HBW.out)
     have HWZ := hid (show w.heap.size + 2 ≤ W0.heap.size by have := hz0.out; omega)
     clear HBW
     obtain ⟨y00, y01, y02, y03, yf0⟩ := P.out.cells4
     go_upto_region 7 with fail
     clear y00 y01 y02 y03 yf0
     have hbk0 : Blk (wr.setCell ⟨w.heap.size, 3, none⟩ (.slice A j c)) (w.heap.size) 27 #[.int .i64 dn, .int .i64 ak, .bool on, .slice A j c] := P.out.setCell 3 (.slice A j c)
     have hbk1 : Blk ((wr.setCell ⟨w.heap.size, 3, none⟩ (.slice A j c)).setCell ⟨w.heap.size, 2, none⟩ (.bool true)) (w.heap.size) 27 #[.int .i64 dn, .int .i64 ak, .bool true, .slice A j c] := hbk0.setCell 2 (.bool true)
     have hgr : wr.grownBy ((wr.setCell ⟨w.heap.size, 3, none⟩ (.slice A j c)).setCell ⟨w.heap.size, 2, none⟩ (.bool true)) (some (w.heap.size)) := (grown_set (grown_set (World.grownBy.refl wr (some (w.heap.size))) 3 (.slice A j c)) 2 (.bool true))
     replace P := hid hbk1
     clear hbk0 hbk1
     generalize (wr.setCell ⟨w.heap.size, 3, none⟩ (.slice A j c)).setCell ⟨w.heap.size, 2, none⟩ (.bool true) = w3 at *
     replace PZ := hid (PZ.out.grown hgr (by simp)); replace HO := hid (HO.out.keptG hgr (fun a ha e => by have h1 := (HO.out.blk a ha).1; have := Option.some.inj e; have := HWZ.out; omega))
     replace HB := hid (HB.out.grown hgr HB.out.size (fun r e => by cases e; exact Nat.le_refl _))
     clear hgr
     obtain ⟨y00, y01, y02, y03, yf0⟩ := P.out.cells4
     obtain ⟨y10, y11, y12, y13, yf1⟩ := PZ.out.cells4
     go_wp2_with fail
     clear y00 y01 y02 y03 yf0 y10 y11 y12 y13 yf1
     have hbk0 : Blk (w3.setCell ⟨w.heap.size + 1, 0, none⟩ (.int .i64 dn)) (w.heap.size + 1) 27 #[.int .i64 dn, .int .i64 0, .bool false, .slice none 0 0] := PZ.out.setCell 0 (.int .i64 dn)
     have hbk1 : Blk ((w3.setCell ⟨w.heap.size + 1, 0, none⟩ (.int .i64 dn)).setCell ⟨w.heap.size + 1, 1, none⟩ (.int .i64 ak)) (w.heap.size + 1) 27 #[.int .i64 dn, .int .i64 ak, .bool false, .slice none 0 0] := hbk0.setCell 1 (.int .i64 ak)
     have hbk2 : Blk (((w3.setCell ⟨w.heap.size + 1, 0, none⟩ (.int .i64 dn)).setCell ⟨w.heap.size + 1, 1, none⟩ (.int .i64 ak)).setCell ⟨w.heap.size + 1, 2, none⟩ (.bool true)) (w.heap.size + 1) 27 #[.int .i64 dn, .int .i64 ak, .bool true, .slice none 0 0] := hbk1.setCell 2 (.bool true)
     have hbk3 : Blk ((((w3.setCell ⟨w.heap.size + 1, 0, none⟩ (.int .i64 dn)).setCell ⟨w.heap.size + 1, 1, none⟩ (.int .i64 ak)).setCell ⟨w.heap.size + 1, 2, none⟩ (.bool true)).setCell ⟨w.heap.size + 1, 3, none⟩ (.slice A j c)) (w.heap.size + 1) 27 #[.int .i64 dn, .int .i64 ak, .bool true, .slice A j c] := hbk2.setCell 3 (.slice A j c)
     have hgr : w3.grownBy ((((w3.setCell ⟨w.heap.size + 1, 0, none⟩ (.int .i64 dn)).setCell ⟨w.heap.size + 1, 1, none⟩ (.int .i64 ak)).setCell ⟨w.heap.size + 1, 2, none⟩ (.bool true)).setCell ⟨w.heap.size + 1, 3, none⟩ (.slice A j c)) (some (w.heap.size + 1)) := (grown_set (grown_set (grown_set (grown_set (World.grownBy.refl w3 (some (w.heap.size + 1))) 0 (.int .i64 dn)) 1 (.int .i64 ak)) 2 (.bool true)) 3 (.slice A j c))
     replace PZ := hid hbk3
     clear hbk0 hbk1 hbk2 hbk3
     generalize (((w3.setCell ⟨w.heap.size + 1, 0, none⟩ (.int .i64 dn)).setCell ⟨w.heap.size + 1, 1, none⟩ (.int .i64 ak)).setCell ⟨w.heap.size + 1, 2, none⟩ (.bool true)).setCell ⟨w.heap.size + 1, 3, none⟩ (.slice A j c) = w6 at *
     replace HO := hid (HO.out.keptG hgr (fun a ha e => by have h1 := (HO.out.blk a ha).1; have := Option.some.inj e; have := HWZ.out; omega))
     replace HB := hid (HB.out.grown hgr HB.out.size (fun r e => by cases e; omega))
     clear hgr P
     obtain ⟨q0, q1, q2, q3, qf⟩ := PZ.out.cells4
     have he : gBegin ⟨nd, dn, ak, on⟩ = ⟨List.replicate j true, dn, ak, true⟩ := by unfold gBegin; rw [HL.out]
     rw [he]
     refine bodyPost_ret (v := .agg #[.int .i64 dn, .int .i64 ak, .bool true, .slice A j c]) (by simp [results, Tryz.results120, go_sem, q0, q1, q2, q3]) rfl ⟨A, c, ?_, ?_, HB.out⟩
     ·show _ = Ending.returned (gv ⟨List.replicate j true, _, _, _⟩ _ (List.replicate j true).length c)
      rw [List.length_replicate]
     ·show Ow blv w6 w.heap.size _ _ (List.replicate j true).length c (List.replicate j true)
      rw [List.length_replicate]
      exact HO.out.mono (by have := hz0.out; omega)
    have hji : (j : Int) < (n : Int) := by omega
    have hw1 : IntKind.i64.wrap ((j : Int) + 1) = (j : Int) + 1 := by have := HN.out; rw [IntKind.wrap_i64]; omega
    have HO1 := hid (HO.out.step (below_box wr (.cells #[.bool true] 4)))
    have L1 := hid (Blk.new wr 4 #[.bool true])
    have hbs := HBW.out.size
    have hn16 := HN.out
    go_wp2_with (first | (at_builtin; refine wpList_app blv false _ rfl _ _ 25 rfl W0.heap.size 4 i0 _ 1 Tryz.underlying25 hi0 hz00 hz01 hz02 rfl A j c _ rfl HO1.out 0 _ (some ⟨wr.heap.size, 0, none⟩) 1 1 [true] rfl ((L1.out.ow (enc := blv) (xs := [true]) (lo := 0) rfl rfl (Nat.zero_le _) (by simp [maxLen])).sl (d := false)) (fun _ => rfl) (by simp only [maxLen]; omega) (by omega) (by simp; omega) ?_; intro A1 c1 w1 own1 hg1 hat1; have hrow := HO1.out.row_ge; have hb1 := hid ((below_then HBW.out (below_box wr (.cells #[.bool true] 4))).grown hg1 (by simp; omega) (fun r e => hrow r e)); have HO2 := hid own1; clear own1 hg1 hat1 hrow))
    go_roundw
    case rel => exact ⟨j + 1, A1, c1, by omega, by go_num, rfl, by rw [List.replicate_succ']; exact HO2.out, hb1.out⟩
    case measure => simp [intOf]; omega
/-- behind a pick: a row of its own, or all as it was -/
def GkPost (w : World) (g0 g : Gr) (D0 : Option Addr) (k0 : Nat) (x : Ending) (w' : World) : Prop := ∃ D k, x = .returned (gv g D g.nd.length k) ∧ (Ow blv w' w.heap.size 4 D g.nd.length k g.nd ∨ (g = g0 ∧ D = D0 ∧ k = k0)) ∧ Below w.heap.size w w'
set_option maxRecDepth 100000 in
set_option maxHeartbeats 4000000 in
theorem rgpick_any (g : Gr) (D : Option Addr) (k cp : Nat) (q : Bool) (w : World) (hD : Sl blv false w 0 w.heap.size D g.nd.length g.nd) (hn : g.nd.length ≤ 1000) (hcp : cp < g.nd.length) (hdn : 0 ≤ g.dn ∧ g.dn ≤ 2147483645) :
    Calls Tryz.prog 78 #[gv g D g.nd.length k, .int .i64 cp, .bool q] w (GkPost w g (gPick g cp q) D k) := by
  have HB := hid (Below.refl w.heap.size w); have HR := hid hD; have HN := hid hn; have HC := hid hcp; have HD := hid hdn
  clear hD hn hcp hdn
  obtain ⟨nd, dn, ak, on⟩ := g
  dsimp only at HR HN HC HD ⊢
  cases on
  ·skip
   by_cases hlt : dn < ak
   ·skip
    have d1 : decide (dn < ak) = true := decide_eq_true hlt
    have d2 : decide (ak > dn) = true := decide_eq_true hlt
    have bx := below_box w (.cells #[.int .i64 dn, .int .i64 ak, .bool false, .slice D nd.length k] 27)
    replace HR := hid (HR.out.step bx); replace HB := hid (below_then HB.out bx)
    clear bx
    have P := hid (Blk.new w 27 #[.int .i64 dn, .int .i64 ak, .bool false, .slice D nd.length k])
    have bx := below_box (w.alloc (.cells #[.int .i64 dn, .int .i64 ak, .bool false, .slice D nd.length k] 27)) (.cells #[.int .i64 0, .int .i64 0, .bool false, .slice none 0 0] 27)
    replace HR := hid (HR.out.step bx); replace P := hid (P.out.step bx); replace HB := hid (below_then HB.out bx)
    clear bx
    have PZ := hid (Blk.new2 w 27 #[.int .i64 0, .int .i64 0, .bool false, .slice none 0 0] (.cells #[.int .i64 dn, .int .i64 ak, .bool false, .slice D nd.length k] 27))
    go_enter Tryz.func78, Tryz.ntmps78
    obtain ⟨y00, y01, y02, y03, yf0⟩ := P.out.cells4
    obtain ⟨y10, y11, y12, y13, yf1⟩ := PZ.out.cells4
    have he := hid (show gPick ⟨nd, dn, ak, false⟩ cp q = gBegin ⟨nd, dn, ak, false⟩ by simp [gPick, hlt])
    go_wp2_with fail
    clear y00 y01 y02 y03 yf0 y10 y11 y12 y13 yf1
    have hz0 := hid (show ((w.alloc (.cells #[.int .i64 dn, .int .i64 ak, .bool false, .slice D nd.length k] 27)).alloc (.cells #[.int .i64 0, .int .i64 0, .bool false, .slice none 0 0] 27)).heap.size = w.heap.size + 2 by simp)
    generalize (w.alloc (.cells #[.int .i64 dn, .int .i64 ak, .bool false, .slice D nd.length k] 27)).alloc (.cells #[.int .i64 0, .int .i64 0, .bool false, .slice none 0 0] 27) = W0 at *
    refine (rgbegin_any ⟨nd, dn, ak, false⟩ D k W0 HN.out).mono ?_
    obtain ⟨g2, hg2⟩ : ∃ g2, g2 = gBegin ⟨nd, dn, ak, false⟩ := ⟨_, rfl⟩
    rw [← hg2] at he ⊢
    rintro x w1 ⟨D2, k2, rfl, ho, hb⟩
    have HO := hid (ho.mono (show w.heap.size + 2 ≤ _ by have := hz0.out; omega))
    replace PZ := hid (PZ.out.step hb); replace HB := hid (below_then HB.out hb)
    clear ho hb hg2 HR P
    obtain ⟨y00, y01, y02, y03, yf0⟩ := PZ.out.cells4
    go_wp2_with fail
    clear y00 y01 y02 y03 yf0
    have hbk0 : Blk (w1.setCell ⟨w.heap.size + 1, 0, none⟩ (.int .i64 g2.dn)) (w.heap.size + 1) 27 #[.int .i64 g2.dn, .int .i64 0, .bool false, .slice none 0 0] := PZ.out.setCell 0 (.int .i64 g2.dn)
    have hbk1 : Blk ((w1.setCell ⟨w.heap.size + 1, 0, none⟩ (.int .i64 g2.dn)).setCell ⟨w.heap.size + 1, 1, none⟩ (.int .i64 g2.ak)) (w.heap.size + 1) 27 #[.int .i64 g2.dn, .int .i64 g2.ak, .bool false, .slice none 0 0] := hbk0.setCell 1 (.int .i64 g2.ak)
    have hbk2 : Blk (((w1.setCell ⟨w.heap.size + 1, 0, none⟩ (.int .i64 g2.dn)).setCell ⟨w.heap.size + 1, 1, none⟩ (.int .i64 g2.ak)).setCell ⟨w.heap.size + 1, 2, none⟩ (.bool g2.on)) (w.heap.size + 1) 27 #[.int .i64 g2.dn, .int .i64 g2.ak, .bool g2.on, .slice none 0 0] := hbk1.setCell 2 (.bool g2.on)
    have hbk3 : Blk ((((w1.setCell ⟨w.heap.size + 1, 0, none⟩ (.int .i64 g2.dn)).setCell ⟨w.heap.size + 1, 1, none⟩ (.int .i64 g2.ak)).setCell ⟨w.heap.size + 1, 2, none⟩ (.bool g2.on)).setCell ⟨w.heap.size + 1, 3, none⟩ (.slice D2 g2.nd.length k2)) (w.heap.size + 1) 27 #[.int .i64 g2.dn, .int .i64 g2.ak, .bool g2.on, .slice D2 g2.nd.length k2] := hbk2.setCell 3 (.slice D2 g2.nd.length k2)
    have hgr : w1.grownBy ((((w1.setCell ⟨w.heap.size + 1, 0, none⟩ (.int .i64 g2.dn)).setCell ⟨w.heap.size + 1, 1, none⟩ (.int .i64 g2.ak)).setCell ⟨w.heap.size + 1, 2, none⟩ (.bool g2.on)).setCell ⟨w.heap.size + 1, 3, none⟩ (.slice D2 g2.nd.length k2)) (some (w.heap.size + 1)) := (grown_set (grown_set (grown_set (grown_set (World.grownBy.refl w1 (some (w.heap.size + 1))) 0 (.int .i64 g2.dn)) 1 (.int .i64 g2.ak)) 2 (.bool g2.on)) 3 (.slice D2 g2.nd.length k2))
    replace PZ := hid hbk3
    clear hbk0 hbk1 hbk2 hbk3
    generalize (((w1.setCell ⟨w.heap.size + 1, 0, none⟩ (.int .i64 g2.dn)).setCell ⟨w.heap.size + 1, 1, none⟩ (.int .i64 g2.ak)).setCell ⟨w.heap.size + 1, 2, none⟩ (.bool g2.on)).setCell ⟨w.heap.size + 1, 3, none⟩ (.slice D2 g2.nd.length k2) = w2 at *
    replace HO := hid (HO.out.keptG hgr (fun a ha e => by have h1 := (HO.out.blk a ha).1; have := Option.some.inj e; omega))
    replace HB := hid (HB.out.grown hgr HB.out.size (fun r e => by cases e; omega))
    clear hgr
    obtain ⟨q0, q1, q2, q3, qf⟩ := PZ.out.cells4
    rw [he.out]
    refine bodyPost_ret (v := gv g2 D2 g2.nd.length k2) (by simp [results, Tryz.results78, go_sem, q0, q1, q2, q3]) rfl ⟨D2, k2, rfl, .inl (HO.out.mono (by omega)), HB.out⟩
   ·skip
    have d1 : decide (dn < ak) = false := decide_eq_false hlt
    have d2 : decide (ak > dn) = false := decide_eq_false hlt
    have bx := below_box w (.cells #[.int .i64 dn, .int .i64 ak, .bool false, .slice D nd.length k] 27)
    replace HR := hid (HR.out.step bx); replace HB := hid (below_then HB.out bx)
    clear bx
    have P := hid (Blk.new w 27 #[.int .i64 dn, .int .i64 ak, .bool false, .slice D nd.length k])
    have bx := below_box (w.alloc (.cells #[.int .i64 dn, .int .i64 ak, .bool false, .slice D nd.length k] 27)) (.cells #[.int .i64 0, .int .i64 0, .bool false, .slice none 0 0] 27)
    replace HR := hid (HR.out.step bx); replace P := hid (P.out.step bx); replace HB := hid (below_then HB.out bx)
    clear bx
    have PZ := hid (Blk.new2 w 27 #[.int .i64 0, .int .i64 0, .bool false, .slice none 0 0] (.cells #[.int .i64 dn, .int .i64 ak, .bool false, .slice D nd.length k] 27))
    go_enter Tryz.func78, Tryz.ntmps78
    obtain ⟨y00, y01, y02, y03, yf0⟩ := P.out.cells4
    obtain ⟨y10, y11, y12, y13, yf1⟩ := PZ.out.cells4
    have he := hid (show gPick ⟨nd, dn, ak, false⟩ cp q = ⟨nd, dn, ak, false⟩ by simp [gPick, hlt])
    go_wp2_with fail
    clear y00 y01 y02 y03 yf0 y10 y11 y12 y13 yf1
    clear P PZ HB HR
    obtain ⟨q0, q1, q2, q3, qf⟩ := (Blk.new2 w 27 #[.int .i64 dn, .int .i64 ak, .bool false, .slice D nd.length k] (.cells #[.int .i64 dn, .int .i64 ak, .bool false, .slice D nd.length k] 27)).cells4
    refine bodyPost_ret (v := .agg #[.int .i64 dn, .int .i64 ak, .bool false, .slice D nd.length k]) (by simp [results, Tryz.results78, go_sem, q0, q1, q2, q3]) rfl ⟨D, k, by rw [he.out], .inr ⟨he.out, rfl, rfl⟩, below_then (below_box w _) (below_box _ _)⟩
  ·skip
   cases q
   ·skip
    have bx := below_box w (.cells #[.int .i64 dn, .int .i64 ak, .bool true, .slice D nd.length k] 27)
    replace HR := hid (HR.out.step bx); replace HB := hid (below_then HB.out bx)
    clear bx
    have P := hid (Blk.new w 27 #[.int .i64 dn, .int .i64 ak, .bool true, .slice D nd.length k])
    have bx := below_box (w.alloc (.cells #[.int .i64 dn, .int .i64 ak, .bool true, .slice D nd.length k] 27)) (.cells #[.int .i64 0, .int .i64 0, .bool false, .slice none 0 0] 27)
    replace HR := hid (HR.out.step bx); replace P := hid (P.out.step bx); replace HB := hid (below_then HB.out bx)
    clear bx
    have PZ := hid (Blk.new2 w 27 #[.int .i64 0, .int .i64 0, .bool false, .slice none 0 0] (.cells #[.int .i64 dn, .int .i64 ak, .bool true, .slice D nd.length k] 27))
    go_enter Tryz.func78, Tryz.ntmps78
    obtain ⟨y00, y01, y02, y03, yf0⟩ := P.out.cells4
    obtain ⟨y10, y11, y12, y13, yf1⟩ := PZ.out.cells4
    have he := hid (show gPick ⟨nd, dn, ak, true⟩ cp false = ⟨nd, dn, ak, true⟩ by simp [gPick])
    go_wp2_with fail
    clear y00 y01 y02 y03 yf0 y10 y11 y12 y13 yf1
    clear P PZ HB HR
    obtain ⟨q0, q1, q2, q3, qf⟩ := (Blk.new2 w 27 #[.int .i64 dn, .int .i64 ak, .bool true, .slice D nd.length k] (.cells #[.int .i64 dn, .int .i64 ak, .bool true, .slice D nd.length k] 27)).cells4
    refine bodyPost_ret (v := .agg #[.int .i64 dn, .int .i64 ak, .bool true, .slice D nd.length k]) (by simp [results, Tryz.results78, go_sem, q0, q1, q2, q3]) rfl ⟨D, k, by rw [he.out], .inr ⟨he.out, rfl, rfl⟩, below_then (below_box w _) (below_box _ _)⟩
   ·skip
    have bx := below_box w (.cells #[.int .i64 dn, .int .i64 ak, .bool true, .slice D nd.length k] 27)
    replace HR := hid (HR.out.step bx); replace HB := hid (below_then HB.out bx)
    clear bx
    have P := hid (Blk.new w 27 #[.int .i64 dn, .int .i64 ak, .bool true, .slice D nd.length k])
    have bx := below_box (w.alloc (.cells #[.int .i64 dn, .int .i64 ak, .bool true, .slice D nd.length k] 27)) (.cells #[.int .i64 0, .int .i64 0, .bool false, .slice none 0 0] 27)
    replace HR := hid (HR.out.step bx); replace P := hid (P.out.step bx); replace HB := hid (below_then HB.out bx)
    clear bx
    have PZ := hid (Blk.new2 w 27 #[.int .i64 0, .int .i64 0, .bool false, .slice none 0 0] (.cells #[.int .i64 dn, .int .i64 ak, .bool true, .slice D nd.length k] 27))
    go_enter Tryz.func78, Tryz.ntmps78
    obtain ⟨y00, y01, y02, y03, yf0⟩ := P.out.cells4
    obtain ⟨y10, y11, y12, y13, yf1⟩ := PZ.out.cells4
    have he := hid (show gPick ⟨nd, dn, ak, true⟩ cp true = gReport ⟨nd, dn, ak, true⟩ cp by simp [gPick])
    go_wp2_with fail
    clear y00 y01 y02 y03 yf0 y10 y11 y12 y13 yf1
    have hz0 := hid (show ((w.alloc (.cells #[.int .i64 dn, .int .i64 ak, .bool true, .slice D nd.length k] 27)).alloc (.cells #[.int .i64 0, .int .i64 0, .bool false, .slice none 0 0] 27)).heap.size = w.heap.size + 2 by simp)
    generalize (w.alloc (.cells #[.int .i64 dn, .int .i64 ak, .bool true, .slice D nd.length k] 27)).alloc (.cells #[.int .i64 0, .int .i64 0, .bool false, .slice none 0 0] 27) = W0 at *
    refine (rgreport_any ⟨nd, dn, ak, true⟩ D k cp W0 HR.out HN.out HC.out HD.out).mono ?_
    obtain ⟨g2, hg2⟩ : ∃ g2, g2 = gReport ⟨nd, dn, ak, true⟩ cp := ⟨_, rfl⟩
    rw [← hg2] at he ⊢
    rintro x w1 ⟨D2, k2, rfl, ho, hb⟩
    have HO := hid (ho.mono (show w.heap.size + 2 ≤ _ by have := hz0.out; omega))
    replace PZ := hid (PZ.out.step hb); replace HB := hid (below_then HB.out hb)
    clear ho hb hg2 HR P
    obtain ⟨y00, y01, y02, y03, yf0⟩ := PZ.out.cells4
    go_wp2_with fail
    clear y00 y01 y02 y03 yf0
    have hbk0 : Blk (w1.setCell ⟨w.heap.size + 1, 0, none⟩ (.int .i64 g2.dn)) (w.heap.size + 1) 27 #[.int .i64 g2.dn, .int .i64 0, .bool false, .slice none 0 0] := PZ.out.setCell 0 (.int .i64 g2.dn)
    have hbk1 : Blk ((w1.setCell ⟨w.heap.size + 1, 0, none⟩ (.int .i64 g2.dn)).setCell ⟨w.heap.size + 1, 1, none⟩ (.int .i64 g2.ak)) (w.heap.size + 1) 27 #[.int .i64 g2.dn, .int .i64 g2.ak, .bool false, .slice none 0 0] := hbk0.setCell 1 (.int .i64 g2.ak)
    have hbk2 : Blk (((w1.setCell ⟨w.heap.size + 1, 0, none⟩ (.int .i64 g2.dn)).setCell ⟨w.heap.size + 1, 1, none⟩ (.int .i64 g2.ak)).setCell ⟨w.heap.size + 1, 2, none⟩ (.bool g2.on)) (w.heap.size + 1) 27 #[.int .i64 g2.dn, .int .i64 g2.ak, .bool g2.on, .slice none 0 0] := hbk1.setCell 2 (.bool g2.on)
    have hbk3 : Blk ((((w1.setCell ⟨w.heap.size + 1, 0, none⟩ (.int .i64 g2.dn)).setCell ⟨w.heap.size + 1, 1, none⟩ (.int .i64 g2.ak)).setCell ⟨w.heap.size + 1, 2, none⟩ (.bool g2.on)).setCell ⟨w.heap.size + 1, 3, none⟩ (.slice D2 g2.nd.length k2)) (w.heap.size + 1) 27 #[.int .i64 g2.dn, .int .i64 g2.ak, .bool g2.on, .slice D2 g2.nd.length k2] := hbk2.setCell 3 (.slice D2 g2.nd.length k2)
    have hgr : w1.grownBy ((((w1.setCell ⟨w.heap.size + 1, 0, none⟩ (.int .i64 g2.dn)).setCell ⟨w.heap.size + 1, 1, none⟩ (.int .i64 g2.ak)).setCell ⟨w.heap.size + 1, 2, none⟩ (.bool g2.on)).setCell ⟨w.heap.size + 1, 3, none⟩ (.slice D2 g2.nd.length k2)) (some (w.heap.size + 1)) := (grown_set (grown_set (grown_set (grown_set (World.grownBy.refl w1 (some (w.heap.size + 1))) 0 (.int .i64 g2.dn)) 1 (.int .i64 g2.ak)) 2 (.bool g2.on)) 3 (.slice D2 g2.nd.length k2))
    replace PZ := hid hbk3
    clear hbk0 hbk1 hbk2 hbk3
    generalize (((w1.setCell ⟨w.heap.size + 1, 0, none⟩ (.int .i64 g2.dn)).setCell ⟨w.heap.size + 1, 1, none⟩ (.int .i64 g2.ak)).setCell ⟨w.heap.size + 1, 2, none⟩ (.bool g2.on)).setCell ⟨w.heap.size + 1, 3, none⟩ (.slice D2 g2.nd.length k2) = w2 at *
    replace HO := hid (HO.out.keptG hgr (fun a ha e => by have h1 := (HO.out.blk a ha).1; have := Option.some.inj e; omega))
    replace HB := hid (HB.out.grown hgr HB.out.size (fun r e => by cases e; omega))
    clear hgr
    obtain ⟨q0, q1, q2, q3, qf⟩ := PZ.out.cells4
    rw [he.out]
    refine bodyPost_ret (v := gv g2 D2 g2.nd.length k2) (by simp [results, Tryz.results78, go_sem, q0, q1, q2, q3]) rfl ⟨D2, k2, rfl, .inl (HO.out.mono (by omega)), HB.out⟩
end Go.Proofs.YtfipdoofgbjbjaaGreat

/- afterglowref12: Next, Ask. No condition but sizes. -/
namespace Go.Proofs.YtfipdoofgbjbjaaGreat
open Go.RowKit
attribute [local go_sem] Oper.semAt_some
theorem rgnext_any (g : Gr) (D : Option Addr) (n k : Nat) (w : World) (hd : 0 ≤ g.dn ∧ g.dn ≤ 2147483645) :
    Calls Tryz.prog 77 #[.agg #[.int .i64 g.dn, .int .i64 g.ak, .bool g.on, .slice D n k]] w fun x w' => x = .returned (.int .i64 (gNext g)) ∧ Below w.heap.size w w' := by
  obtain ⟨nd, dn, ak, on⟩ := g
  dsimp only at hd ⊢
  have HD := hid hd
  have P := hid (Blk.new w 27 #[.int .i64 dn, .int .i64 ak, .bool on, .slice D n k])
  have HB := hid (below_box w (.cells #[.int .i64 dn, .int .i64 ak, .bool on, .slice D n k] 27))
  clear hd
  rcases on with _ | _
  · have hw1 : IntKind.i64.wrap (dn + 1) = dn + 1 := by have := HD.out; rw [IntKind.wrap_i64]; omega
    obtain ⟨y0, y1, y2, y3, yf⟩ := P.out.cells4
    go_enter Tryz.func77, Tryz.ntmps77
    go_wp2_with fail
    go_ret
    exact ⟨rfl, HB.out⟩
  · have hw1 : IntKind.i64.wrap (dn + 2) = dn + 2 := by have := HD.out; rw [IntKind.wrap_i64]; omega
    obtain ⟨y0, y1, y2, y3, yf⟩ := P.out.cells4
    go_enter Tryz.func77, Tryz.ntmps77
    go_wp2_with fail
    go_ret
    exact ⟨rfl, HB.out⟩
/-- what Ask hands back -/
def GaPost (w : World) (g : Gr) (D : Option Addr) (n k : Nat) (x : Ending) (w' : World) : Prop :=
  x = .returned (.tuple (if 2147483645 < gNext g then #[.agg #[.int .i64 0, .int .i64 0, .bool false, .slice none 0 0], .bool false] else #[.agg #[.int .i64 g.dn, .int .i64 (gAsk g).ak, .bool g.on, .slice D n k], .bool true])) ∧ Below w.heap.size w w'
set_option maxRecDepth 100000 in
set_option maxHeartbeats 4000000 in
theorem rgask_any (g : Gr) (D : Option Addr) (n k : Nat) (w : World) (hd : 0 ≤ g.dn ∧ g.dn ≤ 2147483645) :
    Calls Tryz.prog 75 #[.agg #[.int .i64 g.dn, .int .i64 g.ak, .bool g.on, .slice D n k]] w (GaPost w g D n k) := by
  have HB := hid (Below.refl w.heap.size w); have HD := hid hd
  clear hd
  obtain ⟨gn, hgn⟩ : ∃ gn, gn = gNext g := ⟨_, rfl⟩
  have HG := hid hgn
  unfold GaPost
  rw [← hgn]
  clear hgn
  have bx := below_box w (.cells #[.int .i64 g.dn, .int .i64 g.ak, .bool g.on, .slice D n k] 27)
  replace HB := hid (below_then HB.out bx)
  clear bx
  have P := hid (Blk.new w 27 #[.int .i64 g.dn, .int .i64 g.ak, .bool g.on, .slice D n k])
  have bx := below_box (w.alloc (.cells #[.int .i64 g.dn, .int .i64 g.ak, .bool g.on, .slice D n k] 27)) (.cells #[.int .i64 0, .int .i64 0, .bool false, .slice none 0 0] 27)
  replace P := hid (P.out.step bx); replace HB := hid (below_then HB.out bx)
  clear bx
  have PZ := hid (Blk.new2 w 27 #[.int .i64 0, .int .i64 0, .bool false, .slice none 0 0] (.cells #[.int .i64 g.dn, .int .i64 g.ak, .bool g.on, .slice D n k] 27))
  go_enter Tryz.func75, Tryz.ntmps75
  obtain ⟨y00, y01, y02, y03, yf0⟩ := P.out.cells4
  obtain ⟨y10, y11, y12, y13, yf1⟩ := PZ.out.cells4
  go_wp2_with fail
  clear y10 y11 y12 y13 yf1 y00 y01 y02 y03 yf0
  have hz0 := hid (show ((w.alloc (.cells #[.int .i64 g.dn, .int .i64 g.ak, .bool g.on, .slice D n k] 27)).alloc (.cells #[.int .i64 0, .int .i64 0, .bool false, .slice none 0 0] 27)).heap.size = w.heap.size + 2 by simp)
  generalize (w.alloc (.cells #[.int .i64 g.dn, .int .i64 g.ak, .bool g.on, .slice D n k] 27)).alloc (.cells #[.int .i64 0, .int .i64 0, .bool false, .slice none 0 0] 27) = W0 at *
  refine (rgnext_any g D n k W0 HD.out).mono ?_
  rw [← HG.out]
  rintro e w1 ⟨rfl, hb⟩
  replace P := hid (P.out.step hb); replace PZ := hid (PZ.out.step hb); replace HB := hid (below_then HB.out hb)
  clear hb
  rcases Decidable.em (2147483645 < gn) with hbig | hbig
  ·skip
   have hbg := decide_eq_true hbig
   obtain ⟨y00, y01, y02, y03, yf0⟩ := P.out.cells4
   obtain ⟨y10, y11, y12, y13, yf1⟩ := PZ.out.cells4
   go_wp2_with fail
   clear y10 y11 y12 y13 yf1 y00 y01 y02 y03 yf0
   have hbk0 : Blk (w1.setCell ⟨w.heap.size + 1, 0, none⟩ (.int .i64 0)) (w.heap.size + 1) 27 #[.int .i64 0, .int .i64 0, .bool false, .slice none 0 0] := PZ.out.setCell 0 (.int .i64 0)
   have hbk1 : Blk ((w1.setCell ⟨w.heap.size + 1, 0, none⟩ (.int .i64 0)).setCell ⟨w.heap.size + 1, 1, none⟩ (.int .i64 0)) (w.heap.size + 1) 27 #[.int .i64 0, .int .i64 0, .bool false, .slice none 0 0] := hbk0.setCell 1 (.int .i64 0)
   have hbk2 : Blk (((w1.setCell ⟨w.heap.size + 1, 0, none⟩ (.int .i64 0)).setCell ⟨w.heap.size + 1, 1, none⟩ (.int .i64 0)).setCell ⟨w.heap.size + 1, 2, none⟩ (.bool false)) (w.heap.size + 1) 27 #[.int .i64 0, .int .i64 0, .bool false, .slice none 0 0] := hbk1.setCell 2 (.bool false)
   have hbk3 : Blk ((((w1.setCell ⟨w.heap.size + 1, 0, none⟩ (.int .i64 0)).setCell ⟨w.heap.size + 1, 1, none⟩ (.int .i64 0)).setCell ⟨w.heap.size + 1, 2, none⟩ (.bool false)).setCell ⟨w.heap.size + 1, 3, none⟩ (.slice none 0 0)) (w.heap.size + 1) 27 #[.int .i64 0, .int .i64 0, .bool false, .slice none 0 0] := hbk2.setCell 3 (.slice none 0 0)
   have hgr : w1.grownBy ((((w1.setCell ⟨w.heap.size + 1, 0, none⟩ (.int .i64 0)).setCell ⟨w.heap.size + 1, 1, none⟩ (.int .i64 0)).setCell ⟨w.heap.size + 1, 2, none⟩ (.bool false)).setCell ⟨w.heap.size + 1, 3, none⟩ (.slice none 0 0)) (some (w.heap.size + 1)) := (grown_set (grown_set (grown_set (grown_set (World.grownBy.refl w1 (some (w.heap.size + 1))) 0 (.int .i64 0)) 1 (.int .i64 0)) 2 (.bool false)) 3 (.slice none 0 0))
   replace PZ := hid hbk3
   clear hbk0 hbk1 hbk2 hbk3
   generalize (((w1.setCell ⟨w.heap.size + 1, 0, none⟩ (.int .i64 0)).setCell ⟨w.heap.size + 1, 1, none⟩ (.int .i64 0)).setCell ⟨w.heap.size + 1, 2, none⟩ (.bool false)).setCell ⟨w.heap.size + 1, 3, none⟩ (.slice none 0 0) = w2 at *
   replace HB := hid (HB.out.grown hgr HB.out.size (fun r e => by cases e; omega))
   clear hgr
   obtain ⟨q0, q1, q2, q3, qf⟩ := PZ.out.cells4
   refine bodyPost_ret (v := .tuple #[.agg #[.int .i64 0, .int .i64 0, .bool false, .slice none 0 0], .bool false]) (by simp [results, Tryz.results75, go_sem, q0, q1, q2, q3]) rfl ⟨by first | rfl | rw [if_pos hbig], HB.out⟩
  have hbg := decide_eq_false hbig
  rcases Decidable.em (g.ak < gn) with hlt | hlt
  ·skip
   have HAK := hid (show (gAsk g).ak = gn by show max g.ak (gNext g) = gn; rw [← HG.out]; omega)
   have hd2 := decide_eq_true hlt
   obtain ⟨y00, y01, y02, y03, yf0⟩ := P.out.cells4
   go_upto_region 6 with fail
   clear y00 y01 y02 y03 yf0
   have hbk0 : Blk (w1.setCell ⟨w.heap.size, 1, none⟩ (.int .i64 gn)) (w.heap.size) 27 #[.int .i64 g.dn, .int .i64 gn, .bool g.on, .slice D n k] := P.out.setCell 1 (.int .i64 gn)
   have hgr : w1.grownBy (w1.setCell ⟨w.heap.size, 1, none⟩ (.int .i64 gn)) (some (w.heap.size)) := (grown_set (World.grownBy.refl w1 (some (w.heap.size))) 1 (.int .i64 gn))
   replace P := hid hbk0
   clear hbk0
   generalize w1.setCell ⟨w.heap.size, 1, none⟩ (.int .i64 gn) = w2 at *
   replace PZ := hid (PZ.out.grown hgr (by simp)); replace HB := hid (HB.out.grown hgr HB.out.size (fun r e => by cases e; omega))
   clear hgr
   obtain ⟨y00, y01, y02, y03, yf0⟩ := P.out.cells4
   obtain ⟨y10, y11, y12, y13, yf1⟩ := PZ.out.cells4
   go_wp2_with fail
   clear y10 y11 y12 y13 yf1 y00 y01 y02 y03 yf0
   have hbk0 : Blk (w2.setCell ⟨w.heap.size + 1, 0, none⟩ (.int .i64 g.dn)) (w.heap.size + 1) 27 #[.int .i64 g.dn, .int .i64 0, .bool false, .slice none 0 0] := PZ.out.setCell 0 (.int .i64 g.dn)
   have hbk1 : Blk ((w2.setCell ⟨w.heap.size + 1, 0, none⟩ (.int .i64 g.dn)).setCell ⟨w.heap.size + 1, 1, none⟩ (.int .i64 gn)) (w.heap.size + 1) 27 #[.int .i64 g.dn, .int .i64 gn, .bool false, .slice none 0 0] := hbk0.setCell 1 (.int .i64 gn)
   have hbk2 : Blk (((w2.setCell ⟨w.heap.size + 1, 0, none⟩ (.int .i64 g.dn)).setCell ⟨w.heap.size + 1, 1, none⟩ (.int .i64 gn)).setCell ⟨w.heap.size + 1, 2, none⟩ (.bool g.on)) (w.heap.size + 1) 27 #[.int .i64 g.dn, .int .i64 gn, .bool g.on, .slice none 0 0] := hbk1.setCell 2 (.bool g.on)
   have hbk3 : Blk ((((w2.setCell ⟨w.heap.size + 1, 0, none⟩ (.int .i64 g.dn)).setCell ⟨w.heap.size + 1, 1, none⟩ (.int .i64 gn)).setCell ⟨w.heap.size + 1, 2, none⟩ (.bool g.on)).setCell ⟨w.heap.size + 1, 3, none⟩ (.slice D n k)) (w.heap.size + 1) 27 #[.int .i64 g.dn, .int .i64 gn, .bool g.on, .slice D n k] := hbk2.setCell 3 (.slice D n k)
   have hgr : w2.grownBy ((((w2.setCell ⟨w.heap.size + 1, 0, none⟩ (.int .i64 g.dn)).setCell ⟨w.heap.size + 1, 1, none⟩ (.int .i64 gn)).setCell ⟨w.heap.size + 1, 2, none⟩ (.bool g.on)).setCell ⟨w.heap.size + 1, 3, none⟩ (.slice D n k)) (some (w.heap.size + 1)) := (grown_set (grown_set (grown_set (grown_set (World.grownBy.refl w2 (some (w.heap.size + 1))) 0 (.int .i64 g.dn)) 1 (.int .i64 gn)) 2 (.bool g.on)) 3 (.slice D n k))
   replace PZ := hid hbk3
   clear hbk0 hbk1 hbk2 hbk3
   generalize (((w2.setCell ⟨w.heap.size + 1, 0, none⟩ (.int .i64 g.dn)).setCell ⟨w.heap.size + 1, 1, none⟩ (.int .i64 gn)).setCell ⟨w.heap.size + 1, 2, none⟩ (.bool g.on)).setCell ⟨w.heap.size + 1, 3, none⟩ (.slice D n k) = w3 at *
   replace HB := hid (HB.out.grown hgr HB.out.size (fun r e => by cases e; omega))
   clear hgr
   obtain ⟨q0, q1, q2, q3, qf⟩ := PZ.out.cells4
   refine bodyPost_ret (v := .tuple #[.agg #[.int .i64 g.dn, .int .i64 gn, .bool g.on, .slice D n k], .bool true]) (by simp [results, Tryz.results75, go_sem, q0, q1, q2, q3]) rfl ⟨by first | rw [HAK.out] | (rw [if_neg (by omega), HAK.out]), HB.out⟩
  have HAK := hid (show (gAsk g).ak = g.ak by show max g.ak (gNext g) = g.ak; rw [← HG.out]; omega)
  have hd2 := decide_eq_false hlt
  obtain ⟨y00, y01, y02, y03, yf0⟩ := P.out.cells4
  obtain ⟨y10, y11, y12, y13, yf1⟩ := PZ.out.cells4
  go_wp2_with fail
  clear y10 y11 y12 y13 yf1 y00 y01 y02 y03 yf0
  have hbk0 : Blk (w1.setCell ⟨w.heap.size + 1, 0, none⟩ (.int .i64 g.dn)) (w.heap.size + 1) 27 #[.int .i64 g.dn, .int .i64 0, .bool false, .slice none 0 0] := PZ.out.setCell 0 (.int .i64 g.dn)
  have hbk1 : Blk ((w1.setCell ⟨w.heap.size + 1, 0, none⟩ (.int .i64 g.dn)).setCell ⟨w.heap.size + 1, 1, none⟩ (.int .i64 g.ak)) (w.heap.size + 1) 27 #[.int .i64 g.dn, .int .i64 g.ak, .bool false, .slice none 0 0] := hbk0.setCell 1 (.int .i64 g.ak)
  have hbk2 : Blk (((w1.setCell ⟨w.heap.size + 1, 0, none⟩ (.int .i64 g.dn)).setCell ⟨w.heap.size + 1, 1, none⟩ (.int .i64 g.ak)).setCell ⟨w.heap.size + 1, 2, none⟩ (.bool g.on)) (w.heap.size + 1) 27 #[.int .i64 g.dn, .int .i64 g.ak, .bool g.on, .slice none 0 0] := hbk1.setCell 2 (.bool g.on)
  have hbk3 : Blk ((((w1.setCell ⟨w.heap.size + 1, 0, none⟩ (.int .i64 g.dn)).setCell ⟨w.heap.size + 1, 1, none⟩ (.int .i64 g.ak)).setCell ⟨w.heap.size + 1, 2, none⟩ (.bool g.on)).setCell ⟨w.heap.size + 1, 3, none⟩ (.slice D n k)) (w.heap.size + 1) 27 #[.int .i64 g.dn, .int .i64 g.ak, .bool g.on, .slice D n k] := hbk2.setCell 3 (.slice D n k)
  have hgr : w1.grownBy ((((w1.setCell ⟨w.heap.size + 1, 0, none⟩ (.int .i64 g.dn)).setCell ⟨w.heap.size + 1, 1, none⟩ (.int .i64 g.ak)).setCell ⟨w.heap.size + 1, 2, none⟩ (.bool g.on)).setCell ⟨w.heap.size + 1, 3, none⟩ (.slice D n k)) (some (w.heap.size + 1)) := (grown_set (grown_set (grown_set (grown_set (World.grownBy.refl w1 (some (w.heap.size + 1))) 0 (.int .i64 g.dn)) 1 (.int .i64 g.ak)) 2 (.bool g.on)) 3 (.slice D n k))
  replace PZ := hid hbk3
  clear hbk0 hbk1 hbk2 hbk3
  generalize (((w1.setCell ⟨w.heap.size + 1, 0, none⟩ (.int .i64 g.dn)).setCell ⟨w.heap.size + 1, 1, none⟩ (.int .i64 g.ak)).setCell ⟨w.heap.size + 1, 2, none⟩ (.bool g.on)).setCell ⟨w.heap.size + 1, 3, none⟩ (.slice D n k) = w3 at *
  replace HB := hid (HB.out.grown hgr HB.out.size (fun r e => by cases e; omega))
  clear hgr
  obtain ⟨q0, q1, q2, q3, qf⟩ := PZ.out.cells4
  refine bodyPost_ret (v := .tuple #[.agg #[.int .i64 g.dn, .int .i64 g.ak, .bool g.on, .slice D n k], .bool true]) (by simp [results, Tryz.results75, go_sem, q0, q1, q2, q3]) rfl ⟨by first | rw [HAK.out] | (rw [if_neg (by omega), HAK.out]), HB.out⟩
end Go.Proofs.YtfipdoofgbjbjaaGreat

/- package queue: byPeriod, Check. No condition but sizes. -/
namespace Go.Proofs.YtfipdoofgbjbjaaGreat
open Go.RowKit
abbrev Cb := Int × Int
def encC (x : Cb) : Nat → Value
  | 0 => .int .u64 x.1
  | _ => .int .u64 x.2
abbrev qv (A : Option Addr) (n c : Nat) (o : Int) : Value := .agg #[.slice A n c, .int .u64 o]
abbrev qcs (A : Option Addr) (n c : Nat) (o : Int) : Array Value := #[.slice A n c, .int .u64 o]
abbrev cbv (p w : Int) : Value := .agg #[.int .u64 p, .int .u64 w]
theorem encC_one (y : Cb) (j : Nat) (_ : j < 2) : (encC y j).oneCell' = true := by
  unfold encC; split <;> rfl
theorem info_cb : (Tryz.prog.info? 60).map (fun i => (i.zero, i.size, i.bytes)) = some (some (.agg #[.int .u64 0, .int .u64 0]), 2, 16) := by kernel_rfl
def cmpZ (a b : Int) : Int := if a < b then -1 else if b < a then 1 else 0
def perAt (l : List Cb) (i : Nat) : Int := (l[i]?.getD (0, 0)).1
/-- may a queue be? -/
def QUp (l : List Cb) : Prop := ∀ k, k < l.length → 1 ≤ k → perAt l (k - 1) ≤ perAt l k
def QSoon (o : Int) (l : List Cb) : Prop := ∀ k, k < l.length → perAt l k ≤ o + 2
def QGood (o : Int) (l : List Cb) : Prop := o ≤ 9223372036854775806 ∧ l.length ≤ 16 ∧ QUp l ∧ QSoon o l
instance {l : List Cb} : Decidable (QUp l) := by unfold QUp; infer_instance
instance {o : Int} {l : List Cb} : Decidable (QSoon o l) := by unfold QSoon; infer_instance
instance {o : Int} {l : List Cb} : Decidable (QGood o l) := by unfold QGood; infer_instance
theorem isnan_any (a : Int) (w : World) : Calls Tryz.prog 138 #[.int .u64 a] w fun e w' => e = .returned (.bool false) ∧ w' = w := by
  go_enter Tryz.func138, Tryz.ntmps138
  go_wp2
  go_ret
  exact ⟨by simp, rfl⟩
theorem cmp_any (a b : Int) (w : World) : Calls Tryz.prog 127 #[.int .u64 a, .int .u64 b] w fun e w' => e = .returned (.int .i64 (cmpZ a b)) ∧ Below w.heap.size w w' := by
  have HC := hid (show cmpZ a b = if a < b then -1 else if b < a then 1 else 0 from rfl)
  go_enter Tryz.func127, Tryz.ntmps127
  go_wp2_with fail
  refine (isnan_any a w).mono ?_
  rintro e w' ⟨rfl, rfl⟩
  go_wp2_with fail
  refine (isnan_any b w').mono ?_
  rintro e w'' ⟨rfl, rfl⟩
  by_cases h1 : a < b
  · go_wp2
    go_ret
    exact ⟨ret_int (by rw [HC.out, if_pos h1]), Below.refl _ _⟩
  · by_cases h2 : b < a
    · go_wp2
      go_ret
      exact ⟨ret_int (by rw [HC.out, if_neg (by omega), if_pos h2]), Below.refl _ _⟩
    · go_wp2
      go_ret
      exact ⟨ret_int (by rw [HC.out, if_neg (by omega), if_neg (by omega)]), Below.refl _ _⟩
theorem period_any (a b : Cb) (w : World) : Calls Tryz.prog 92 #[cbv a.1 a.2, cbv b.1 b.2] w fun e w' => e = .returned (.int .i64 (cmpZ a.1 b.1)) ∧ Below w.heap.size w w' := by
  have HB := hid (Below.refl w.heap.size w)
  have bx := below_box w (.cells #[.int .u64 a.1, .int .u64 a.2] 60)
  replace HB := hid (below_then HB.out bx)
  clear bx
  have PA := hid (Blk.new w 60 #[.int .u64 a.1, .int .u64 a.2])
  have bx := below_box (w.alloc (.cells #[.int .u64 a.1, .int .u64 a.2] 60)) (.cells #[.int .u64 b.1, .int .u64 b.2] 60)
  replace PA := hid (PA.out.step bx); replace HB := hid (below_then HB.out bx)
  clear bx
  have PB := hid (Blk.new2 w 60 #[.int .u64 b.1, .int .u64 b.2] (.cells #[.int .u64 a.1, .int .u64 a.2] 60))
  obtain ⟨y00, y01, yf0⟩ := PA.out.cells2
  obtain ⟨y10, y11, yf1⟩ := PB.out.cells2
  go_enter Tryz.func92, Tryz.ntmps92
  go_wp2_with fail
  clear y00 y01 yf0 y10 y11 yf1
  refine (cmp_any a.1 b.1 _).mono ?_
  rintro e w1 ⟨rfl, hb⟩
  replace PA := hid (PA.out.step hb); replace PB := hid (PB.out.step hb); replace HB := hid (below_then HB.out hb)
  clear hb
  go_wp2
  go_ret
  exact ⟨rfl, HB.out⟩
set_option maxHeartbeats 1000000 in
theorem sorted_any (A : Option Addr) (n c lo hi : Nat) (xs : List Cb) (w : World) (h : Sm 2 encC (0, 0) w lo hi A n xs) (hhi : hi ≤ w.heap.size) (hn : n ≤ 1000000) :
    Calls Tryz.prog 91 #[.slice A n c, .func (.func 92) #[] #[]] w fun e w' => e = .returned (.bool (decide (QUp xs))) ∧ Below w.heap.size w w' := by
  have eg := enters_of Tryz.func92 (by kernel_rfl) rfl
  have HR := hid h
  have hl := hid h.len
  have hw0 : IntKind.i64.wrap ((n : Int) - 1) = (n : Int) - 1 := by rw [IntKind.wrap_i64]; omega
  clear h
  go_enter Tryz.func91, Tryz.ntmps91
  go_wp2_with fail
  go_loopw [5] (fun i wr => ∃ v : Int, i = .int .i64 v ∧ v < n ∧ Below w.heap.size w wr ∧ ∀ k, k < n → v < (k : Int) → 1 ≤ k → perAt xs (k - 1) ≤ perAt xs k) (fun i _ => (intOf i).toNat)
  case atStart => exact ⟨_, rfl, by omega, Below.refl _ _, fun k hk h1 => by omega⟩
  case round =>
    obtain ⟨v, rfl, hv, hbr, hall⟩ := hrel
    have HA := hid hall; have HB := hid hbr
    clear hall hbr
    by_cases h0 : 0 < v
    · obtain ⟨q, rfl⟩ : ∃ q : Nat, v = (q : Int) := ⟨v.toNat, by omega⟩
      obtain ⟨j, hj⟩ : ∃ j : Nat, q = j + 1 := ⟨q - 1, by omega⟩
      obtain ⟨b, off, rfl, _, hbh, hc⟩ := HR.out.row (by omega)
      have HC : Hid (∀ W, Below w.heap.size w W → ∀ q, q < n → W.cell? ⟨b, off + q * 2, none⟩ = some (.int .u64 (xs[q]?.getD (0, 0)).1) ∧ W.cell? ⟨b, off + q * 2 + 1, none⟩ = some (.int .u64 (xs[q]?.getD (0, 0)).2)) := hid (fun W hb q hq => ⟨(hb.cell (p := ⟨b, off + q * 2, none⟩) (by show b < _; omega)).trans (by have := hc q hq 0 (by omega); rwa [Nat.add_zero] at this), (hb.cell (p := ⟨b, off + q * 2 + 1, none⟩) (by show b < _; omega)).trans (hc q hq 1 (by omega))⟩)
      clear hc
      obtain ⟨x, hx⟩ : ∃ x, x = xs[q]?.getD (0, 0) := ⟨_, rfl⟩
      obtain ⟨y, hy⟩ : ∃ y, y = xs[j]?.getD (0, 0) := ⟨_, rfl⟩
      have HS : Hid (∀ W, Below w.heap.size w W → (W.cell? ⟨b, off + q * 2, none⟩ = some (.int .u64 x.1) ∧ W.cell? ⟨b, off + q * 2 + 1, none⟩ = some (.int .u64 x.2)) ∧ W.cell? ⟨b, off + j * 2, none⟩ = some (.int .u64 y.1) ∧ W.cell? ⟨b, off + j * 2 + 1, none⟩ = some (.int .u64 y.2)) := hid (fun W hb => by rw [hx, hy]; exact ⟨HC.out W hb q (by omega), HC.out W hb j (by omega)⟩)
      have HX : Hid (perAt xs q = x.1) := hid (by rw [hx]; rfl)
      have HY : Hid (perAt xs j = y.1) := hid (by rw [hy]; rfl)
      have hw1 : IntKind.i64.wrap ((q : Int) - 1) = (j : Int) := by rw [IntKind.wrap_i64]; omega
      have hjn : (j : Int) < (n : Int) := by omega
      have HJ := hid hj
      clear hx hy HC hj
      have HE := hid (show cmpZ x.1 y.1 = if x.1 < y.1 then -1 else if y.1 < x.1 then 1 else 0 from rfl)
      obtain ⟨⟨f0, f1⟩, f2, f3⟩ := HS.out wr HB.out
      go_wp2_with fail
      go_region_held3 (fun W => (W.cell? ⟨b, off + q * 2, none⟩ = some (.int .u64 x.1) ∧ W.cell? ⟨b, off + q * 2 + 1, none⟩ = some (.int .u64 x.2)) ∧ W.cell? ⟨b, off + j * 2, none⟩ = some (.int .u64 y.1) ∧ W.cell? ⟨b, off + j * 2 + 1, none⟩ = some (.int .u64 y.2))
        (first | (exact HS.out _ HB.out.drew) | (exact HS.out _ hq1))
        (first | (go_at_call 92; go_split_ands; (with_reducible refine (period_any x y wr.drew).mono ?_); rintro e w1 ⟨rfl, hb⟩; have hq1 := below_then HB.out.drew hb))
      have HB1 := hid hq1
      clear hb hq1 f0 f1 f2 f3
      by_cases hlt : x.1 < y.1
      · have e1 : cmpZ x.1 y.1 = -1 := by rw [HE.out, if_pos hlt]
        have HQ : Hid (decide (QUp xs) = false) := hid (decide_eq_false (fun h => by have := h q (by rw [hl.out]; omega) (by omega); rw [HX.out, show q - 1 = j by have := HJ.out; omega, HY.out] at this; omega))
        go_wp2
        go_ret
        exact ⟨ret_bool HQ.out.symm, HB1.out⟩
      · have e1 : cmpZ x.1 y.1 = 1 ∨ cmpZ x.1 y.1 = 0 := by rw [HE.out, if_neg hlt]; split <;> simp
        rcases e1 with e1 | e1
        all_goals
          go_wp2
          go_roundw
          case rel =>
            refine ⟨(j : Int), by go_num, hjn, HB1.out, fun k hk h1 h2 => ?_⟩
            by_cases hkq : k = q
            · subst hkq; rw [HX.out, show k - 1 = j by have := HJ.out; omega, HY.out]; omega
            · exact HA.out k hk (by have := HJ.out; omega) h2
          case measure => have := HJ.out; simp [intOf]; omega
    · have HQ : Hid (decide (QUp xs) = true) := hid (decide_eq_true (fun k hk h1 => HA.out k (by rw [← hl.out]; exact hk) (by omega) h1))
      go_wp2
      go_ret
      exact ⟨ret_bool HQ.out.symm, HB.out⟩
end Go.Proofs.YtfipdoofgbjbjaaGreat

/- package queue: Check. No condition but sizes. -/
namespace Go.Proofs.YtfipdoofgbjbjaaGreat
open Go.RowKit
/-- the two cells of an element -/
theorem Sm.cb {w : World} {lo hi b off n : Nat} {xs : List Cb} (hc : ∀ k, k < n → ∀ j, j < 2 → w.cell? ⟨b, off + k * 2 + j, none⟩ = some (encC (xs[k]?.getD (0, 0)) j)) {k : Nat} (hk : k < n) :
    w.cell? ⟨b, off + k * 2, none⟩ = some (.int .u64 (xs[k]?.getD (0, 0)).1) ∧ w.cell? ⟨b, off + k * 2 + 1, none⟩ = some (.int .u64 (xs[k]?.getD (0, 0)).2) :=
  ⟨by have := hc k hk 0 (by omega); rwa [Nat.add_zero] at this, hc k hk 1 (by omega)⟩
theorem late_any (p x : Int) (g : Nat) (A : Option Addr) (n c : Nat) (o : Int) (w : World) (h : Blk w g 58 (qcs A n c o)) (h0 : 0 ≤ o) (h1 : o ≤ 9223372036854775806) :
    Calls Tryz.prog 90 #[cbv p x, ptr g] w fun e w' => e = .returned (.bool (decide (o + 2 < p))) ∧ Below w.heap.size w w' := by
  have hw : IntKind.u64.wrap (o + 2) = o + 2 := by rw [IntKind.wrap_u64]; omega
  have PQ := hid h; have HB := hid (Below.refl w.heap.size w)
  clear h
  have bx := below_box w (.cells #[.int .u64 p, .int .u64 x] 60)
  replace PQ := hid (PQ.out.step bx); replace HB := hid (below_then HB.out bx)
  clear bx
  have PA := hid (Blk.new w 60 #[.int .u64 p, .int .u64 x])
  obtain ⟨y00, y01, yf0⟩ := PA.out.cells2
  obtain ⟨y10, y11, yf1⟩ := PQ.out.cells2
  go_enter Tryz.func90, Tryz.ntmps90
  go_wp2
  go_ret
  exact ⟨by simp, HB.out⟩
set_option maxHeartbeats 1000000 in
theorem index_any (A : Option Addr) (n c lo hi : Nat) (xs : List Cb) (g : Nat) (A' : Option Addr) (n' c' : Nat) (o : Int) (w : World) (h : Sm 2 encC (0, 0) w lo hi A n xs) (hhi : hi ≤ w.heap.size) (hn : n ≤ 1000000)
    (hP : Blk w g 58 (qcs A' n' c' o)) (h0 : 0 ≤ o) (h1 : o ≤ 9223372036854775806) :
    Calls Tryz.prog 128 #[.slice A n c, .func (.func 90) #[] #[ptr g]] w fun e w' => (∃ v, e = .returned (.int .i64 v) ∧ decide (0 ≤ v) = !decide (QSoon o xs)) ∧ Below w.heap.size w w' := by
  have eg := enters_of Tryz.func90 (by kernel_rfl) rfl
  have HR := hid h; have PQ := hid hP
  have hl := hid h.len
  clear h hP
  go_enter Tryz.func128, Tryz.ntmps128
  go_wp2_with fail
  go_loopw [5, 8] (fun _ i wr => ∃ j : Nat, j ≤ n ∧ i = .int .i64 j ∧ Below w.heap.size w wr ∧ ∀ k, k < j → perAt xs k ≤ o + 2) (fun _ i _ => n - (intOf i).toNat)
  case atStart => exact ⟨0, Nat.zero_le _, rfl, Below.refl _ _, fun k hk => absurd hk (Nat.not_lt_zero _)⟩
  case round =>
    obtain ⟨j, hj, rfl, hbr, hall⟩ := hrel
    have HA := hid hall; have HB := hid hbr
    clear hall hbr
    by_cases hjn : j < n
    · obtain ⟨b, off, rfl, _, hbh, hc⟩ := HR.out.row (by omega)
      obtain ⟨c0, c1⟩ := Sm.cb (lo := lo) (hi := hi) hc hjn
      have f0 := (HB.out.cell (p := ⟨b, off + j * 2, none⟩) (by show b < _; omega)).trans c0
      have f1 := (HB.out.cell (p := ⟨b, off + j * 2 + 1, none⟩) (by show b < _; omega)).trans c1
      obtain ⟨x, hx⟩ : ∃ x, x = xs[j]?.getD (0, 0) := ⟨_, rfl⟩
      rw [← hx] at f0 f1
      have HX : Hid (perAt xs j = x.1) := hid (by rw [hx]; rfl)
      clear hx hc c0 c1
      go_wp2_with fail
      clear f0 f1
      refine (late_any x.1 x.2 g A' n' c' o wr (PQ.out.step HB.out) h0 h1).mono ?_
      rintro e w1 ⟨rfl, hb⟩
      have HB1 := hid (below_then HB.out hb)
      clear hb
      by_cases hlt : o + 2 < x.1
      · have HQ : Hid (decide (QSoon o xs) = false) := hid (decide_eq_false (fun h => by have := h j (by rw [hl.out]; omega); rw [HX.out] at this; omega))
        have e1 : decide (o + 2 < x.1) = true := decide_eq_true hlt
        clear hlt
        go_wp2
        go_ret
        exact ⟨⟨_, rfl, by rw [HQ.out]; simp⟩, HB1.out⟩
      · have e1 : decide (o + 2 < x.1) = false := decide_eq_false hlt
        rw [e1]
        clear e1
        go_wp2
        go_roundw
        case rel =>
          refine ⟨j + 1, by omega, by go_num, HB1.out, fun k hk => ?_⟩
          by_cases hkq : k = j
          · subst hkq; rw [HX.out]; omega
          · exact HA.out k (by omega)
        case measure => simp [intOf]; omega
    · obtain rfl : j = n := by omega
      have HQ : Hid (decide (QSoon o xs) = true) := hid (decide_eq_true (fun k hk => HA.out k (by rw [← hl.out]; exact hk)))
      go_wp2
      go_ret
      exact ⟨⟨_, rfl, by rw [HQ.out]; simp⟩, HB.out⟩
theorem contains_any (A : Option Addr) (n c lo hi : Nat) (xs : List Cb) (g : Nat) (A' : Option Addr) (n' c' : Nat) (o : Int) (w : World) (h : Sm 2 encC (0, 0) w lo hi A n xs) (hhi : hi ≤ w.heap.size) (hn : n ≤ 1000000)
    (hP : Blk w g 58 (qcs A' n' c' o)) (h0 : 0 ≤ o) (h1 : o ≤ 9223372036854775806) :
    Calls Tryz.prog 93 #[.slice A n c, .func (.func 90) #[] #[ptr g]] w fun e w' => e = .returned (.bool (!decide (QSoon o xs))) ∧ Below w.heap.size w w' := by
  have HR := hid h; have PQ := hid hP
  clear h hP
  go_enter Tryz.func93, Tryz.ntmps93
  go_wp2_with fail
  refine (index_any A n c lo hi xs g A' n' c' o w HR.out hhi hn PQ.out h0 h1).mono ?_
  rintro e w' ⟨⟨v, rfl, hv⟩, hb⟩
  have HV := hid hv; have HB := hid hb
  clear hv hb
  go_wp2
  go_ret
  exact ⟨ret_bool HV.out, HB.out⟩
def qcheckC (o : Int) (l : List Cb) : Int := if QGood o l then 0 else 230
set_option maxHeartbeats 1000000 in
theorem qcheck_any (A : Option Addr) (n c : Nat) (o : Int) (xs : List Cb) (w : World) (h : Sm 2 encC (0, 0) w 0 w.heap.size A n xs) (hn : n ≤ 1000000) (h0 : 0 ≤ o) :
    Calls Tryz.prog 56 #[qv A n c o] w fun e w' => e = .returned (.int .i64 (qcheckC o xs)) ∧ Below w.heap.size w w' := by
  have NO : Hid (¬ QGood o xs → qcheckC o xs = 230) := hid (fun h => if_neg h)
  have YES : Hid (QGood o xs → qcheckC o xs = 0) := hid (fun h => if_pos h)
  have hl := hid h.len
  have HR := hid h; have HB := hid (Below.refl w.heap.size w)
  clear h
  have bx := below_box w (.cells (qcs A n c o) 58)
  replace HR := hid (HR.out.step bx); replace HB := hid (below_then HB.out bx)
  clear bx
  have PQ := hid (Blk.new w 58 (qcs A n c o))
  by_cases h1 : 9223372036854775806 < o
  · have E := hid (NO.out (fun h => by have := h.1; omega))
    obtain ⟨y00, y01, yf0⟩ := PQ.out.cells2
    go_enter Tryz.func56, Tryz.ntmps56
    go_wp2
    go_ret
    exact ⟨ret_int E.out.symm, HB.out⟩
  · by_cases h2 : 16 < n
    · have E := hid (NO.out (fun h => by have := h.2.1; have := hl.out; omega))
      have h2i : (16 : Int) < (n : Int) := by omega
      obtain ⟨y00, y01, yf0⟩ := PQ.out.cells2
      go_enter Tryz.func56, Tryz.ntmps56
      go_wp2
      go_ret
      exact ⟨ret_int E.out.symm, HB.out⟩
    · have h2i : ¬ (16 : Int) < (n : Int) := by omega
      obtain ⟨y00, y01, yf0⟩ := PQ.out.cells2
      go_enter Tryz.func56, Tryz.ntmps56
      go_wp2_with fail
      clear y00 y01 yf0
      refine (sorted_any A n c _ _ xs _ HR.out (Nat.le_refl _) hn).mono ?_
      rintro e w1 ⟨rfl, hb⟩
      replace HR := hid (HR.out.step hb); replace PQ := hid (PQ.out.step hb); replace HB := hid (below_then HB.out hb)
      clear hb
      by_cases h3 : QUp xs
      · rw [decide_eq_true h3]
        obtain ⟨y00, y01, yf0⟩ := PQ.out.cells2
        go_wp2_with fail
        clear y00 y01 yf0
        refine (contains_any A n c _ _ xs w.heap.size A n c o _ HR.out (Nat.le_refl _) hn PQ.out h0 (by omega)).mono ?_
        rintro e w2 ⟨rfl, hb⟩
        replace HR := hid (HR.out.step hb); replace PQ := hid (PQ.out.step hb); replace HB := hid (below_then HB.out hb)
        clear hb
        by_cases h4 : QSoon o xs
        · have E := hid (YES.out ⟨by omega, by rw [hl.out]; omega, h3, h4⟩)
          rw [decide_eq_true h4]
          clear h3 h4
          go_wp2
          go_ret
          exact ⟨ret_int E.out.symm, HB.out⟩
        · have E := hid (NO.out (fun h => h4 h.2.2.2))
          rw [decide_eq_false h4]
          clear h3 h4
          go_wp2
          go_ret
          exact ⟨ret_int E.out.symm, HB.out⟩
      · rw [decide_eq_false h3]
        have E := hid (NO.out (fun h => h3 h.2.2.1))
        clear h3
        go_wp2
        go_ret
        exact ⟨ret_int E.out.symm, HB.out⟩
end Go.Proofs.YtfipdoofgbjbjaaGreat
