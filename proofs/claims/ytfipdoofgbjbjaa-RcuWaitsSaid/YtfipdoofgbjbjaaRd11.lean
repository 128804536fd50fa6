/- package reader: Run. No condition but sizes. -/
import Derived.Test.YtfipdoofgbjbjaaRd10
import Derived.Test.YtfipdoofgbjbjaaKitA
namespace Go.Proofs.Ytfipdoofgbjbjaa
open Go.RowKit Go.Shelf Go.Maps

abbrev St := Int × List Int × List Int
def encR (x : Int × Bool) (j : Nat) : Value := if j = 0 then .int .i64 x.1 else .bool x.2
def stC (s : St) (x : Int × Bool) : Int := stepCode s.1 s.2.1 x.1 x.2
def stN (s : St) (x : Int × Bool) : St := (s.1 + 1, stepNs s.2.1 x.1.toNat x.2, stepOs s.1 s.2.1 s.2.2 x.1.toNat x.2)
/-- steps, one by one: the error, how many were looked at, the readers -/
def runA (s : St) : List (Int × Bool) → Int → Int × Int × St
  | [], i => (0, i, s)
  | x :: l, i => if stC s x = 0 then runA (stN s x) l (i + 1) else (stC s x, i + 1, (0, [], []))
def runF (now : Int) (ns os : List Int) (l : List (Int × Bool)) : Int × Int × St := if Good now ns os then runA (now, ns, os) l 0 else (210, 0, (0, [], []))

/-- readers of one's own -/
structure Rown (W : World) (lo : Nat) (A : Option Addr) (n c : Nat) (B : Option Addr) (m d : Nat) (ns os : List Int) : Prop where
  oa : Ow i64 W lo 3 A n c ns
  ob : Ow i64 W lo 3 B m d os
  apart : ∀ ga gb, A = some ⟨ga, 0, none⟩ → B = some ⟨gb, 0, none⟩ → ga ≠ gb
  hn : n ≤ 1000
  hm : m ≤ 1000
section
variable {W W' : World} {lo lo' : Nat} {A : Option Addr} {n c : Nat} {B : Option Addr} {m d : Nat} {ns os : List Int}
theorem Rown.step (h : Rown W lo A n c B m d ns os) (hb : Below W.heap.size W W') : Rown W' lo A n c B m d ns os := ⟨h.oa.step hb, h.ob.step hb, h.apart, h.hn, h.hm⟩
theorem Rown.mono (h : Rown W lo A n c B m d ns os) (hl : lo' ≤ lo) : Rown W lo' A n c B m d ns os := ⟨h.oa.mono hl, h.ob.mono hl, h.apart, h.hn, h.hm⟩
theorem Rown.rds (h : Rown W lo A n c B m d ns os) : Rds W A n c B m d ns os := ⟨(h.oa.sl (d := 0)).mono (Nat.zero_le _) (Nat.le_refl _), (h.ob.sl (d := 0)).mono (Nat.zero_le _) (Nat.le_refl _), h.oa.cap.1, h.ob.cap.1, h.hn, h.hm⟩
theorem Rown.none (W : World) (lo : Nat) : Rown W lo none 0 0 none 0 0 [] [] := ⟨Ow.nil _ _ _, Ow.nil _ _ _, fun _ _ h => by simp at h, Nat.zero_le _, Nat.zero_le _⟩
end
def RunPost (W : World) (r : Int × Int × St) (e : Ending) (W' : World) : Prop :=
  ∃ A n c B m d, e = .returned (.tuple #[rv r.2.2.1 A n c B m d, .int .i64 r.2.1, .int .i64 r.1]) ∧ Rown W' W.heap.size A n c B m d r.2.2.2.1 r.2.2.2.2 ∧ Below W.heap.size W W'

set_option maxHeartbeats 400000 in
theorem owned_any (A : Option Addr) (n c lo : Nat) (xs : List Int) (w : World) (h : Sl i64 0 w lo w.heap.size A n xs) (hn : n ≤ 1000) :
    Calls Try.prog 96 #[.slice A n c] w fun e w' => ∃ A' c', e = .returned (.slice A' n c') ∧ Ow i64 w' w.heap.size 3 A' n c' xs ∧ Below w.heap.size w w' := by
  obtain ⟨i0, hi0, hz00, hz01, hz02⟩ := info_parts info_int
  go_enter Try.func96, Try.ntmps96
  go_wp2_with (at_builtin; refine wpList_app i64 0 _ rfl _ _ 22 rfl w.heap.size 3 i0 _ 8 Try.underlying22 hi0 hz00 hz01 hz02 rfl _ _ _ [] rfl (Ow.nil w _ _) lo w.heap.size A n c xs rfl h one_i64 (by simp only [maxLen]; omega) (by omega) (by simp) ?_; intro A1 c1 w1 hown1 hg1 hat1; simp only [Nat.zero_add, List.nil_append] at hown1)
  go_ret
  exact ⟨A1, c1, by simp, hown1, (Below.refl _ w).grown hg1 (Nat.le_refl _) (fun k hk => by simp [Value.ownBlock] at hk)⟩

set_option maxHeartbeats 1000000 in
theorem run_bad (now : Int) (A : Option Addr) (n c : Nat) (B : Option Addr) (m d : Nat) (ns os : List Int) (L : Option Addr) (k kc : Nat) (ls : List (Int × Bool)) (w : World) (h : Rds w A n c B m d ns os) (hg : ¬ Good now ns os) :
    Calls Try.prog 85 #[rv now A n c B m d, .slice L k kc] w (RunPost w (runF now ns os ls)) := by
  have hbx := below_then (below_box w (.cells (rcs now A n c B m d) 24)) (below_box _ (.cells (rcs 0 none 0 0 none 0 0) 24))
  have h0 := h.step hbx
  have P := (Blk.new w 24 (rcs now A n c B m d)).step (below_box _ (.cells (rcs 0 none 0 0 none 0 0) 24))
  have P' := Blk.new2 w 24 (rcs 0 none 0 0 none 0 0) (.cells (rcs now A n c B m d) 24)
  have H := hid (check_bad now A n c B m d ns os _ h0 hg)
  have E := hid (show runF now ns os ls = (210, 0, (0, [], [])) from if_neg hg)
  obtain ⟨k0, k1, k2, kf⟩ := P.cells3
  clear h h0 hg
  go_enter Try.func85, Try.ntmps85
  go_wp2_with fail
  refine H.out.mono ?_
  rintro e w1 ⟨rfl, hb⟩
  replace hbx := below_then hbx hb
  have PZ := P'.step hb
  obtain ⟨r0, r1, r2, rf⟩ := PZ.cells3
  have HZ := hid PZ
  clear k0 k1 k2 kf P P' hb H PZ
  go_wp2
  have q := ((HZ.out.setCell 0 (.int .i64 0)).setCell 1 (.slice none 0 0)).setCell 2 (.slice none 0 0)
  obtain ⟨q0, q1, q2, qf⟩ := q.cells3
  refine bodyPost_ret (v := .tuple #[rv 0 none 0 0 none 0 0, .int .i64 0, .int .i64 210]) (by simp [results, Try.results85, go_sem, q0, q1, q2]) rfl ⟨none, 0, 0, none, 0, 0, by rw [E.out], by rw [E.out]; exact Rown.none _ _, ?_⟩
  exact ((hbx.setCell (by simp) _).setCell (by simp) _).setCell (by simp) _

def SInv (n : Nat) (s : St) : Prop := 0 ≤ s.1 ∧ s.1 ≤ 2147483647 ∧ ∀ k, k < n → 0 ≤ s.2.1[k]?.getD 0 ∧ s.2.1[k]?.getD 0 ≤ 8
theorem stepNs_get {ns : List Int} {k j : Nat} {ent : Bool} (hk : k < ns.length) : (stepNs ns k ent)[j]?.getD 0 = if j = k then (if ent = true then ns[k]?.getD 0 + 1 else ns[k]?.getD 0 - 1) else ns[j]?.getD 0 := by
  unfold stepNs
  by_cases h : j = k
  · subst h; rw [List.getElem?_set_self hk, if_pos rfl]; rfl
  · rw [List.getElem?_set_ne (Ne.symm h), if_neg h]
theorem stC_zero {s : St} {x : Int × Bool} (hc : stC s x = 0) : 0 ≤ x.1 ∧ x.1.toNat < s.2.1.length ∧ s.1 ≠ 2147483647 ∧ (x.2 = true → s.2.1[x.1.toNat]?.getD 0 ≠ 8) ∧ (x.2 = false → s.2.1[x.1.toNat]?.getD 0 ≠ 0) := by
  unfold stC stepCode at hc
  split at hc
  · omega
  split at hc
  · omega
  split at hc
  · split at hc
    · omega
    · rename_i h1 h2 h3 h4
      exact ⟨by omega, by omega, h2, fun _ => h4, fun h => by rw [h] at h3; simp at h3⟩
  · split at hc
    · omega
    · rename_i h1 h2 h3 h4
      exact ⟨by omega, by omega, h2, fun h => absurd h h3, fun _ => h4⟩
theorem sinv_step {n : Nat} {s : St} {x : Int × Bool} (h : SInv n s) (hl : s.2.1.length = n) (hc : stC s x = 0) : SInv n (stN s x) := by
  obtain ⟨c1, c2, c3, c4, c5⟩ := stC_zero hc
  obtain ⟨h1, h2, h3⟩ := h
  refine ⟨by show 0 ≤ s.1 + 1; omega, by show s.1 + 1 ≤ 2147483647; omega, fun j hj => ?_⟩
  show 0 ≤ (stepNs s.2.1 x.1.toNat x.2)[j]?.getD 0 ∧ (stepNs s.2.1 x.1.toNat x.2)[j]?.getD 0 ≤ 8
  rw [stepNs_get c2]
  have := h3 x.1.toNat (by omega)
  split
  · split
    · rename_i he; have := c4 he; omega
    · rename_i he; have := c5 (by simpa using he); omega
  · exact h3 j hj
theorem good_bound {now : Int} {ns os : List Int} (hg : Good now ns os) : ∀ k, k < ns.length → 0 ≤ ns[k]?.getD 0 ∧ ns[k]?.getD 0 ≤ 8 := fun k hk => ⟨(hg.2.1 k hk).1, (hg.2.1 k hk).2.1⟩

set_option maxRecDepth 10000 in
set_option maxHeartbeats 4000000 in
theorem run_good (now : Int) (A : Option Addr) (n c : Nat) (B : Option Addr) (m d : Nat) (ns os : List Int) (L : Option Addr) (nl kc : Nat) (ls : List (Int × Bool)) (w : World) (h : Rds w A n c B m d ns os) (hL : Sm 2 encR (0, false) w 0 w.heap.size L nl ls) (hnl : nl ≤ 1000) (hg : Good now ns os) :
    Calls Try.prog 85 #[rv now A n c B m d, .slice L nl kc] w (RunPost w (runF now ns os ls)) := by
  have hl := h.lenx; have hl' := h.leny
  obtain rfl : m = n := by have := hg.1.2.2.1; omega
  have hm1 : 1 ≤ m := by have := hg.1.1; omega
  have hbx := below_then (below_box w (.cells (rcs now A m c B m d) 24)) (below_box _ (.cells (rcs 0 none 0 0 none 0 0) 24))
  have h0 := h.step hbx
  have P := (Blk.new w 24 (rcs now A m c B m d)).step (below_box _ (.cells (rcs 0 none 0 0 none 0 0) 24))
  have P' := Blk.new2 w 24 (rcs 0 none 0 0 none 0 0) (.cells (rcs now A m c B m d) 24)
  have H := hid (check_good now A m c B m d ns os _ h0 hg)
  have E := hid (show runF now ns os ls = runA (now, ns, os) ls 0 from if_pos hg)
  have HG := hid hg
  have hn := h.hn
  obtain ⟨k0, k1, k2, kf⟩ := P.cells3
  clear h hg hl hl'
  go_enter Try.func85, Try.ntmps85
  go_wp2_with fail
  refine H.out.mono ?_
  rintro e w1 ⟨rfl, hb⟩
  replace hbx := below_then hbx hb
  have PZ := hid (P'.step hb)
  have PR := hid (P.step hb)
  have HR := hid (h0.step hb)
  have HLs := hid ((hL.below (below_then (below_box w _) (below_box _ _)) (Nat.le_refl _)).mono (Nat.le_refl _) (by simp; omega) |>.step hb)
  have hz : w.heap.size + 2 ≤ w1.heap.size := by have := hb.size; simpa using this
  have HBX := hid hbx
  clear k0 k1 k2 kf P P' hb H hbx h0 hL
  go_wp2_with fail
  obtain ⟨k0, k1, k2, kf⟩ := PR.out.cells3
  have HS : Hid (∀ W, Below w1.heap.size w1 W → (Below w1.heap.size w1 W ∧ W.cell? ⟨w.heap.size, 0, none⟩ = some (.int .i64 now) ∧ W.cell? ⟨w.heap.size, 1, none⟩ = some (.slice A m c) ∧ W.cell? ⟨w.heap.size, 2, none⟩ = some (.slice B m d))) :=
    hid (fun W hw => ⟨hw, (PR.out.step hw).cells3.1, (PR.out.step hw).cells3.2.1, (PR.out.step hw).cells3.2.2.1⟩)
  go_region_held3 (fun w' => Below w1.heap.size w1 w' ∧ w'.cell? ⟨w.heap.size, 0, none⟩ = some (.int .i64 now) ∧ w'.cell? ⟨w.heap.size, 1, none⟩ = some (.slice A m c) ∧ w'.cell? ⟨w.heap.size, 2, none⟩ = some (.slice B m d))
    (first | (exact HS.out _ (Below.refl _ _).drew) | (exact HS.out _ hq1) | (exact HS.out _ hq2) | (exact HS.out _ (below_then hq2 (below_box _ _))) | (go_keep; done))
    (first
      | (go_at_call 96; go_split_ands; (with_reducible refine (owned_any A m c 0 ns w1.drew (HR.out.hx.step (Below.refl _ _).drew) hn).mono ?_); rintro e w2 ⟨A', c', rfl, hown1, hb1⟩; have hq1 := below_then (Below.refl w1.heap.size w1).drew hb1)
      | (go_at_call 96; go_split_ands; (with_reducible refine (owned_any B m d 0 os w2 (HR.out.hy.step hq1) hn).mono ?_); rintro e w3 ⟨B', d', rfl, hown2, hb2⟩; have hq2 := below_then hq1 hb2))
  all_goals
  clear k0 k1 k2 kf HS
  obtain ⟨ga, rfl, ga1, ga2, _, _⟩ := hown1.at_ 0 hm1
  obtain ⟨gb, rfl, gb1, gb2, _, _⟩ := hown2.at_ 0 hm1
  have hq3 := below_then hq2 (below_box w3 (.cells (rcs now (some ⟨ga, 0, none⟩) m c' (some ⟨gb, 0, none⟩) m d') 147))
  have hs2 := hq1.size
  have hs3 := hb2.size
  have HH := hid (show Hand (w3.alloc (.cells (rcs now (some ⟨ga, 0, none⟩) m c' (some ⟨gb, 0, none⟩) m d') 147)) w1.heap.size w3.heap.size now (some ⟨ga, 0, none⟩) m c' (some ⟨gb, 0, none⟩) d' ns os from
    ⟨Blk.new w3 _ _, (hown1.step hb2).step (below_box w3 _), (hown2.mono hs2).step (below_box w3 _), fun a b e1 e2 => by simp at e1 e2; subst e1 e2; exact ⟨by omega, by omega, by omega⟩, by omega⟩)
  have HRES := hid (PZ.out.step hq3)
  have HQ := hid hq3
  clear hown1 hown2 hb1 hb2 hq1 hq2 hq3
  go_wp2_with fail
  generalize w3.alloc (.cells #[.int .i64 now, .slice (some ⟨ga, 0, none⟩) m c', .slice (some ⟨gb, 0, none⟩) m d'] 147) = W4 at *
  go_loopw [31] (fun i wr => ∃ k : Nat, ∃ s : St, k ≤ nl ∧ i = .int .i64 k ∧ Hand wr w1.heap.size w3.heap.size s.1 (some ⟨ga, 0, none⟩) m c' (some ⟨gb, 0, none⟩) d' s.2.1 s.2.2 ∧ runA (now, ns, os) ls 0 = runA s (ls.drop k) k ∧ SInv m s ∧ Blk wr (w.heap.size + 1) 24 (rcs 0 none 0 0 none 0 0) ∧ Below w1.heap.size w1 wr) (fun i _ => nl - (intOf i).toNat)
  case atStart => exact ⟨0, (now, ns, os), Nat.zero_le _, rfl, HH.out, by simp, ⟨HG.out.1.2.2.2.1, HG.out.1.2.2.2.2, fun k hk => good_bound HG.out k (by have := HH.out.oa.len; omega)⟩, HRES.out, HQ.out⟩
  case round =>
    obtain ⟨k, ⟨nw, ns', os'⟩, hk, rfl, hH, hrun, hinv, hres, hBr⟩ := hrel
    by_cases hlt : k < nl
    · obtain ⟨b, off, rfl, _, hbB, hc⟩ := HLs.out.row (by omega)
      have g0 := (hBr.cell (p := ⟨b, off + k * 2 + 0, none⟩) hbB).trans (hc k hlt 0 (by omega))
      have g1 := (hBr.cell (p := ⟨b, off + k * 2 + 1, none⟩) hbB).trans (hc k hlt 1 (by omega))
      obtain ⟨⟨cpu, ent⟩, hX⟩ : ∃ x, x = ls[k]?.getD (0, false) := ⟨_, rfl⟩
      rw [← hX] at g0 g1
      simp only [encR, Nat.add_zero, if_pos rfl] at g0
      simp only [encR, if_neg (by decide : ¬ (1 : Nat) = 0)] at g1
      have hdrop : ls.drop k = (cpu, ent) :: ls.drop (k + 1) := by
        have hl := HLs.out.len
        rw [List.drop_eq_getElem_cons (by omega), hX, List.getElem?_eq_getElem (by omega)]
        rfl
      have HRUN := hid (show runA (now, ns, os) ls 0 = if stepCode nw ns' cpu ent = 0 then runA (nw + 1, stepNs ns' cpu.toNat ent, stepOs nw ns' os' cpu.toNat ent) (ls.drop (k + 1)) (k + 1) else (stepCode nw ns' cpu ent, (k : Int) + 1, (0, [], [])) by rw [hrun, hdrop]; rfl)
      have HHr := hid hH; have HINV := hid hinv; have HRS := hid hres; have HBr := hid hBr
      clear hrun hX hdrop hc hH hinv hres hBr
      go_wp2_with fail
      have hlo1 : w1.heap.size ≤ wr.heap.size := HBr.out.size
      refine (step_any w3.heap.size w1.heap.size nw _ m c' _ d' ns' os' cpu ent _ (HHr.out.step (below_box wr _)) (by simp; omega) HINV.out.1 HINV.out.2.1 HINV.out.2.2 hn).mono ?_
      rintro e w5 ⟨rfl, hb5, hH5⟩
      have hres5 := hid ((HRS.out.alloc (.cells #[.int .i64 cpu, .bool ent] 133)).below hb5 (by omega))
      have hBr5 := hid ((HBr.out.alloc hlo1 (.cells #[.int .i64 cpu, .bool ent] 133)).trans hb5)
      by_cases hc0 : stepCode nw ns' cpu ent = 0
      · have HR0 := hid (HRUN.out.trans (if_pos hc0)); have H5 := hid (hH5 hc0)
        have HI5 := hid (sinv_step (s := (nw, ns', os')) (x := (cpu, ent)) HINV.out HHr.out.oa.len hc0)
        rw [hc0]
        clear hc0 hH5 hb5 g0 g1
        go_wp2
        go_roundw
        case rel => exact ⟨k + 1, (nw + 1, stepNs ns' cpu.toNat ent, stepOs nw ns' os' cpu.toNat ent), by omega, by go_num, H5.out, HR0.out, HI5.out, hres5.out, hBr5.out⟩
        case measure => simp [intOf]; omega
      · have HR0 := hid (HRUN.out.trans (if_neg hc0))
        clear hH5 hb5 g0 g1
        generalize stepCode nw ns' cpu ent = code at *
        have hc0' : (code != 0) = true := by simpa using hc0
        obtain ⟨r0, r1, r2, rf⟩ := hres5.out.cells3
        clear hc0
        go_wp2
        have q := ((hres5.out.setCell 0 (.int .i64 0)).setCell 1 (.slice none 0 0)).setCell 2 (.slice none 0 0)
        obtain ⟨q0, q1, q2, qf⟩ := q.cells3
        refine bodyPost_ret (v := .tuple #[rv 0 none 0 0 none 0 0, .int .i64 (k + 1), .int .i64 code]) (by simp [results, Try.results85, go_sem, q0, q1, q2]) rfl ⟨none, 0, 0, none, 0, 0, by rw [E.out, HR0.out], by rw [E.out, HR0.out]; exact Rown.none _ _, ?_⟩
        exact (((HBX.out.trans (hBr5.out.mono (by omega))).setCell (by simp) _).setCell (by simp) _).setCell (by simp) _
    · obtain rfl : k = nl := by omega
      have HE := hid (show runA (now, ns, os) ls 0 = (0, (k : Int), (nw, ns', os')) by rw [hrun, List.drop_of_length_le (by rw [HLs.out.len]; exact Nat.le_refl _)]; rfl)
      obtain ⟨k0, k1, k2, kf⟩ := hH.box.cells3
      obtain ⟨r0, r1, r2, rf⟩ := hres.cells3
      have HHr := hid hH; have HRS := hid hres; have HBr := hid hBr
      clear hrun hH hres hBr hinv
      go_wp2
      have q := ((HRS.out.setCell 0 (.int .i64 nw)).setCell 1 (.slice (some ⟨ga, 0, none⟩) m c')).setCell 2 (.slice (some ⟨gb, 0, none⟩) m d')
      obtain ⟨q0, q1, q2, qf⟩ := q.cells3
      refine bodyPost_ret (v := .tuple #[rv nw (some ⟨ga, 0, none⟩) m c' (some ⟨gb, 0, none⟩) m d', .int .i64 k, .int .i64 0]) (by simp [results, Try.results85, go_sem, q0, q1, q2]) rfl ⟨some ⟨ga, 0, none⟩, m, c', some ⟨gb, 0, none⟩, m, d', by rw [E.out, HE.out], ?_, ?_⟩
      · rw [E.out, HE.out]
        refine ⟨(((HHr.out.oa.setCell (p := ⟨w.heap.size + 1, 0, none⟩) (by simp; omega) _).setCell (p := ⟨w.heap.size + 1, 1, none⟩) (by simp; omega) _).setCell (p := ⟨w.heap.size + 1, 2, none⟩) (by simp; omega) _).mono (by omega), (((HHr.out.ob.setCell (p := ⟨w.heap.size + 1, 0, none⟩) (by simp; omega) _).setCell (p := ⟨w.heap.size + 1, 1, none⟩) (by simp; omega) _).setCell (p := ⟨w.heap.size + 1, 2, none⟩) (by simp; omega) _).mono (by omega), fun a b e1 e2 => (HHr.out.apart a b e1 e2).1, hn, hn⟩
      · exact (((HBX.out.trans (HBr.out.mono (by omega))).setCell (by simp) _).setCell (by simp) _).setCell (by simp) _
end Go.Proofs.Ytfipdoofgbjbjaa
