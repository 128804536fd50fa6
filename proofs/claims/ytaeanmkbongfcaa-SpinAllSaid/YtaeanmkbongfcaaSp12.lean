/- package spin: Lay. No condition but sizes. -/
import Derived.Test.YtaeanmkbongfcaaSp11
namespace Go.Proofs.Ytaeanmkbongfcaa
open Go.RowKit
def LayOk (ls : List Bool) (at_ : Int) : Prop := 0 ≤ at_ ∧ at_ ≤ (ls.length : Int) - 2 ∧ ls[at_.toNat]?.getD false = true ∧ ls[at_.toNat + 1]?.getD false = true
instance {ls : List Bool} {a : Int} : Decidable (LayOk ls a) := by unfold LayOk; infer_instance
def layF (m : MSt) (at_ : Int) : Int × MSt :=
  if ¬ MGood m.1 m.2.1 then (120, ([], [], false)) else if ¬ LayOk m.2.1 at_ then (2, ([], [], false)) else (0, ((m.1.set at_.toNat 0).set (at_.toNat + 1) 0, m.2.1, m.2.2))
theorem lay_run {ws : List Int} {ls : List Bool} {f : Bool} {a : Nat} (hg : MGood ws ls) (h1 : a + 1 < ls.length) (h2 : ls[a]?.getD false = true) (h3 : ls[a + 1]?.getD false = true) :
    (runMF (ws, ls, f) [(2, (a : Int), 0, 0), (2, (a : Int) + 1, 0, 0)]).1 = 0 ∧ (runMF (ws, ls, f) [(2, (a : Int), 0, 0), (2, (a : Int) + 1, 0, 0)]).2.1 = ((ws.set a 0).set (a + 1) 0, ls, f) := by
  have hl : ls.length = ws.length := hg.1.2.2
  have e1 : goodAt (ws, ls, f) (a : Int) = true := goodAt_iff.2 ⟨a, rfl, by show a < ws.length; omega, h2⟩
  have e2 : goodAt (ws.set a 0, ls, f) ((a : Int) + 1) = true := goodAt_iff.2 ⟨a + 1, by omega, by simp; omega, h3⟩
  have s1 : stepM (ws, ls, f) (2, (a : Int), 0, 0) = ((ws.set a 0, ls, f), (ws[a]?.getD 0, true)) := by
    unfold stepM
    rw [if_neg (by rw [e1]; simp), if_neg (show ¬ (2 : Int) = 1 by decide), if_neg (fun h => absurd (show (2 : Int) = 3 from h.1) (by decide))]
    rfl
  have s2 : stepM (ws.set a 0, ls, f) (2, (a : Int) + 1, 0, 0) = (((ws.set a 0).set (a + 1) 0, ls, f), ((ws.set a 0)[a + 1]?.getD 0, true)) := by
    unfold stepM
    rw [if_neg (by rw [e2]; simp), if_neg (show ¬ (2 : Int) = 1 by decide), if_neg (fun h => absurd (show (2 : Int) = 3 from h.1) (by decide))]
    rfl
  have g2 : MGood (ws.set a 0) ls := mgood_set hg (by omega) h2
  have k1 : accF (ws, ls, f) (2, (a : Int), 0, 0) = (0, stepM (ws, ls, f) (2, (a : Int), 0, 0)) := by rw [accF, if_neg (not_not_intro hg), if_neg (by simp)]
  have k2 : accF (ws.set a 0, ls, f) (2, (a : Int) + 1, 0, 0) = (0, stepM (ws.set a 0, ls, f) (2, (a : Int) + 1, 0, 0)) := by rw [accF, if_neg (not_not_intro g2), if_neg (by simp)]
  rw [s1] at k1
  rw [s2] at k2
  unfold runMF
  rw [if_pos hg]
  simp [runG, k1, k2]
def LyPost (w : World) (r : Int × MSt) (e : Ending) (w' : World) : Prop :=
  ∃ A n c B k d, e = .returned (.tuple #[mv A n c B k d r.2.2.2, .int .i64 r.1]) ∧ Mown w' w.heap.size A n c B k d r.2.1 r.2.2.1 ∧ Below w.heap.size w w'
set_option maxRecDepth 100000 in
set_option maxHeartbeats 4000000 in
theorem splay_any (A : Option Addr) (n c : Nat) (B : Option Addr) (k d : Nat) (f : Bool) (ws : List Int) (ls : List Bool) (at_ : Int) (w : World) (h : Mem w A n c B k d ws ls) :
    Calls Try.prog 28 #[mv A n c B k d f, .int .i64 at_] w (LyPost w (layF (ws, ls, f) at_)) := by
  have HM := hid h; have HB := hid (Below.refl w.heap.size w)
  have HE := hid (show layF (ws, ls, f) at_ = if ¬ MGood ws ls then (120, ([], [], false)) else if ¬ LayOk ls at_ then (2, ([], [], false)) else (0, ((ws.set at_.toNat 0).set (at_.toNat + 1) 0, ls, f)) from rfl)
  have HLO := hid (show LayOk ls at_ ↔ (0 ≤ at_ ∧ at_ ≤ (ls.length : Int) - 2 ∧ ls[at_.toNat]?.getD false = true ∧ ls[at_.toNat + 1]?.getD false = true) from Iff.rfl)
  have HC := hid (show mcheckC ws ls = if MGood ws ls then 0 else 120 from rfl)
  have hn := h.hn
  clear h
  have bx := below_box w (.cells (mcs A n c B k d f) 25)
  replace HM := hid (HM.out.step bx); replace HB := hid (below_then HB.out bx)
  clear bx
  have PM := hid (Blk.new w 25 (mcs A n c B k d f))
  have bx := below_box (w.alloc (.cells (mcs A n c B k d f) 25)) (.cells (mcs none 0 0 none 0 0 false) 25)
  replace HM := hid (HM.out.step bx); replace PM := hid (PM.out.step bx); replace HB := hid (below_then HB.out bx)
  clear bx
  have PZ := hid (Blk.new2 w 25 (mcs none 0 0 none 0 0 false) (.cells (mcs A n c B k d f) 25))
  go_enter Try.func28, Try.ntmps28
  obtain ⟨y00, y01, y02, yf0⟩ := PM.out.cells3
  go_wp2_with fail
  clear y00 y01 y02 yf0
  generalize (w.alloc (.cells (mcs A n c B k d f) 25)).alloc (.cells (mcs none 0 0 none 0 0 false) 25) = W0 at *
  refine (mcheck_any A n c B k d f ws ls _ HM.out).mono ?_
  rintro e w1 ⟨rfl, hb⟩
  replace HM := hid (HM.out.step hb); replace PM := hid (PM.out.step hb); replace PZ := hid (PZ.out.step hb); replace HB := hid (below_then HB.out hb)
  clear hb
  by_cases hg : MGood ws ls
  rotate_left
  · have e0 : mcheckC ws ls = 120 := by rw [HC.out, if_neg hg]
    rw [e0]
    clear e0
    obtain ⟨y00, y01, y02, yf0⟩ := PZ.out.cells3
    go_wp2
    obtain ⟨q0, q1, q2, qf⟩ := (((PZ.out.setCell 0 (.slice none 0 0)).setCell 1 (.slice none 0 0)).setCell 2 (.bool false)).cells3
    have E : layF (ws, ls, f) at_ = (120, ([], [], false)) := by rw [HE.out, if_pos hg]
    rw [E]
    refine bodyPost_ret (v := .tuple #[mv none 0 0 none 0 0 false, .int .i64 120]) (by simp [results, Try.results28, go_sem, q0, q1, q2]) rfl ⟨none, 0, 0, none, 0, 0, rfl, Mown.none _ _, ((HB.out.setCell (by simp) _).setCell (by simp) _).setCell (by simp) _⟩
  have e0 : mcheckC ws ls = 0 := by rw [HC.out, if_pos hg]
  rw [e0]
  have HG := hid hg
  have hkn : k = n := by have := hg.2; have h1 := hg.1.2.2; have h2 := HM.out.lenx; have h3 := HM.out.leny; omega
  subst hkn
  have hl3 := hid HM.out.leny
  have hn1 : 1 ≤ k := by have := hg.1.1; have := HM.out.lenx; omega
  clear e0 hg
  by_cases h0 : at_ < 0
  · have d0 : decide (at_ < 0) = true := decide_eq_true h0
    have HNO := hid (show ¬ (0 ≤ at_ ∧ at_ ≤ (ls.length : Int) - 2 ∧ ls[at_.toNat]?.getD false = true ∧ ls[at_.toNat + 1]?.getD false = true) by omega)
    clear h0
    obtain ⟨y00, y01, y02, yf0⟩ := PZ.out.cells3
    go_wp2
    obtain ⟨q0, q1, q2, qf⟩ := (((PZ.out.setCell 0 (.slice none 0 0)).setCell 1 (.slice none 0 0)).setCell 2 (.bool false)).cells3
    have E : layF (ws, ls, f) at_ = (2, ([], [], false)) := by rw [HE.out, if_neg (not_not_intro HG.out), if_pos (fun h => HNO.out (HLO.out.1 h))]
    rw [E]
    refine bodyPost_ret (v := .tuple #[mv none 0 0 none 0 0 false, .int .i64 2]) (by simp [results, Try.results28, go_sem, q0, q1, q2]) rfl ⟨none, 0, 0, none, 0, 0, rfl, Mown.none _ _, ((HB.out.setCell (by simp) _).setCell (by simp) _).setCell (by simp) _⟩
  have d0 : decide (at_ < 0) = false := decide_eq_false h0
  obtain ⟨a, rfl⟩ := Int.eq_ofNat_of_zero_le (by omega : 0 ≤ at_)
  have hs2 : IntKind.i64.wrap ((k : Int) - 2) = (k : Int) - 2 := by rw [IntKind.wrap_i64]; omega
  by_cases h2 : (k : Int) - 2 < (a : Int)
  · have d1 : decide ((k : Int) - 2 < (a : Int)) = true := decide_eq_true h2
    have HNO := hid (show ¬ (0 ≤ (a : Int) ∧ (a : Int) ≤ (ls.length : Int) - 2 ∧ ls[((a : Int)).toNat]?.getD false = true ∧ ls[((a : Int)).toNat + 1]?.getD false = true) by have := hl3.out; omega)
    clear h0
    have hgt : (k : Int) - 2 < (a : Int) := by omega
    clear h2
    obtain ⟨y00, y01, y02, yf0⟩ := PM.out.cells3
    obtain ⟨y00, y01, y02, yf0⟩ := PZ.out.cells3
    obtain ⟨y10, y11, y12, yf1⟩ := PM.out.cells3
    go_wp2
    obtain ⟨q0, q1, q2, qf⟩ := (((PZ.out.setCell 0 (.slice none 0 0)).setCell 1 (.slice none 0 0)).setCell 2 (.bool false)).cells3
    have E : layF (ws, ls, f) (a : Int) = (2, ([], [], false)) := by rw [HE.out, if_neg (not_not_intro HG.out), if_pos (fun h => HNO.out (HLO.out.1 h))]
    rw [E]
    refine bodyPost_ret (v := .tuple #[mv none 0 0 none 0 0 false, .int .i64 2]) (by simp [results, Try.results28, go_sem, q0, q1, q2]) rfl ⟨none, 0, 0, none, 0, 0, rfl, Mown.none _ _, ((HB.out.setCell (by simp) _).setCell (by simp) _).setCell (by simp) _⟩
  have d1 : decide ((k : Int) - 2 < (a : Int)) = false := decide_eq_false h2
  have hak : a + 1 < k := by omega
  have hai : (a : Int) < (k : Int) := by omega
  have hai1 : (a : Int) + 1 < (k : Int) := by omega
  have hle2 : ¬ (k : Int) - 2 < (a : Int) := by omega
  have hw1 : IntKind.i64.wrap ((a : Int) + 1) = (a : Int) + 1 := by rw [IntKind.wrap_i64]; omega
  have ht1 : ((a : Int) + 1).toNat = a + 1 := by omega
  obtain ⟨b, off, rfl, _, hbh, hc⟩ := HM.out.hy.row (by omega)
  have f0 := hc a (by omega)
  have f1 := hc (a + 1) hak
  obtain ⟨x0, hx0⟩ : ∃ x, x = ls[a]?.getD false := ⟨_, rfl⟩
  obtain ⟨x1, hx1⟩ : ∃ x, x = ls[a + 1]?.getD false := ⟨_, rfl⟩
  rw [← hx0] at f0
  rw [← hx1] at f1
  have HX0 := hid hx0; have HX1 := hid hx1
  clear hc hx0 hx1 h0 h2
  rcases x0 with _ | _
  · have HNO := hid (show ¬ (0 ≤ (a : Int) ∧ (a : Int) ≤ (ls.length : Int) - 2 ∧ ls[((a : Int)).toNat]?.getD false = true ∧ ls[((a : Int)).toNat + 1]?.getD false = true) from fun h => by have h1 := h.2.2.1; rw [show ((a : Int)).toNat = a from rfl, ← HX0.out] at h1; cases h1)
    obtain ⟨y00, y01, y02, yf0⟩ := PZ.out.cells3
    obtain ⟨y10, y11, y12, yf1⟩ := PM.out.cells3
    go_wp2
    obtain ⟨q0, q1, q2, qf⟩ := (((PZ.out.setCell 0 (.slice none 0 0)).setCell 1 (.slice none 0 0)).setCell 2 (.bool false)).cells3
    have E : layF (ws, ls, f) (a : Int) = (2, ([], [], false)) := by rw [HE.out, if_neg (not_not_intro HG.out), if_pos (fun h => HNO.out (HLO.out.1 h))]
    rw [E]
    refine bodyPost_ret (v := .tuple #[mv none 0 0 none 0 0 false, .int .i64 2]) (by simp [results, Try.results28, go_sem, q0, q1, q2]) rfl ⟨none, 0, 0, none, 0, 0, rfl, Mown.none _ _, ((HB.out.setCell (by simp) _).setCell (by simp) _).setCell (by simp) _⟩
  rcases x1 with _ | _
  · have HNO := hid (show ¬ (0 ≤ (a : Int) ∧ (a : Int) ≤ (ls.length : Int) - 2 ∧ ls[((a : Int)).toNat]?.getD false = true ∧ ls[((a : Int)).toNat + 1]?.getD false = true) from fun h => by have h1 := h.2.2.2; rw [show ((a : Int)).toNat = a from rfl, ← HX1.out] at h1; cases h1)
    obtain ⟨y00, y01, y02, yf0⟩ := PZ.out.cells3
    obtain ⟨y10, y11, y12, yf1⟩ := PM.out.cells3
    go_wp2
    obtain ⟨q0, q1, q2, qf⟩ := (((PZ.out.setCell 0 (.slice none 0 0)).setCell 1 (.slice none 0 0)).setCell 2 (.bool false)).cells3
    have E : layF (ws, ls, f) (a : Int) = (2, ([], [], false)) := by rw [HE.out, if_neg (not_not_intro HG.out), if_pos (fun h => HNO.out (HLO.out.1 h))]
    rw [E]
    refine bodyPost_ret (v := .tuple #[mv none 0 0 none 0 0 false, .int .i64 2]) (by simp [results, Try.results28, go_sem, q0, q1, q2]) rfl ⟨none, 0, 0, none, 0, 0, rfl, Mown.none _ _, ((HB.out.setCell (by simp) _).setCell (by simp) _).setCell (by simp) _⟩
  have HRN := hid (lay_run (f := f) HG.out (by rw [hl3.out]; exact hak) HX0.out.symm HX1.out.symm)
  have HE2 := hid (show layF (ws, ls, f) (a : Int) = (0, ((ws.set a 0).set (a + 1) 0, ls, f)) by rw [HE.out, if_neg (not_not_intro HG.out), if_neg (not_not_intro (HLO.out.2 ⟨by omega, by have := hl3.out; omega, HX0.out.symm, HX1.out.symm⟩))]; rfl)
  obtain ⟨y00, y01, y02, yf0⟩ := PM.out.cells3
  go_wp2_with fail
  have HSL := hid (Sm.lit (sz := 4) (enc := encA) (d := ((0 : Int), (0 : Int), (0 : Int), (0 : Int))) (w := w1) (e := 49) (cs := #[.int .i64 2, .int .i64 a, .int .u64 0, .int .u64 0, .int .i64 2, .int .i64 ((a : Int) + 1), .int .u64 0, .int .u64 0]) (g := w1.heap.size) [(2, (a : Int), 0, 0), (2, (a : Int) + 1, 0, 0)] rfl (by intro k hk j hj; have hk' : k < 2 := hk; have hj' : j < 4 := hj; match k, hk', j, hj' with | 0, _, 0, _ => rfl | 0, _, 1, _ => rfl | 0, _, 2, _ => rfl | 0, _, 3, _ => rfl | 1, _, 0, _ => rfl | 1, _, 1, _ => rfl | 1, _, 2, _ => rfl | 1, _, 3, _ => rfl))
  have bx := below_box w1 (.cells #[.int .i64 2, .int .i64 a, .int .u64 0, .int .u64 0, .int .i64 2, .int .i64 ((a : Int) + 1), .int .u64 0, .int .u64 0] 49)
  replace HM := hid (HM.out.step bx); replace PM := hid (PM.out.step bx); replace PZ := hid (PZ.out.step bx); replace HB := hid (below_then HB.out bx)
  clear bx f0 f1 y00 y01 y02 yf0
  generalize w1.alloc (.cells #[.int .i64 2, .int .i64 a, .int .u64 0, .int .u64 0, .int .i64 2, .int .i64 ((a : Int) + 1), .int .u64 0, .int .u64 0] 49) = W2 at *
  refine (mrun_good A k c (some ⟨b, off, none⟩) k d f ws ls _ 2 2 [(2, (a : Int), 0, 0), (2, (a : Int) + 1, 0, 0)] W2 HM.out HSL.out (by omega) HG.out).mono ?_
  rintro e w3 ⟨A3, n3, c3, B3, k3, d3, G3, ng, cg, rfl, ho, hgo, hb⟩
  rw [HRN.out.2] at ho ⊢
  rw [HRN.out.1]
  dsimp only at ho ⊢
  have h3 := hid hb.size
  have hlt2 := hid PZ.out.lt
  replace HM := hid (HM.out.step hb); replace PM := hid (PM.out.step hb); replace PZ := hid (PZ.out.step hb); replace HB := hid (below_then HB.out hb)
  have HO := hid ho
  clear hb ho hgo
  have bx := below_box w3 (.cells (mcs A3 n3 c3 B3 k3 d3 f) 25)
  replace HM := hid (HM.out.step bx); replace PM := hid (PM.out.step bx); replace PZ := hid (PZ.out.step bx); replace HO := hid (HO.out.step bx); replace HB := hid (below_then HB.out bx)
  clear bx
  have PN := hid (Blk.new w3 25 (mcs A3 n3 c3 B3 k3 d3 f))
  obtain ⟨y00, y01, y02, yf0⟩ := PZ.out.cells3
  obtain ⟨y10, y11, y12, yf1⟩ := PN.out.cells3
  go_wp2
  obtain ⟨q0, q1, q2, qf⟩ := (((PZ.out.setCell 0 (.slice A3 n3 c3)).setCell 1 (.slice B3 k3 d3)).setCell 2 (.bool f)).cells3
  rw [HE2.out]
  refine bodyPost_ret (v := .tuple #[mv A3 n3 c3 B3 k3 d3 f, .int .i64 0]) (by simp [results, Try.results28, go_sem, q0, q1, q2]) rfl ⟨A3, n3, c3, B3, k3, d3, rfl, ?_, ((HB.out.setCell (by simp) _).setCell (by simp) _).setCell (by simp) _⟩
  have hz : w.heap.size + 1 < W2.heap.size := hlt2.out
  exact (((HO.out.setCell (p := ⟨w.heap.size + 1, 0, none⟩) hz _).setCell (p := ⟨w.heap.size + 1, 1, none⟩) hz _).setCell (p := ⟨w.heap.size + 1, 2, none⟩) hz _).mono (by omega)
end Go.Proofs.Ytaeanmkbongfcaa
