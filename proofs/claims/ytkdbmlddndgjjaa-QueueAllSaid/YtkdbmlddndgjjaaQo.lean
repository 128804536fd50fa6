/- afterglowlaw13: own, spoil. No condition but sizes. -/
import Derived.Test.YtkdbmlddndgjjaaQu3
namespace Go.Proofs.Ytkdbmlddndgjjaa
open Go.RowKit
set_option maxHeartbeats 2000000 in
theorem qown_any (A : Option Addr) (n c : Nat) (o : Int) (xs : List Cb) (w : World) (h : Sm 2 encC (0, 0) w 0 w.heap.size A n xs) (hnc : n ≤ c) :
    Calls Try.prog 8 #[qv A n c o] w fun e w' => ∃ A' n' c', e = .returned (qv A' n' c' o) ∧ n' ≤ 20 ∧ Om 2 encC w' w.heap.size 53 A' n' c' (xs.take 20) ∧ Below w.heap.size w w' := by
  have HR := hid h; have HB := hid (Below.refl w.heap.size w)
  clear h
  have bx := below_box w (.cells (qcs A n c o) 25)
  replace HR := hid (HR.out.step bx); replace HB := hid (below_then HB.out bx)
  clear bx
  have PQ := hid (Blk.new w 25 (qcs A n c o))
  have bx := below_box (w.alloc (.cells (qcs A n c o) 25)) (.cells (qcs none 0 0 0) 25)
  replace HR := hid (HR.out.step bx); replace PQ := hid (PQ.out.step bx); replace HB := hid (below_then HB.out bx)
  clear bx
  have PZ := hid (Blk.new2 w 25 (qcs none 0 0 0) (.cells (qcs A n c o) 25))
  go_enter Try.func8, Try.ntmps8
  go_upto_region 1 with fail
  have hz0 := hid (show ((w.alloc (.cells (qcs A n c o) 25)).alloc (.cells (qcs none 0 0 0) 25)).heap.size = w.heap.size + 2 by simp)
  generalize (w.alloc (.cells (qcs A n c o) 25)).alloc (.cells (qcs none 0 0 0) 25) = W0 at *
  have HS : Hid (∀ W, Below W0.heap.size W0 W → (W.cell? ⟨w.heap.size, 0, none⟩ = some (.slice A n c) ∧ W.cell? ⟨w.heap.size, 1, none⟩ = some (.int .u64 o))) := hid (fun W hb => ⟨(PQ.out.step hb).cells2.1, (PQ.out.step hb).cells2.2.1⟩)
  have HSF : Hid (∀ W, Below W0.heap.size W0 W → ∀ i v, (W.setCell ⟨w.heap.size + 1, i, none⟩ v).cell? ⟨w.heap.size, 0, none⟩ = some (.slice A n c) ∧ (W.setCell ⟨w.heap.size + 1, i, none⟩ v).cell? ⟨w.heap.size, 1, none⟩ = some (.int .u64 o)) := hid (fun W hb i v => ⟨((PQ.out.step hb).far (p := ⟨w.heap.size + 1, i, none⟩) (by simp) v).cells2.1, ((PQ.out.step hb).far (p := ⟨w.heap.size + 1, i, none⟩) (by simp) v).cells2.2.1⟩)
  have HSG : Hid (∀ W, Below W0.heap.size W0 W → ∀ i v j u, ((W.setCell ⟨w.heap.size + 1, i, none⟩ v).setCell ⟨w.heap.size + 1, j, none⟩ u).cell? ⟨w.heap.size, 0, none⟩ = some (.slice A n c) ∧ ((W.setCell ⟨w.heap.size + 1, i, none⟩ v).setCell ⟨w.heap.size + 1, j, none⟩ u).cell? ⟨w.heap.size, 1, none⟩ = some (.int .u64 o)) := hid (fun W hb i v j u => ⟨(((PQ.out.step hb).far (p := ⟨w.heap.size + 1, i, none⟩) (by simp) v).far (p := ⟨w.heap.size + 1, j, none⟩) (by simp) u).cells2.1, (((PQ.out.step hb).far (p := ⟨w.heap.size + 1, i, none⟩) (by simp) v).far (p := ⟨w.heap.size + 1, j, none⟩) (by simp) u).cells2.2.1⟩)
  rcases Nat.lt_or_ge 20 n with h20 | h20
  · skip
    have h1 : (20 : Int) < (n : Int) := by omega
    have h2 : (20 : Int) ≤ (c : Int) := by omega
    have h3 : ¬ (n : Int) ≤ 20 := by omega
    have h4 : min (n : Int) 20 = 20 := by omega
    have HC := hid (HR.out.take (show 20 ≤ n by omega))
    obtain ⟨f0, f1⟩ := HS.out W0 (Below.refl _ _)
    go_region_held3 (fun W => W.cell? ⟨w.heap.size, 0, none⟩ = some (.slice A n c) ∧ W.cell? ⟨w.heap.size, 1, none⟩ = some (.int .u64 o))
      (first | (exact HS.out _ (Below.refl _ _).drew) | (exact HS.out _ hq1) | (exact HSG.out _ hq1 _ _ _ _) | (exact HSF.out _ hq1 _ _))
      (first | (go_at_call 24; go_split_ands; (with_reducible refine (clone_cb A 20 c 0 (xs.take 20) W0.drew (HC.out.step (Below.refl W0.heap.size W0).drew) (by omega)).mono ?_); rintro e w1 ⟨A', c', rfl, ho, hb⟩; have hq1 := below_then (Below.refl W0.heap.size W0).drew hb; have HO := hid ho; obtain ⟨s0, s1, sf⟩ := (PZ.out.step hq1).cells2))
    all_goals
      have HB1 := hid (below_then HB.out hq1); have PZ1 := hid (PZ.out.step hq1); have hlz := PZ.out.lt
      clear f0 f1 s0 s1 sf hq1 ho hb
      go_wp2
      obtain ⟨q0, q1, qf⟩ := ((PZ1.out.setCell 0 (.slice A' 20 c')).setCell 1 (.int .u64 o)).cells2
      refine bodyPost_ret (v := qv A' 20 c' o) (by simp [results, Try.results8, go_sem, q0, q1]) rfl ?_
      have hlw : w.heap.size + 1 < W0.drew.heap.size := hlz
      exact ⟨A', 20, c', rfl, by omega, ((HO.out.setCell (p := ⟨w.heap.size + 1, 0, none⟩) hlw _).setCell (p := ⟨w.heap.size + 1, 1, none⟩) hlw _).mono (by omega), (HB1.out.setCell (by simp) _).setCell (by simp) _⟩
  · skip
    have h1 : ¬ (20 : Int) < (n : Int) := by omega
    have h2 : (n : Int) ≤ (c : Int) := by omega
    have h3 : (0 : Int) ≤ (n : Int) := by omega
    have h4 : min (n : Int) 20 = (n : Int) := by omega
    have HC := hid (show Sm 2 encC (0, 0) W0 0 W0.heap.size A n (xs.take 20) by rw [List.take_of_length_le (by have := HR.out.len; omega)]; exact HR.out)
    obtain ⟨f0, f1⟩ := HS.out W0 (Below.refl _ _)
    go_region_held3 (fun W => W.cell? ⟨w.heap.size, 0, none⟩ = some (.slice A n c) ∧ W.cell? ⟨w.heap.size, 1, none⟩ = some (.int .u64 o))
      (first | (exact HS.out _ (Below.refl _ _).drew) | (exact HS.out _ hq1) | (exact HSG.out _ hq1 _ _ _ _) | (exact HSF.out _ hq1 _ _))
      (first | (go_at_call 24; go_split_ands; (with_reducible refine (clone_cb A n c 0 (xs.take 20) W0.drew (HC.out.step (Below.refl W0.heap.size W0).drew) (by omega)).mono ?_); rintro e w1 ⟨A', c', rfl, ho, hb⟩; have hq1 := below_then (Below.refl W0.heap.size W0).drew hb; have HO := hid ho; obtain ⟨s0, s1, sf⟩ := (PZ.out.step hq1).cells2))
    all_goals
      have HB1 := hid (below_then HB.out hq1); have PZ1 := hid (PZ.out.step hq1); have hlz := PZ.out.lt
      clear f0 f1 s0 s1 sf hq1 ho hb
      go_wp2
      obtain ⟨q0, q1, qf⟩ := ((PZ1.out.setCell 0 (.slice A' n c')).setCell 1 (.int .u64 o)).cells2
      refine bodyPost_ret (v := qv A' n c' o) (by simp [results, Try.results8, go_sem, q0, q1]) rfl ?_
      have hlw : w.heap.size + 1 < W0.drew.heap.size := hlz
      exact ⟨A', n, c', rfl, by omega, ((HO.out.setCell (p := ⟨w.heap.size + 1, 0, none⟩) hlw _).setCell (p := ⟨w.heap.size + 1, 1, none⟩) hlw _).mono (by omega), (HB1.out.setCell (by simp) _).setCell (by simp) _⟩
/-- the numbers of a row that may be written -/
def Whats (w : World) (b off n : Nat) : Prop := (∀ k, k < n → ∃ v : Int, w.cell? ⟨b, off + k * 2 + 1, none⟩ = some (.int .u64 v)) ∧ ∀ i, w.frozen? ⟨b, i, none⟩ = false
theorem Whats.put {w : World} {b off n j : Nat} (h : Whats w b off n) (u : Int) (hj : j < n) : Whats (w.setCell ⟨b, off + j * 2 + 1, none⟩ (.int .u64 u)) b off n := by
  refine ⟨fun k hk => ?_, fun i => by rw [World.frozen?_setCell]; exact h.2 i⟩
  by_cases e : k = j
  · subst e
    obtain ⟨v, hv⟩ := h.1 k hk
    exact ⟨u, by rw [World.cell?_setCell_same _ _ _ (by rw [hv])]⟩
  · obtain ⟨v, hv⟩ := h.1 k hk
    exact ⟨v, (World.cell?_setCell_other w _ _ _ (fun he => by simp at he <;> omega)).trans hv⟩
set_option maxHeartbeats 1000000 in
theorem qspoil_any (lo : Nat) (A : Option Addr) (n c : Nat) (o : Int) (xs : List Cb) (w : World) (h : Qown w lo A n xs) (hlo : lo ≤ w.heap.size) (hn : n ≤ 1000000) :
    Calls Try.prog 13 #[qv A n c o] w fun e w' => (∃ v, e = .returned v) ∧ Below lo w w' := by
  have HQ := hid h
  have PQ := hid (Blk.new w 25 (qcs A n c o))
  have HB := hid ((Below.refl lo w).alloc hlo (.cells (qcs A n c o) 25))
  have bx := below_box w (.cells (qcs A n c o) 25)
  have HR := hid (show ∀ b off, A = some ⟨b, off, none⟩ → 0 < n → lo ≤ b ∧ b < w.heap.size ∧ Whats (w.alloc (.cells (qcs A n c o) 25)) b off n from fun b off hA hn0 => by
    obtain ⟨b', off', hA', h1, h2, h3⟩ := h.sm.row hn0
    rw [hA] at hA'
    cases hA'
    exact ⟨h1, h2, fun k hk => ⟨_, (bx.cell (p := ⟨b, off + k * 2 + 1, none⟩) h2).trans (h3 k hk 1 (by omega))⟩, fun i => (bx.frozen (p := ⟨b, i, none⟩) h2).trans (h.free hn0 b off hA i)⟩)
  have HA := hid (show 0 < n → ∃ b off, A = some ⟨b, off, none⟩ from fun hn0 => by
    obtain ⟨b', off', hA', _⟩ := h.sm.row hn0
    exact ⟨b', off', hA'⟩)
  clear h bx HQ
  obtain ⟨y0, y1, yf⟩ := PQ.out.cells2
  go_enter Try.func13, Try.ntmps13
  go_wp2_with fail
  clear y0 y1 yf
  generalize w.alloc (.cells (qcs A n c o) 25) = W0 at *
  go_loopw [6] (fun i wr => ∃ j : Nat, j ≤ n ∧ i = .int .i64 j ∧ Blk wr w.heap.size 25 (qcs A n c o) ∧ (∀ b off, A = some ⟨b, off, none⟩ → 0 < n → Whats wr b off n) ∧ Below lo w wr) (fun i _ => n - (intOf i).toNat)
  case atStart => exact ⟨0, Nat.zero_le _, rfl, PQ.out, fun b off h1 h2 => (HR.out b off h1 h2).2.2, HB.out⟩
  case round =>
    obtain ⟨j, hj, rfl, hp, hw, hb⟩ := hrel
    have HP := hid hp; have HW := hid hw; have HBr := hid hb
    clear hp hw hb
    by_cases hjn : j < n
    · obtain ⟨b, off, rfl⟩ := HA.out (by omega)
      have hlt := HR.out b off rfl (by omega)
      have hwh := HW.out b off rfl (by omega)
      obtain ⟨v, hv⟩ := hwh.1 j hjn
      have hf := hwh.2
      obtain ⟨y0, y1, yf⟩ := HP.out.cells2
      have HL := hid hlt; have HH := hid hwh
      clear hlt hwh
      go_wp2
      clear y0 y1 yf hv hf
      go_roundw
      case rel => exact ⟨j + 1, by omega, by go_num, HP.out.far (by have := HL.out.2.1; simp; omega) _, fun b' off' e _ => by cases e; exact HH.out.put _ hjn, HBr.out.setCell HL.out.1 _⟩
      case measure => simp [intOf]; omega
    · go_wp2
      go_end0
      exact ⟨⟨_, rfl⟩, HBr.out⟩
end Go.Proofs.Ytkdbmlddndgjjaa
