/- slices.Sort of a nil row of ints. No condition. -/
import Derived.Test.YtlidbiaadoigeaaSo
import Derived.LoopN
namespace Go.Proofs.Ytlidbiaadoigeaa
open Go.RowKit
theorem sort_nil (w : World) : Calls Try.prog 22 #[.slice none 0 0] w fun e w' => e = .returned (.tuple #[]) ∧ Below w.heap.size w w' := by
  have HB := hid (Below.refl w.heap.size w)
  go_enter Try.func22, Try.ntmps22
  go_wp2
  refine wp_loop_rounds 1 ?_
  rw [rounds_succ]
  go_wp2
  refine wp_loop_rounds 1 ?_
  rw [rounds_succ]
  go_wp2
  go_end0
  go_wp2
  first | go_end0 | refine bodyPost_ret (results_none rfl _ _ _) rfl ?_
  go_wp2
  go_end0
  exact ⟨rfl, HB.out⟩
/-- slices.Sort of an owned row, empty or not -/
theorem sort_own (A : Option Addr) (n c lo : Nat) (xs : List Int) (w : World) (h : Ow i64 w lo 3 A n c xs) (hn : n ≤ 1000000) (hlo : lo ≤ w.heap.size) :
    Calls Try.prog 22 #[.slice A n c] w fun e w' => e = .returned (.tuple #[]) ∧ Ow i64 w' lo 3 A n c (srt xs) ∧ Below lo w w' := by
  have e0 : srt [] = [] := List.length_eq_zero_iff.1 (srt_len [])
  rcases h.own.2 with ⟨hv, h1⟩ | ⟨g, cap, cur, hv, hb1, hg, h1, h2, h3, h4⟩
  · simp only [Value.slice.injEq] at hv
    obtain ⟨rfl, hn0, rfl⟩ := hv
    obtain rfl : n = 0 := by omega
    obtain rfl : xs = [] := List.length_eq_zero_iff.1 h.len
    refine (sort_nil w).mono ?_
    rintro e w' ⟨rfl, hb⟩
    exact ⟨rfl, by rw [e0]; exact Ow.nil _ _ _, ⟨hb.os, hb.tape, hb.output, hb.size, fun i hi => hb.block i (by omega)⟩⟩
  · rcases Nat.eq_zero_or_pos n with h0 | h0
    · subst h0
      obtain rfl : xs = [] := List.length_eq_zero_iff.1 h.len
      simp only [Value.slice.injEq] at hv
      obtain ⟨rfl, _, rfl⟩ := hv
      have hown := h
      refine (sort_blk g 3 cur 0 c [] w hg rfl (fun j hj => absurd hj (Nat.not_lt_zero _)) (by omega)).mono ?_
      rintro e w' ⟨rfl, k1, k2⟩
      have e1 : srtCells [] cur = cur := by unfold srtCells; simp [srt]
      rw [e1] at k1
      exact ⟨rfl, by rw [e0]; exact hown.same (fun a ha => by cases ha; exact k1.trans hg.symm), (Below.refl lo w).grown k2 hlo (fun r e => by cases e; exact hb1)⟩
    · refine (sort_ow A n c lo xs w h h0 hn).mono ?_
      rintro e w' ⟨rfl, k1, k2⟩
      exact ⟨rfl, k1, (Below.refl lo w).grown k2 hlo (fun r e => h.row_ge r e)⟩
end Go.Proofs.Ytlidbiaadoigeaa
