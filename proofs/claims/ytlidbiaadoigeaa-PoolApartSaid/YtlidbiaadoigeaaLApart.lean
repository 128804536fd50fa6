/- afterglowlaw07.PoolApart returns true at every pool and two numbers, and turns nothing old. No condition but the sizes of memory. -/
import Derived.Test.YtlidbiaadoigeaaPool11
namespace Go.Proofs.Ytlidbiaadoigeaa
open Go.RowKit

theorem kmod16 (off : Int) : 0 ≤ wrap64 ((IntKind.u64.wrap off).tmod 16) ∧ wrap64 ((IntKind.u64.wrap off).tmod 16) < 16 := by
  have h0 : 0 ≤ IntKind.u64.wrap off := by rw [IntKind.wrap_u64]; omega
  rw [Int.tmod_eq_emod_of_nonneg h0, IntWalk.wrap64_in _ ⟨by omega, by omega⟩]
  omega
set_option maxHeartbeats 4000000 in
set_option maxRecDepth 100000 in
theorem apart_any (base pages : Int) (A : Option Addr) (n c lo : Nat) (xs : List Int) (page off : Int) (w : World) (h : Sl i64 0 w lo w.heap.size A n xs) (hnc : n ≤ c)
    (hp : -9223372036854775808 ≤ page ∧ page ≤ 9223372036854775807) (ho : -9223372036854775808 ≤ off ∧ off ≤ 9223372036854775807) :
    Calls Try.prog 5 #[pv base pages A n c, .int .i64 page, .int .i64 off] w fun e w' => e = .returned (.bool true) ∧ Below w.heap.size w w' := by
  have hB := below_box w (.cells #[.int .i64 base, .int .i64 pages, .slice A n c] 24)
  have S0 := h.step hB
  have P0 := Blk.new w 24 #[.int .i64 base, .int .i64 pages, .slice A n c]
  clear h
  go_enter Try.func5, Try.ntmps5
  go_wp2_with fail
  generalize w.alloc (.cells #[.int .i64 base, .int .i64 pages, .slice A n c] 24) = W0 at *
  refine (wakes_any _).mono ?_
  rintro e W1 ⟨rfl, hb1⟩
  replace S0 := S0.step hb1
  replace P0 := P0.step hb1
  replace hB := below_then hB hb1
  clear hb1
  obtain ⟨nq00, nq01, nq02, nf0⟩ := P0.cells3
  go_wp2_with fail
  clear nq00 nq01 nq02 nf0 
  -- p := own(x)
  refine (own_any base pages A n c lo xs W1 S0 hnc).mono ?_
  rintro e w2 ⟨A2, c2, rfl, hown2, hb2⟩
  obtain ⟨m, hm⟩ : ∃ m, m = min n 70 := ⟨_, rfl⟩
  obtain ⟨ys, hys⟩ : ∃ ys, ys = xs.take 70 := ⟨_, rfl⟩
  rw [← hm, ← hys] at hown2
  rw [← hm]
  have hm' : m ≤ 70 := by omega
  clear hm hys
  have hx := below_then hb2 (below_box w2 (.cells #[.int .i64 base, .int .i64 pages, .slice A2 m c2] 24))
  have S2 := (hown2.sl (d := 0)).step (below_box w2 (.cells #[.int .i64 base, .int .i64 pages, .slice A2 m c2] 24))
  have C2 := hown2.cap.1
  have P2 := Blk.new w2 24 #[.int .i64 base, .int .i64 pages, .slice A2 m c2]
  replace hB := below_then hB hx
  clear hx hb2 hown2 S0 P0
  go_wp2_with fail
  generalize w2.alloc (.cells #[.int .i64 base, .int .i64 pages, .slice A2 m c2] 24) = W2 at *
  by_cases hf : freeB base pages ys = true
  · have hs := sizedB_iff.1 (freeB_sized hf)
    by_cases hpg : 0 ≤ page ∧ page < pages
    · obtain ⟨hp0, hp1⟩ := hpg
      have e1 : wordF base pages ys page = (base + page * 16, 0) := by rw [wordF, if_pos hf, if_pos ⟨hp0, hp1⟩]
      have hw := word_any base pages A2 m c2 _ ys page W2 S2 (by omega)
      rw [e1] at hw
      have HW := hid hw
      have HF := hid hf
      clear hw e1 hf
      refine (HW.out).mono ?_
      rintro e W3 ⟨rfl, hb3⟩
      replace S2 := S2.step hb3
      replace P2 := P2.step hb3
      replace hB := below_then hB hb3
      clear hb3
      obtain ⟨nq00, nq01, nq02, nf0⟩ := P2.cells3
      go_wp2_with fail
      clear nq00 nq01 nq02 nf0 
      obtain ⟨k, hk⟩ : ∃ k, k = wrap64 ((IntKind.u64.wrap off).tmod 16) := ⟨_, rfl⟩
      rw [← hk]
      have hk16 : 0 ≤ k ∧ k < 16 := by rw [hk]; exact kmod16 off
      clear hk ho
      obtain ⟨hk0, hk1⟩ := hk16
      rw [show wrap64 (base + page * 16 + k) = base + page * 16 + k from IntWalk.wrap64_in _ ⟨by omega, by omega⟩]
      have e2 : pageF base pages ys (base + page * 16 + k) = (page, k, 0) := by
        rw [pageF, if_pos HF.out, if_pos (by omega)]
        rw [show (base + page * 16 + k - base) / 16 = page by omega, show (base + page * 16 + k - base) % 16 = k by omega]
      have hq := page_any base pages A2 m c2 _ ys (base + page * 16 + k) W3 S2 (by omega)
      rw [e2] at hq
      have HQ := hid hq
      clear hq e2
      refine (HQ.out).mono ?_
      rintro e W4 ⟨rfl, hb4⟩
      replace S2 := S2.step hb4
      replace P2 := P2.step hb4
      replace hB := below_then hB hb4
      clear hb4
      obtain ⟨nq00, nq01, nq02, nf0⟩ := P2.cells3
      go_wp2_with fail
      clear nq00 nq01 nq02 nf0 
      by_cases hl : page + 1 < pages
      · have e3 : wordF base pages ys (page + 1) = (base + (page + 1) * 16, 0) := by rw [wordF, if_pos HF.out, if_pos (by omega)]
        have hw := word_any base pages A2 m c2 _ ys (page + 1) W4 S2 (by omega)
        rw [e3] at hw
        have HW2 := hid hw
        clear hw e3
        refine (HW2.out).mono ?_
        rintro e W5 ⟨rfl, hb5⟩
        replace S2 := S2.step hb5
        replace P2 := P2.step hb5
        replace hB := below_then hB hb5
        clear hb5
        obtain ⟨nq00, nq01, nq02, nf0⟩ := P2.cells3
        go_wp2_with fail
        clear nq00 nq01 nq02 nf0 
        have e4 : pageF base pages ys (base + page * 16 + 16) = (page + 1, 0, 0) := by
          rw [pageF, if_pos HF.out, if_pos (by omega)]
          rw [show (base + page * 16 + 16 - base) / 16 = page + 1 by omega, show (base + page * 16 + 16 - base) % 16 = 0 by omega]
        have hq := page_any base pages A2 m c2 _ ys (base + page * 16 + 16) W5 S2 (by omega)
        rw [e4] at hq
        have HQ2 := hid hq
        clear hq e4
        refine (HQ2.out).mono ?_
        rintro e W6 ⟨rfl, hb6⟩
        replace S2 := S2.step hb6
        replace P2 := P2.step hb6
        replace hB := below_then hB hb6
        clear hb6
        obtain ⟨nq00, nq01, nq02, nf0⟩ := P2.cells3
        go_wp2_with fail
        clear nq00 nq01 nq02 nf0 
        all_goals go_ret
        all_goals exact ⟨ret_bool (by simp <;> omega), hB⟩
      · have e3 : wordF base pages ys (page + 1) = (0, 2) := by rw [wordF, if_pos HF.out, if_neg (by omega)]
        have hw := word_any base pages A2 m c2 _ ys (page + 1) W4 S2 (by omega)
        rw [e3] at hw
        have HW2 := hid hw
        clear hw e3
        refine (HW2.out).mono ?_
        rintro e W5 ⟨rfl, hb5⟩
        replace S2 := S2.step hb5
        replace P2 := P2.step hb5
        replace hB := below_then hB hb5
        clear hb5
        obtain ⟨nq00, nq01, nq02, nf0⟩ := P2.cells3
        go_wp2_with fail
        clear nq00 nq01 nq02 nf0 
        have e4 : pageF base pages ys (base + page * 16 + 16) = (0, 0, 2) := by
          rw [pageF, if_pos HF.out, if_neg (by omega)]
        have hq := page_any base pages A2 m c2 _ ys (base + page * 16 + 16) W5 S2 (by omega)
        rw [e4] at hq
        have HQ2 := hid hq
        clear hq e4
        refine (HQ2.out).mono ?_
        rintro e W6 ⟨rfl, hb6⟩
        replace S2 := S2.step hb6
        replace P2 := P2.step hb6
        replace hB := below_then hB hb6
        clear hb6
        obtain ⟨nq00, nq01, nq02, nf0⟩ := P2.cells3
        go_wp2_with fail
        clear nq00 nq01 nq02 nf0 
        all_goals go_ret
        all_goals exact ⟨ret_bool (by simp <;> omega), hB⟩
    · have e1 : wordF base pages ys page = (0, 2) := by rw [wordF, if_pos hf, if_neg hpg]
      have hw := word_any base pages A2 m c2 _ ys page W2 S2 (by omega)
      rw [e1] at hw
      have HW := hid hw
      have HF := hid hf
      clear hw e1 hf
      refine (HW.out).mono ?_
      rintro e W3 ⟨rfl, hb3⟩
      replace S2 := S2.step hb3
      replace P2 := P2.step hb3
      replace hB := below_then hB hb3
      clear hb3
      obtain ⟨nq00, nq01, nq02, nf0⟩ := P2.cells3
      go_wp2_with fail
      clear nq00 nq01 nq02 nf0 
      refine (check_yes base pages A2 m c2 _ ys _ S2 (by omega) HF.out).mono ?_
      rintro e W4 ⟨rfl, hb4⟩
      replace S2 := S2.step hb4
      replace P2 := P2.step hb4
      replace hB := below_then hB hb4
      clear hb4
      obtain ⟨nq00, nq01, nq02, nf0⟩ := P2.cells3
      go_wp2_with fail
      clear nq00 nq01 nq02 nf0 
      go_ret
      exact ⟨rfl, hB⟩
  · have e1 : wordF base pages ys page = (0, 170) := by rw [wordF, if_neg hf]
    have hw := word_any base pages A2 m c2 _ ys page W2 S2 (by omega)
    rw [e1] at hw
    have HW := hid hw
    have HF := hid (show freeB base pages ys = false by simpa using hf)
    clear hw e1 hf
    refine (HW.out).mono ?_
    rintro e W3 ⟨rfl, hb3⟩
    replace S2 := S2.step hb3
    replace P2 := P2.step hb3
    replace hB := below_then hB hb3
    clear hb3
    obtain ⟨nq00, nq01, nq02, nf0⟩ := P2.cells3
    go_wp2_with fail
    clear nq00 nq01 nq02 nf0 
    refine (check_no base pages A2 m c2 _ ys _ S2 (by omega) HF.out).mono ?_
    rintro e W4 ⟨rfl, hb4⟩
    replace S2 := S2.step hb4
    replace P2 := P2.step hb4
    replace hB := below_then hB hb4
    clear hb4
    obtain ⟨nq00, nq01, nq02, nf0⟩ := P2.cells3
    go_wp2_with fail
    clear nq00 nq01 nq02 nf0 
    go_ret
    exact ⟨rfl, hB⟩
end Go.Proofs.Ytlidbiaadoigeaa
