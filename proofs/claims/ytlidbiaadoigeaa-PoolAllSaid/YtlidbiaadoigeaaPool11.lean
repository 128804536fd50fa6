/- package pool: Take and Give, by their ways; afterglowlaw07.wakes returns true. No condition but sizes. -/
import Derived.Test.YtlidbiaadoigeaaPool10
namespace Go.Proofs.Ytlidbiaadoigeaa
open Go.RowKit

section
variable (base pages : Int) (A Ap : Option Addr) (n c lo np cp lop n' : Nat) (xs ys ps : List Int) (pg : Int) (w : World)
theorem take_ok (h : Sl i64 0 w lo w.heap.size A n xs) (hn : n ≤ 500) (hnc : n ≤ c) (hf : freeB base pages xs = true) (hx : xs = ys ++ [pg]) (hn' : ys.length = n') :
    Calls Try.prog 10 #[pv base pages A n c] w fun e w' => ∃ A' c', e = .returned (.tuple #[pv base pages A' n' c', .int .i64 pg, .int .i64 0]) ∧ Ow i64 w' w.heap.size 3 A' n' c' ys ∧ Below w.heap.size w w' := by
  refine (take_calls base pages A n c lo xs w h hn hnc).mono ?_
  rintro e w' ⟨b', p', A', m', c', ys', pg', he, h1, h2, h3⟩
  have e0 : takeE base pages xs = 0 := by rw [takeE, if_pos hf, if_neg (by rw [hx]; simp)]
  rw [e0] at he h1
  rw [if_pos rfl] at h1
  obtain ⟨rfl, rfl, h4⟩ := h1
  obtain ⟨h5, h6⟩ := List.append_inj' (hx.symm.trans h4) rfl
  simp only [List.cons.injEq, and_true] at h6
  subst h5 h6
  obtain rfl : n' = m' := hn'.symm.trans h2.len
  exact ⟨A', c', he, h2, h3⟩
theorem take_no (h : Sl i64 0 w lo w.heap.size A n xs) (hn : n ≤ 500) (hnc : n ≤ c) (code : Int) (hc : takeE base pages xs = code) (h0 : code ≠ 0) :
    Calls Try.prog 10 #[pv base pages A n c] w fun e w' => ∃ A' c', e = .returned (.tuple #[pv 0 0 A' 0 c', .int .i64 0, .int .i64 code]) ∧ Ow i64 w' w.heap.size 3 A' 0 c' [] ∧ Below w.heap.size w w' := by
  refine (take_calls base pages A n c lo xs w h hn hnc).mono ?_
  rintro e w' ⟨b', p', A', m', c', ys', pg', he, h1, h2, h3⟩
  rw [hc] at he h1
  rw [if_neg h0] at h1
  obtain ⟨rfl, rfl, rfl, rfl⟩ := h1
  obtain rfl : 0 = m' := h2.len
  exact ⟨A', c', he, h2, h3⟩
theorem give_ok (h : Sl i64 0 w lo w.heap.size A n xs) (hp : Sl i64 0 w lop w.heap.size Ap np ps) (hn : n ≤ 500) (hnp : np ≤ 500) (hf : freeB base pages xs = true) (he : giveE pages xs ps = 0) :
    Calls Try.prog 12 #[pv base pages A n c, .slice Ap np cp] w fun e w' => ∃ A' c', e = .returned (.tuple #[pv base pages A' (n + np) c', .int .i64 0]) ∧ Ow i64 w' w.heap.size 3 A' (n + np) c' (xs ++ ps) ∧ Below w.heap.size w w' := by
  refine (give_any base pages A Ap n c lo np cp lop xs ps w h hp hn hnp).mono ?_
  rintro e w' ⟨b', p', A', m', c', ys', he', h1, h2, h3⟩
  rw [givePR, if_pos hf, giveR, if_pos he] at h1
  rw [giveP, if_pos hf, he] at he'
  simp only [Prod.mk.injEq] at h1
  obtain ⟨rfl, rfl, rfl⟩ := h1
  obtain rfl : n + np = m' := by rw [← h2.len, List.length_append, h.len, hp.len]
  exact ⟨A', c', he', h2, h3⟩
theorem give_no (h : Sl i64 0 w lo w.heap.size A n xs) (hp : Sl i64 0 w lop w.heap.size Ap np ps) (hn : n ≤ 500) (hnp : np ≤ 500) (code : Int) (hc : giveP base pages xs ps = code) (h0 : code ≠ 0) :
    Calls Try.prog 12 #[pv base pages A n c, .slice Ap np cp] w fun e w' => ∃ A' c', e = .returned (.tuple #[pv 0 0 A' 0 c', .int .i64 code]) ∧ Ow i64 w' w.heap.size 3 A' 0 c' [] ∧ Below w.heap.size w w' := by
  refine (give_any base pages A Ap n c lo np cp lop xs ps w h hp hn hnp).mono ?_
  rintro e w' ⟨b', p', A', m', c', ys', he', h1, h2, h3⟩
  have h4 : givePR base pages xs ps = (0, 0, []) := by
    rw [givePR]
    by_cases hf : freeB base pages xs = true
    · rw [giveP, if_pos hf] at hc
      rw [if_pos hf, giveR, if_neg (by rw [hc]; exact h0)]
    · rw [if_neg hf]
  rw [h4] at h1
  rw [hc] at he'
  simp only [Prod.mk.injEq] at h1
  obtain ⟨rfl, rfl, rfl⟩ := h1
  obtain rfl : 0 = m' := h2.len
  exact ⟨A', c', he', h2, h3⟩
end

theorem dL3 : downL 3 (3 : Int).toNat = [2, 1, 0] := by decide
set_option maxHeartbeats 4000000 in
set_option maxRecDepth 100000 in
theorem wakes_any (w : World) : Calls Try.prog 7 #[] w fun e w' => e = .returned (.bool true) ∧ Below w.heap.size w w' := by
  have hB := Below.refl w.heap.size w
  go_enter Try.func7, Try.ntmps7
  go_wp2_with fail
  -- p, e := New(32, 3)
  refine (new_yes 32 3 w (by decide)).mono ?_
  rintro e w1 ⟨A1, c1, rfl, hown1, hb1⟩
  rw [dL3] at hown1
  rw [show (3 : Int).toNat = 3 by decide] at hown1 ⊢
  have S1 := (hown1.sl (d := 0)).step (below_box w1 (.cells #[.int .i64 32, .int .i64 3, .slice A1 3 c1] 24))
  have C1 := hown1.cap.1
  have P1 := Blk.new w1 24 #[.int .i64 32, .int .i64 3, .slice A1 3 c1]
  have hB := below_then hb1 (below_box w1 (.cells #[.int .i64 32, .int .i64 3, .slice A1 3 c1] 24))
  clear hown1 hb1
  go_wp2_with fail
  have HZ1 := hid (World.size_alloc w1 (.cells #[.int .i64 32, .int .i64 3, .slice A1 3 c1] 24))
  generalize w1.alloc (.cells #[.int .i64 32, .int .i64 3, .slice A1 3 c1] 24) = W1 at *
  -- a, n, f := Take(p)
  refine (take_ok 32 3 A1 3 c1 _ 2 [2, 1, 0] [2, 1] 0 _ S1 (by omega) C1 (by decide) rfl rfl).mono ?_
  rintro e w2 ⟨A2, c2, rfl, hown2, hb2⟩
  have hx := below_then hb2 (below_box w2 (.cells #[.int .i64 32, .int .i64 3, .slice A2 2 c2] 24))
  replace P1 := P1.step hx
  replace S1 := S1.step hx
  have S2 := (hown2.sl (d := 0)).step (below_box w2 (.cells #[.int .i64 32, .int .i64 3, .slice A2 2 c2] 24))
  have C2 := hown2.cap.1
  clear hown2
  have P2 := Blk.new w2 24 #[.int .i64 32, .int .i64 3, .slice A2 2 c2]
  have HZ2 := hid (World.size_alloc w2 (.cells #[.int .i64 32, .int .i64 3, .slice A2 2 c2] 24))
  replace hB := below_then hB hx
  clear hx hb2
  go_wp2_with fail
  generalize w2.alloc (.cells #[.int .i64 32, .int .i64 3, .slice A2 2 c2] 24) = W2 at *
  -- b, m, g := Take(a)
  refine (take_ok 32 3 A2 2 c2 _ 1 [2, 1] [2] 1 _ S2 (by omega) C2 (by decide) rfl rfl).mono ?_
  rintro e w3 ⟨A3, c3, rfl, hown3, hb3⟩
  have hx := below_then hb3 (below_box w3 (.cells #[.int .i64 32, .int .i64 3, .slice A3 1 c3] 24))
  replace P1 := P1.step hx
  replace S1 := S1.step hx
  replace P2 := P2.step hx
  have S3 := (hown3.sl (d := 0)).step (below_box w3 (.cells #[.int .i64 32, .int .i64 3, .slice A3 1 c3] 24))
  have C3 := hown3.cap.1
  clear hown3
  have P3 := Blk.new w3 24 #[.int .i64 32, .int .i64 3, .slice A3 1 c3]
  have HZ3 := hid (World.size_alloc w3 (.cells #[.int .i64 32, .int .i64 3, .slice A3 1 c3] 24))
  replace hB := below_then hB hx
  clear hx hb3
  go_wp2_with fail
  generalize w3.alloc (.cells #[.int .i64 32, .int .i64 3, .slice A3 1 c3] 24) = W3 at *
  -- c, h := Give(b, 0)
  have L0 : Sl i64 0 (W3.alloc (.cells #[i64 0] 3)) 0 (W3.alloc (.cells #[i64 0] 3)).heap.size (some ⟨w3.heap.size + 1, 0, none⟩) 1 [0] := Sl.lit [0] _ (HZ3.out.symm) (by simp)
  have bb := below_box W3 (.cells #[i64 0] 3)
  replace P1 := P1.step bb
  replace S1 := S1.step bb
  replace P3 := P3.step bb
  replace S3 := S3.step bb
  replace hB := below_then hB bb
  clear bb
  generalize W3.alloc (.cells #[i64 0] 3) = V3 at *
  refine (give_ok 32 3 A3 _ 1 c3 _ 1 1 _ [2] [0] _ S3 L0 (by omega) (by omega) (by decide) (by decide)).mono ?_
  rintro e w4 ⟨A4, c4, rfl, hown4, hb4⟩
  have hx := below_then hb4 (below_box w4 (.cells #[.int .i64 32, .int .i64 3, .slice A4 2 c4] 24))
  replace P1 := P1.step hx
  replace S1 := S1.step hx
  replace P3 := P3.step hx
  replace S3 := S3.step hx
  have S4 := (hown4.sl (d := 0)).step (below_box w4 (.cells #[.int .i64 32, .int .i64 3, .slice A4 2 c4] 24))
  have C4 := hown4.cap.1
  clear hown4
  have P4 := Blk.new w4 24 #[.int .i64 32, .int .i64 3, .slice A4 2 c4]
  have HZ4 := hid (World.size_alloc w4 (.cells #[.int .i64 32, .int .i64 3, .slice A4 2 c4] 24))
  replace hB := below_then hB hx
  clear hx hb4
  go_wp2_with fail
  generalize w4.alloc (.cells #[.int .i64 32, .int .i64 3, .slice A4 2 c4] 24) = W4 at *
  -- _, k, i := Take(c)
  refine (take_ok 32 3 A4 2 c4 _ 1 [2, 0] [2] 0 _ S4 (by omega) C4 (by decide) rfl rfl).mono ?_
  rintro e w5 ⟨A5, c5, rfl, hown5, hb5⟩
  have hx := below_then hb5 (below_box w5 (.cells #[.int .i64 32, .int .i64 3, .slice A5 1 c5] 24))
  replace P1 := P1.step hx
  replace S1 := S1.step hx
  replace P3 := P3.step hx
  replace S3 := S3.step hx
  have S5 := (hown5.sl (d := 0)).step (below_box w5 (.cells #[.int .i64 32, .int .i64 3, .slice A5 1 c5] 24))
  have C5 := hown5.cap.1
  clear hown5
  have P5 := Blk.new w5 24 #[.int .i64 32, .int .i64 3, .slice A5 1 c5]
  have HZ5 := hid (World.size_alloc w5 (.cells #[.int .i64 32, .int .i64 3, .slice A5 1 c5] 24))
  replace hB := below_then hB hx
  clear hx hb5
  obtain ⟨nq00, nq01, nq02, nf0⟩ := P1.cells3
  go_wp2_with fail
  clear nq00 nq01 nq02 nf0 
  generalize w5.alloc (.cells #[.int .i64 32, .int .i64 3, .slice A5 1 c5] 24) = W5 at *
  -- w, j := Word(p, 2)
  refine (word_any 32 3 A1 3 c1 _ [2, 1, 0] 2 _ S1 (by omega)).mono ?_
  rintro e W6 ⟨rfl, hb6⟩
  replace P1 := P1.step hb6
  replace S1 := S1.step hb6
  replace P3 := P3.step hb6
  replace S3 := S3.step hb6
  replace hB := below_then hB hb6
  clear hb6
  obtain ⟨nq00, nq01, nq02, nf0⟩ := P1.cells3
  go_wp2_with fail
  clear nq00 nq01 nq02 nf0 
  rw [show wordF 32 3 [2, 1, 0] 2 = (64, 0) by decide]
  -- _, no := Give(p, 1)
  have L1 : Sl i64 0 (W6.alloc (.cells #[i64 1] 3)) 0 (W6.alloc (.cells #[i64 1] 3)).heap.size (some ⟨W6.heap.size, 0, none⟩) 1 [1] := Sl.lit [1] _ (rfl) (by simp)
  have bb := below_box W6 (.cells #[i64 1] 3)
  replace P1 := P1.step bb
  replace S1 := S1.step bb
  replace P3 := P3.step bb
  replace S3 := S3.step bb
  replace hB := below_then hB bb
  clear bb
  generalize W6.alloc (.cells #[i64 1] 3) = V6 at *
  refine (give_no 32 3 A1 _ 3 c1 _ 1 1 _ [2, 1, 0] [1] _ S1 L1 (by omega) (by omega) 5 (by decide) (by decide)).mono ?_
  rintro e w7 ⟨A7, c7, rfl, hown7, hb7⟩
  have hx := below_then hb7 (below_box w7 (.cells #[.int .i64 0, .int .i64 0, .slice A7 0 c7] 24))
  replace P3 := P3.step hx
  replace S3 := S3.step hx
  have S7 := (hown7.sl (d := 0)).step (below_box w7 (.cells #[.int .i64 0, .int .i64 0, .slice A7 0 c7] 24))
  have C7 := hown7.cap.1
  clear hown7
  have P7 := Blk.new w7 24 #[.int .i64 0, .int .i64 0, .slice A7 0 c7]
  have HZ7 := hid (World.size_alloc w7 (.cells #[.int .i64 0, .int .i64 0, .slice A7 0 c7] 24))
  replace hB := below_then hB hx
  clear hx hb7
  obtain ⟨nq00, nq01, nq02, nf0⟩ := P3.cells3
  go_wp2_with fail
  clear nq00 nq01 nq02 nf0 
  generalize w7.alloc (.cells #[.int .i64 0, .int .i64 0, .slice A7 0 c7] 24) = W7 at *
  -- Taken(b), and the row that is wanted
  refine (taken_any 32 3 A3 1 c3 _ [2] _ S3 (by omega)).mono ?_
  rintro e W8 ⟨A8, m8, c8, rfl, hown8, hb8⟩
  rw [show takenL 32 3 [2] = [0, 1] by decide] at hown8
  obtain rfl : 2 = m8 := hown8.len
  have S8 := hown8.sl (d := 0)
  replace hB := below_then hB hb8
  clear hb8 hown8
  go_wp2_with fail
  have L2 : Sl i64 0 (W8.alloc (.cells #[i64 0, i64 1] 3)) 0 (W8.alloc (.cells #[i64 0, i64 1] 3)).heap.size (some ⟨W8.heap.size, 0, none⟩) 2 [0, 1] := Sl.lit [0, 1] _ (rfl) (by simp)
  have bb := below_box W8 (.cells #[i64 0, i64 1] 3)
  replace S8 := S8.step bb
  replace hB := below_then hB bb
  clear bb
  generalize W8.alloc (.cells #[i64 0, i64 1] 3) = V8 at *
  refine (equal_int A8 _ 2 c8 2 _ _ _ _ _ [0, 1] [0, 1] _ S8 L2 (by omega) (by omega)).mono ?_
  rintro e W9 ⟨rfl, q, rfl⟩
  rw [show decide (([0, 1] : List Int) = [0, 1]) = true by decide]
  go_wp2
  go_ret
  exact ⟨rfl, below_drewN hB q⟩
end Go.Proofs.Ytlidbiaadoigeaa
