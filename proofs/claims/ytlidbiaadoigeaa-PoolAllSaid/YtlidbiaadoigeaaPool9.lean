/- package pool: Give. No condition but sizes. -/
import Derived.Test.YtlidbiaadoigeaaPool8
namespace Go.Proofs.Ytlidbiaadoigeaa
open Go.RowKit

theorem wpList_build2 {P : Program} {ops : Array Oper} {rest : List Oper} {o : Oper} {a : Act} {w : World} {Q : Exit → Act → World → Prop} (hgd : o.guard = none) (t : TypeId) (x y : Operand) (ho : o.op = .build t #[(0, x), (1, y)])
    (u v : Value) (hx : a.eval x = u) (hy : a.eval y = v) (cells : Array Value) (hc : P.built t [(0, u), (1, v)] = some cells)
    (h : wpList P ops Q rest (a.put o.dst (.agg cells)) w) : wpList P ops Q (o :: rest) a w := by
  refine wpList_build hgd t _ ho ?_ ?_
  · simp [hx, hy, hc]
  · simpa [hx, hy, hc] using h

theorem built_hand' (base pages : Int) (A : Option Addr) (n c : Nat) (fl : Array Value) (hf : fl.size = 64) :
    Try.prog.built 62 [(0, .agg #[.int .i64 base, .int .i64 pages, .slice A n c]), (1, .agg fl)] = some (hand base pages A n c fl) := built_hand _ _ rfl hf
def giveP (base pages : Int) (xs ps : List Int) : Int := if freeB base pages xs = true then giveE pages xs ps else 170
def givePR (base pages : Int) (xs ps : List Int) : Int × Int × List Int := if freeB base pages xs = true then giveR base pages xs ps else (0, 0, [])
def PGivePost (w : World) (base pages : Int) (xs ps : List Int) (e : Ending) (w' : World) : Prop :=
  ∃ b' p' A' n' c' ys, e = .returned (.tuple #[pv b' p' A' n' c', .int .i64 (giveP base pages xs ps)]) ∧ givePR base pages xs ps = (b', p', ys) ∧ Ow i64 w' w.heap.size 3 A' n' c' ys ∧ Below w.heap.size w w'

theorem giveE_giveC {pages : Int} {free ps : List Int} {k : Nat} {x : Int} (hk : k < ps.length) (hx : x = ps[k]?.getD 0) :
    giveE pages (free ++ ps.take k) (ps.drop k) = if giveC pages (free ++ ps.take k) x = 0 then giveE pages (free ++ ps.take (k + 1)) (ps.drop (k + 1)) else giveC pages (free ++ ps.take k) x := by
  rw [giveE_step hk hx]
  unfold giveC
  by_cases h1 : x < 0 ∨ pages ≤ x
  · rw [if_pos h1, if_pos h1]; rfl
  · rw [if_neg h1, if_neg h1]
    by_cases h2 : x ∈ free ++ ps.take k
    · rw [if_pos h2, if_pos h2]; rfl
    · rw [if_neg h2, if_neg h2]; rfl

set_option maxHeartbeats 4000000 in
theorem give_any (base pages : Int) (A Ap : Option Addr) (n c lo np cp lop : Nat) (xs ps : List Int) (w : World) (h : Sl i64 0 w lo w.heap.size A n xs) (hp : Sl i64 0 w lop w.heap.size Ap np ps) (hn : n ≤ 500) (hnp : np ≤ 500) :
    Calls Try.prog 12 #[pv base pages A n c, .slice Ap np cp] w (PGivePost w base pages xs ps) := by
  have H := hid (free_any base pages A n c lo xs _ ((h.boxed (.cells #[.int .i64 base, .int .i64 pages, .slice A n c] 24)).boxed (.cells #[.int .i64 0, .int .i64 0, .slice none 0 0] 24)) (by omega))
  have HX := hid h; have HP := hid hp
  clear h hp
  go_enter Try.func12, Try.ntmps12
  go_wp2_with fail
  go_step3
  go_wp2_with fail
  refine H.out.mono ?_
  rintro e w1 ⟨fl, rfl, hs, h1, hfl, hb⟩
  have HS := hid hs; have H1 := hid h1; have HF := hid hfl; clear hs h1 hfl H
  have b0 := ((Blk.new w 24 #[.int .i64 base, .int .i64 pages, .slice A n c]).alloc (.cells #[.int .i64 0, .int .i64 0, .slice none 0 0] 24)).below hb (by simp <;> omega)
  have b1 := (Blk.new2 w 24 #[.int .i64 0, .int .i64 0, .slice none 0 0] (.cells #[.int .i64 base, .int .i64 pages, .slice A n c] 24)).below hb (by simp <;> omega)
  have hz : w.heap.size + 2 ≤ w1.heap.size := by have := hb.size; simp at this; omega
  have hB : Below w.heap.size w w1 := Below.trans (b := (w.alloc (.cells #[.int .i64 base, .int .i64 pages, .slice A n c] 24)).alloc (.cells #[.int .i64 0, .int .i64 0, .slice none 0 0] 24)) (by repeat (first | (with_reducible exact (Below.refl _ _)) | (with_reducible refine Below.setCell ?_ ?_ _; rotate_left; focus (first | omega | (simp; done) | (simp; omega) | (simp only [World.size_alloc, size_setRow, World.size_setCell]; omega))) | (with_reducible refine below_setRow ?_ ?_ _; rotate_left; focus (first | omega | (simp; done) | (simp; omega) | (simp only [World.size_alloc, size_setRow, World.size_setCell]; omega))) | (with_reducible refine Below.alloc ?_ ?_ _; rotate_left; focus (first | omega | (simp; done) | (simp; omega) | (simp only [World.size_alloc, size_setRow, World.size_setCell]; omega))) | (with_reducible refine Below.drew ?_) | (with_reducible refine below_drewN ?_ _) | (with_reducible exact Below.refl _ _))) (hb.mono (by simp <;> omega))
  clear hb
  obtain ⟨k0, k1, k2, kf⟩ := ((b0.alloc (.cells F0 57)).farRow (cs' := fl) (k := w1.heap.size) (by omega)).cells3
  obtain ⟨r0, r1, r2, rf⟩ := ((b1.alloc (.cells F0 57)).farRow (cs' := fl) (k := w1.heap.size) (by omega)).cells3
  by_cases hf : freeB base pages xs = true
  · have hs := sizedB_iff.1 (freeB_sized hf)
    have E := hid (show giveP base pages xs ps = giveE pages xs ps by rw [giveP, if_pos hf])
    have E' := hid (show givePR base pages xs ps = giveR base pages xs ps by rw [givePR, if_pos hf])
    have HFF := hid (HF.out hf)
    rw [hf]
    clear hf HF
    have B0 := ((b0.alloc (.cells F0 57)).farRow (cs' := fl) (k := w1.heap.size) (by omega)).alloc (.cells (hand base pages A n c fl) 62)
    have B1 := ((b1.alloc (.cells F0 57)).farRow (cs' := fl) (k := w1.heap.size) (by omega)).alloc (.cells (hand base pages A n c fl) 62)
    obtain ⟨k0', k1', k2', kf'⟩ := B0.cells3
    have hFb : Blk ((w1.alloc (.cells F0 57)).setRow w1.heap.size fl) w1.heap.size 57 fl := (Blk.new _ _ _).setRow
    go_wp2_with (first
      | (with_reducible refine wpList_alloc_as rfl 57 rfl F0 zF0 ?_)
      | (with_reducible refine wpList_store_blk rfl 57 _ _ rfl _ fl rfl rfl 57 F0 64 ?_ sF0 HS.out hi57 H1.out ?_; focus (first | (refine Blk.at ?_; simp; done) | (refine Blk.alloc (Blk.at ?_) _; simp; done)))
      | (with_reducible refine wpList_load_blk rfl 57 _ rfl _ rfl 57 _ 64 _ hFb HS.out Try.underlying57 rfl hi57 ?_)
      | ((with_reducible refine wpList_build2 rfl 62 _ _ rfl (.agg #[.int .i64 base, .int .i64 pages, .slice A n c]) (.agg fl) rfl rfl _ (built_hand' base pages A n c fl HS.out) ?_)))
    have hBq : Below w.heap.size w (((w1.alloc (.cells F0 57)).setRow w1.heap.size fl).alloc (.cells (hand base pages A n c fl) 62)) := (by repeat (first | (with_reducible exact hB) | (with_reducible refine Below.setCell ?_ ?_ _; rotate_left; focus (first | omega | (simp; done) | (simp; omega) | (simp only [World.size_alloc, size_setRow, World.size_setCell]; omega))) | (with_reducible refine below_setRow ?_ ?_ _; rotate_left; focus (first | omega | (simp; done) | (simp; omega) | (simp only [World.size_alloc, size_setRow, World.size_setCell]; omega))) | (with_reducible refine Below.alloc ?_ ?_ _; rotate_left; focus (first | omega | (simp; done) | (simp; omega) | (simp only [World.size_alloc, size_setRow, World.size_setCell]; omega))) | (with_reducible refine Below.drew ?_) | (with_reducible refine below_drewN ?_ _) | (with_reducible exact Below.refl _ _)))
    have Bh : Blk (((w1.alloc (.cells F0 57)).setRow w1.heap.size fl).alloc (.cells (hand base pages A n c fl) 62)) (w1.heap.size + 1) 62 (hand base pages A n c fl) := Blk.at (by simp)
    refine (clone_int A n c lo xs _ ((HX.out.below hBq (Nat.le_refl _)).mono (Nat.le_refl _) (by simp; omega)) (by omega)).mono ?_
    rintro e w2 ⟨A2, c2, rfl, hown, hb2⟩
    have hz2 : w1.heap.size + 2 ≤ w2.heap.size := by have := hb2.size; simp at this; omega
    have B0' := B0.below hb2 (by simp; omega)
    have B1' := B1.below hb2 (by simp; omega)
    have Bh' := Bh.below hb2 (by simp)
    have hB2 : Below w.heap.size w w2 := hBq.trans (hb2.mono (by simp; omega))
    have hown' : Ow i64 w2 (w1.heap.size + 2) 3 A2 n c2 xs := hown.mono (by simp)
    clear hown hb2 B0 B1 Bh hBq k0 k1 k2 kf r0 r1 r2 rf k0' k1' k2' kf' b0 b1 hB hFb
    obtain ⟨m0, m1, m2⟩ := hand_cells Bh'
    have mf := Bh'.frozen 2
    go_wp2
    go_step3
    go_wp2
    obtain ⟨g, hg⟩ : ∃ g, g = w1.heap.size + 1 := ⟨_, rfl⟩
    rw [← hg] at Bh' ⊢
    have hlog : w.heap.size + 2 ≤ g := by omega
    have hown'' : Ow i64 w2 (g + 1) 3 A2 n c2 xs := by rw [hg]; exact hown'
    have hz3 : g + 1 ≤ w2.heap.size := by omega
    clear hown' hz2 hz m0 m1 m2 mf hg
    go_loopw [36, 10] (fun i v wr => ∃ k : Nat, ∃ A' c' fl', k ≤ np ∧ i = .int .i64 k ∧ v = .int .i64 0 ∧ Blk wr g 62 (hand base pages A' (n + k) c' fl') ∧ Flags (xs ++ ps.take k) fl' ∧
      Ow i64 wr (g + 1) 3 A' (n + k) c' (xs ++ ps.take k) ∧ giveE pages xs ps = giveE pages (xs ++ ps.take k) (ps.drop k) ∧ Blk wr (w.heap.size + 1) 24 #[.int .i64 0, .int .i64 0, .slice none 0 0] ∧ Below w.heap.size w wr ∧ g + 1 ≤ wr.heap.size) (fun i _ _ => np - (intOf i).toNat)
    case atStart =>
      exact ⟨0, A2, c2, fl, Nat.zero_le _, rfl, rfl, by have := Bh'.setCell 2 (.slice A2 n c2); rw [hand_setFree] at this; exact this, by simpa using HFF.out,
        by have := hown''.setCell (p := ⟨g, 2, none⟩) (by simp) (.slice A2 n c2); simpa using this, by simp, B1'.far (by simp; omega) _, hB2.setCell (by simp; omega) _, by simpa using hz3⟩
    case round =>
      obtain ⟨k, A', c', fl', hk, rfl, rfl, hb, hfl, hown, hge, hb1, hBr, hsz⟩ := hrel
      have HG := hid hge; have HFL := hid hfl; clear hge hfl
      obtain ⟨r0, r1, r2, rf⟩ := hb1.cells3
      obtain ⟨m0, m1, m2⟩ := hand_cells hb
      have hpr := (HP.out.below hBr (Nat.le_refl _))
      by_cases hlt : k < np
      · obtain ⟨b, off, rfl, _, hbB, hc⟩ := hpr.row (by omega)
        have gx := hc k hlt
        clear hc
        obtain ⟨x, hX⟩ : ∃ x, x = ps[k]?.getD 0 := ⟨_, rfl⟩
        rw [← hX] at gx
        have HX' := hid hX; clear hX
        have hpl := hid hpr.len
        clear hpr
        have HE := hid (HG.out.trans (giveE_giveC (by rw [hpl.out]; exact hlt) HX'.out))
        by_cases h0 : giveC pages (xs ++ ps.take k) x = 0
        · have HC := hid (give1_ok base pages A' (n + k) c' g (g + 1) fl' (xs ++ ps.take k) x wr hb HFL.out hs.2.2.2.2.1 hown (by omega) hsz (by omega) h0)
          have E2 := hid (show giveE pages xs ps = giveE pages (xs ++ ps.take (k + 1)) (ps.drop (k + 1)) by rw [HE.out, if_pos h0])
          clear h0
          go_wp2_with (go_at_call 30; (with_reducible refine HC.out.mono ?_); rintro e w3 ⟨rfl, A3, c3, fl3, hb3, hfl3, hown3, hB3⟩; have HF3 := hid hfl3; clear hfl3)
          go_roundw
          case rel =>
            exact ⟨k + 1, A3, c3, fl3, by omega, by go_num, rfl, hb3, by rw [take_snoc (by rw [hpl.out]; exact hlt) HX'.out, ← List.append_assoc]; exact HF3.out,
              by rw [take_snoc (by rw [hpl.out]; exact hlt) HX'.out, ← List.append_assoc]; exact hown3, E2.out, hb1.below hB3 (by omega), hBr.trans (hB3.mono (by omega)), by have := hB3.size; omega⟩
          case measure => simp [intOf]; omega
        · obtain ⟨code, hcode⟩ : ∃ code, code = giveC pages (xs ++ ps.take k) x := ⟨_, rfl⟩
          have HC := give1_err base pages A' (n + k) c' g fl' (xs ++ ps.take k) x wr hb HFL.out hs.2.2.2.2.1 h0
          rw [← hcode] at HC h0
          have HC' := hid HC
          have E2 := hid (show giveE pages xs ps = code by rw [HE.out, if_neg (by rw [← hcode]; exact h0), hcode])
          have H0 := hid h0
          have e0 : (code != 0) = true := by simpa using h0
          clear HC hcode h0
          go_wp2_with (go_at_call 30; (with_reducible refine HC'.out.mono ?_); rintro e w3 ⟨rfl, rfl⟩)
          rw [Exit.noGoto_ret]
          refine bodyPost_ret (v := .tuple #[pv 0 0 none 0 0, .int .i64 code]) (by simp [results, Try.results12, go_sem, r0, r1, r2]) rfl ⟨0, 0, none, 0, 0, [], by rw [E.out, E2.out], by rw [E'.out, giveR, if_neg (by rw [E2.out]; exact H0.out)], Ow.nil _ _ _, (by repeat (first | (with_reducible exact hBr) | (with_reducible refine Below.setCell ?_ ?_ _; rotate_left; focus (first | omega | (simp; done) | (simp; omega) | (simp only [World.size_alloc, size_setRow, World.size_setCell]; omega))) | (with_reducible refine below_setRow ?_ ?_ _; rotate_left; focus (first | omega | (simp; done) | (simp; omega) | (simp only [World.size_alloc, size_setRow, World.size_setCell]; omega))) | (with_reducible refine Below.alloc ?_ ?_ _; rotate_left; focus (first | omega | (simp; done) | (simp; omega) | (simp only [World.size_alloc, size_setRow, World.size_setCell]; omega))) | (with_reducible refine Below.drew ?_) | (with_reducible refine below_drewN ?_ _) | (with_reducible exact Below.refl _ _)))⟩
      · obtain rfl : k = np := by omega
        have hpl := hid hpr.len
        have E2 := hid (show giveE pages xs ps = 0 by rw [HG.out, List.drop_of_length_le (by rw [hpl.out]; exact Nat.le_refl _)]; rfl)
        clear hpr
        go_wp2
        rw [Exit.noGoto_ret]
        refine bodyPost_ret (v := .tuple #[pv base pages A' (n + k) c', .int .i64 0]) (by simp [results, Try.results12, go_sem, r0, r1, r2]) rfl ⟨base, pages, A', n + k, c', xs ++ ps, by rw [E.out, E2.out], by rw [E'.out, giveR, if_pos E2.out], ?_, ?_⟩
        · have := hown
          rw [List.take_of_length_le (by rw [hpl.out]; exact Nat.le_refl _)] at this
          exact (((this.setCell (by simp <;> omega) _).setCell (by simp <;> omega) _).setCell (by simp <;> omega) _).mono (by omega)
        · (repeat (first | (with_reducible exact hBr) | (with_reducible refine Below.setCell ?_ ?_ _; rotate_left; focus (first | omega | (simp; done) | (simp; omega) | (simp only [World.size_alloc, size_setRow, World.size_setCell]; omega))) | (with_reducible refine below_setRow ?_ ?_ _; rotate_left; focus (first | omega | (simp; done) | (simp; omega) | (simp only [World.size_alloc, size_setRow, World.size_setCell]; omega))) | (with_reducible refine Below.alloc ?_ ?_ _; rotate_left; focus (first | omega | (simp; done) | (simp; omega) | (simp only [World.size_alloc, size_setRow, World.size_setCell]; omega))) | (with_reducible refine Below.drew ?_) | (with_reducible refine below_drewN ?_ _) | (with_reducible exact Below.refl _ _)))
  · have hf' : freeB base pages xs = false := by simpa using hf
    have E := hid (show giveP base pages xs ps = 170 by rw [giveP, if_neg hf])
    have E' := hid (show givePR base pages xs ps = (0, 0, []) by rw [givePR, if_neg hf])
    rw [hf']
    clear hf hf'
    go_wp2_with (first | (with_reducible refine wpList_alloc_as rfl 57 rfl F0 zF0 ?_) | (with_reducible refine wpList_store_blk rfl 57 _ _ rfl _ fl rfl rfl 57 F0 64 ?_ sF0 HS.out hi57 H1.out ?_; focus (first | (refine Blk.at ?_; simp; done) | (refine Blk.alloc (Blk.at ?_) _; simp; done))))
    rw [Exit.noGoto_ret]
    refine bodyPost_ret (v := .tuple #[pv 0 0 none 0 0, .int .i64 170]) (by simp [results, Try.results12, go_sem, r0, r1, r2]) rfl ⟨0, 0, none, 0, 0, [], by rw [E.out], E'.out, Ow.nil _ _ _, (by repeat (first | (with_reducible exact hB) | (with_reducible refine Below.setCell ?_ ?_ _; rotate_left; focus (first | omega | (simp; done) | (simp; omega) | (simp only [World.size_alloc, size_setRow, World.size_setCell]; omega))) | (with_reducible refine below_setRow ?_ ?_ _; rotate_left; focus (first | omega | (simp; done) | (simp; omega) | (simp only [World.size_alloc, size_setRow, World.size_setCell]; omega))) | (with_reducible refine Below.alloc ?_ ?_ _; rotate_left; focus (first | omega | (simp; done) | (simp; omega) | (simp only [World.size_alloc, size_setRow, World.size_setCell]; omega))) | (with_reducible refine Below.drew ?_) | (with_reducible refine below_drewN ?_ _) | (with_reducible exact Below.refl _ _)))⟩
end Go.Proofs.Ytlidbiaadoigeaa
