/- afterglowref07: Page, Give. No condition but sizes. -/
import Derived.Test.YtlidbiaadoigeaaPool5
namespace Go.Proofs.Ytlidbiaadoigeaa
open Go.RowKit

def rpageF (base pages word : Int) : Int × Int := if base ≤ word ∧ word < base + pages * 16 then ((word - base) / 16, (word - base) % 16) else (-1, 0)

set_option maxHeartbeats 2000000 in
theorem rpage_any (base pages : Int) (A : Option Addr) (n c : Nat) (word : Int) (w : World) (hs : sizedB base pages = true) :
    Calls Try.prog 16 #[pv base pages A n c, .int .i64 word] w fun e w' => e = .returned (.tuple #[.int .i64 (rpageF base pages word).1, .int .i64 (rpageF base pages word).2]) ∧ Below w.heap.size w w' := by
  have hz := sizedB_iff.1 hs
  obtain ⟨P, rfl⟩ := Int.eq_ofNat_of_zero_le hz.2.2.2.1
  clear hs
  go_enter Try.func16, Try.ntmps16
  go_wp2
  go_loop [10] (fun i => ∃ k : Nat, k ≤ P ∧ i = .int .i64 k ∧ (word < base ∨ base + 16 * (k : Int) ≤ word)) (fun i => P - (intOf i).toNat)
  case atStart => exact ⟨0, Nat.zero_le _, rfl, by omega⟩
  case round =>
    obtain ⟨k, hk, rfl, hw⟩ := hrel
    by_cases hlt : k < P
    · go_wp2
      go_loop [13] (fun i => ∃ j : Nat, j ≤ 16 ∧ i = .int .i64 j ∧ (word < base ∨ base + 16 * (k : Int) + (j : Int) ≤ word)) (fun i => 16 - (intOf i).toNat)
      case atStart => exact ⟨0, Nat.zero_le _, rfl, by omega⟩
      case round =>
        obtain ⟨j, hj, rfl, hw'⟩ := hrel
        by_cases hjlt : j < 16
        · by_cases he : base + 16 * (k : Int) + (j : Int) = word
          · have e : (base + 16 * (k : Int) + (j : Int) == word) = true := by simp [he]
            have E := hid (show rpageF base P word = ((k : Int), (j : Int)) by rw [rpageF, if_pos (by omega)]; congr <;> omega)
            clear he
            go_wp2
            go_ret2
            exact ⟨by rw [E.out]; rfl, (by repeat (first | (with_reducible exact (Below.refl _ _)) | (with_reducible refine Below.setCell ?_ ?_ _; rotate_left; focus (first | omega | (simp; done) | (simp; omega) | (simp only [World.size_alloc, size_setRow, World.size_setCell]; omega))) | (with_reducible refine below_setRow ?_ ?_ _; rotate_left; focus (first | omega | (simp; done) | (simp; omega) | (simp only [World.size_alloc, size_setRow, World.size_setCell]; omega))) | (with_reducible refine Below.alloc ?_ ?_ _; rotate_left; focus (first | omega | (simp; done) | (simp; omega) | (simp only [World.size_alloc, size_setRow, World.size_setCell]; omega))) | (with_reducible refine Below.drew ?_) | (with_reducible refine below_drewN ?_ _) | (with_reducible exact Below.refl _ _)))⟩
          · have e : (base + 16 * (k : Int) + (j : Int) == word) = false := by simp [he]
            have he' : word < base ∨ base + 16 * (k : Int) + (j : Int) + 1 ≤ word := by omega
            clear he
            go_wp2
            go_round
            case rel => exact ⟨j + 1, by omega, by go_num, by omega⟩
            case measure => simp [intOf]; omega
        · obtain rfl : j = 16 := by omega
          go_wp2
          go_round
          case rel => exact ⟨k + 1, by omega, by go_num, by omega⟩
          case measure => simp [intOf]; omega
    · obtain rfl : k = P := by omega
      have E := hid (show rpageF base k word = (-1, 0) by rw [rpageF, if_neg (by omega)])
      go_wp2
      go_ret2
      exact ⟨by rw [E.out]; rfl, (by repeat (first | (with_reducible exact (Below.refl _ _)) | (with_reducible refine Below.setCell ?_ ?_ _; rotate_left; focus (first | omega | (simp; done) | (simp; omega) | (simp only [World.size_alloc, size_setRow, World.size_setCell]; omega))) | (with_reducible refine below_setRow ?_ ?_ _; rotate_left; focus (first | omega | (simp; done) | (simp; omega) | (simp only [World.size_alloc, size_setRow, World.size_setCell]; omega))) | (with_reducible refine Below.alloc ?_ ?_ _; rotate_left; focus (first | omega | (simp; done) | (simp; omega) | (simp only [World.size_alloc, size_setRow, World.size_setCell]; omega))) | (with_reducible refine Below.drew ?_) | (with_reducible refine below_drewN ?_ _) | (with_reducible exact Below.refl _ _)))⟩

/-! ### Give -/
def giveE (pages : Int) (free : List Int) : List Int → Int
  | [] => 0
  | p :: ps => if p < 0 ∨ pages ≤ p then 2 else if p ∈ free then 5 else giveE pages (free ++ [p]) ps
/-- what `Give` hands back: base, pages, the row -/
def giveR (base pages : Int) (free ps : List Int) : Int × Int × List Int := if giveE pages free ps = 0 then (base, pages, free ++ ps) else (0, 0, [])

def GivePost (w : World) (base pages : Int) (xs ps : List Int) (e : Ending) (w' : World) : Prop :=
  ∃ b' p' A' n' c' ys, e = .returned (.tuple #[pv b' p' A' n' c', .int .i64 (giveE pages xs ps)]) ∧ giveR base pages xs ps = (b', p', ys) ∧ Ow i64 w' w.heap.size 3 A' n' c' ys ∧ Below w.heap.size w w'
theorem giveE_step {pages : Int} {free ps : List Int} {k : Nat} {x : Int} (hk : k < ps.length) (hx : x = ps[k]?.getD 0) :
    giveE pages (free ++ ps.take k) (ps.drop k) = if x < 0 ∨ pages ≤ x then 2 else if x ∈ free ++ ps.take k then 5 else giveE pages (free ++ ps.take (k + 1)) (ps.drop (k + 1)) := by
  have e : ps[k] = x := by rw [hx, List.getElem?_eq_getElem hk]; rfl
  rw [List.drop_eq_getElem_cons hk, giveE, e, take_snoc hk hx, List.append_assoc]

set_option maxHeartbeats 4000000 in
theorem rgive_any (base pages : Int) (A Ap : Option Addr) (n c lo np cp lop : Nat) (xs ps : List Int) (w : World) (h : Sl i64 0 w lo w.heap.size A n xs) (hp : Sl i64 0 w lop w.heap.size Ap np ps) (hn : n ≤ 1000) (hnp : np ≤ 1000) :
    Calls Try.prog 13 #[pv base pages A n c, .slice Ap np cp] w (GivePost w base pages xs ps) := by
  obtain ⟨i0, hi0, hz00, hz01, hz02⟩ := info_parts info_int
  have H := hid ((h.boxed (.cells #[.int .i64 base, .int .i64 pages, .slice A n c] 24)).boxed (.cells #[.int .i64 0, .int .i64 0, .slice none 0 0] 24))
  have HP := hid hp
  have HL := hid h.len
  clear h hp
  go_enter Try.func13, Try.ntmps13
  go_wp2_with (at_builtin; refine wpList_app i64 0 _ rfl _ _ 22 rfl (w.heap.size + 1 + 1) 3 i0 _ 8 Try.underlying22 hi0 hz00 hz01 hz02 rfl _ _ _ [] rfl (Ow.empty' (by simp) (by simp)) _ _ A n c xs rfl (H.out.alloc (Nat.le_refl _) _) one_i64 (by simp only [maxLen]; omega) (by omega) (by simp <;> omega) ?_; intro A1 c1 w1 hown1 hg1 hat1; simp only [Nat.zero_add, List.nil_append] at hown1)
  have b0 := (((Blk.new w 24 #[.int .i64 base, .int .i64 pages, .slice A n c]).alloc (.cells #[.int .i64 0, .int .i64 0, .slice none 0 0] 24)).alloc (.cells #[] 3)).grown hg1 (by simp [Value.ownBlock] <;> omega)
  have b1 := ((Blk.new2 w 24 #[.int .i64 0, .int .i64 0, .slice none 0 0] (.cells #[.int .i64 base, .int .i64 pages, .slice A n c] 24)).alloc (.cells #[] 3)).grown hg1 (by simp [Value.ownBlock] <;> omega)
  have hB : Below w.heap.size w w1 := Below.grown (w := ((w.alloc (.cells #[.int .i64 base, .int .i64 pages, .slice A n c] 24)).alloc (.cells #[.int .i64 0, .int .i64 0, .slice none 0 0] 24)).alloc (.cells #[] 3)) (by repeat (first | (with_reducible exact (Below.refl _ _)) | (with_reducible refine Below.setCell ?_ ?_ _; rotate_left; focus (first | omega | (simp; done) | (simp; omega) | (simp only [World.size_alloc, size_setRow, World.size_setCell]; omega))) | (with_reducible refine below_setRow ?_ ?_ _; rotate_left; focus (first | omega | (simp; done) | (simp; omega) | (simp only [World.size_alloc, size_setRow, World.size_setCell]; omega))) | (with_reducible refine Below.alloc ?_ ?_ _; rotate_left; focus (first | omega | (simp; done) | (simp; omega) | (simp only [World.size_alloc, size_setRow, World.size_setCell]; omega))) | (with_reducible refine Below.drew ?_) | (with_reducible refine below_drewN ?_ _) | (with_reducible exact Below.refl _ _))) hg1 (by simp <;> omega) (fun k hk => by simp [Value.ownBlock] at hk; omega)
  have hz : w.heap.size + 2 ≤ w1.heap.size := by have := hg1.size; simp at this; omega
  have hP1 : Sl i64 0 w1 lop w.heap.size Ap np ps := HP.out.below hB (Nat.le_refl _)
  clear H hg1 hat1
  go_loopw [15, 6] (fun i v wr => ∃ k : Nat, ∃ A' m c', k ≤ np ∧ i = .int .i64 k ∧ v = .slice A' m c' ∧ Blk wr w.heap.size 24 #[.int .i64 base, .int .i64 pages, .slice A n c] ∧ Blk wr (w.heap.size + 1) 24 #[.int .i64 0, .int .i64 0, .slice none 0 0] ∧
      Ow i64 wr (w.heap.size + 2) 3 A' m c' (xs ++ ps.take k) ∧ giveE pages xs ps = giveE pages (xs ++ ps.take k) (ps.drop k) ∧ Below w.heap.size w wr ∧ w.heap.size + 2 ≤ wr.heap.size) (fun i _ _ => np - (intOf i).toNat)
  case atStart => exact ⟨0, A1, n, c1, Nat.zero_le _, rfl, rfl, b0, b1, by simpa using hown1, by simp, hB, hz⟩
  case round =>
    obtain ⟨k, A', m, c', hk, rfl, rfl, hb0, hb1, hown, hge, hBr, hsz⟩ := hrel
    have HG := hid hge; clear hge
    obtain ⟨k0, k1, k2, kf⟩ := hb0.cells3
    obtain ⟨r0, r1, r2, rf⟩ := hb1.cells3
    have hpr := (HP.out.below hBr (Nat.le_refl _))
    have hm : m ≤ 2000 := by
      have h1 := hown.len; rw [List.length_append, List.length_take] at h1; have h2 := HL.out; omega
    by_cases hlt : k < np
    · obtain ⟨b, off, rfl, _, hbB, hc⟩ := hpr.row (by omega)
      have g := hc k hlt
      clear hc
      obtain ⟨x, hX⟩ : ∃ x, x = ps[k]?.getD 0 := ⟨_, rfl⟩
      rw [← hX] at g
      have HX := hid hX; clear hX
      have hpl := hid hpr.len
      clear hpr
      have HE := hid (HG.out.trans (giveE_step (by rw [hpl.out]; exact hlt) HX.out))
      by_cases h1 : x < 0
      · have E := hid (show giveE pages xs ps = 2 by rw [HE.out, if_pos (by omega)])
        go_wp2
        refine bodyPost_ret (v := .tuple #[pv 0 0 none 0 0, .int .i64 2]) (by simp [results, Try.results13, go_sem, r0, r1, r2, k0, k1, k2]) rfl ⟨0, 0, none, 0, 0, [], by rw [E.out], by rw [giveR, if_neg (by rw [E.out]; omega)], Ow.nil _ _ _, (by repeat (first | (with_reducible exact hBr) | (with_reducible refine Below.setCell ?_ ?_ _; rotate_left; focus (first | omega | (simp; done) | (simp; omega) | (simp only [World.size_alloc, size_setRow, World.size_setCell]; omega))) | (with_reducible refine below_setRow ?_ ?_ _; rotate_left; focus (first | omega | (simp; done) | (simp; omega) | (simp only [World.size_alloc, size_setRow, World.size_setCell]; omega))) | (with_reducible refine Below.alloc ?_ ?_ _; rotate_left; focus (first | omega | (simp; done) | (simp; omega) | (simp only [World.size_alloc, size_setRow, World.size_setCell]; omega))) | (with_reducible refine Below.drew ?_) | (with_reducible refine below_drewN ?_ _) | (with_reducible exact Below.refl _ _)))⟩
      · by_cases h2 : pages ≤ x
        · have E := hid (show giveE pages xs ps = 2 by rw [HE.out, if_pos (by omega)])
          go_wp2
          refine bodyPost_ret (v := .tuple #[pv 0 0 none 0 0, .int .i64 2]) (by simp [results, Try.results13, go_sem, r0, r1, r2, k0, k1, k2]) rfl ⟨0, 0, none, 0, 0, [], by rw [E.out], by rw [giveR, if_neg (by rw [E.out]; omega)], Ow.nil _ _ _, (by repeat (first | (with_reducible exact hBr) | (with_reducible refine Below.setCell ?_ ?_ _; rotate_left; focus (first | omega | (simp; done) | (simp; omega) | (simp only [World.size_alloc, size_setRow, World.size_setCell]; omega))) | (with_reducible refine below_setRow ?_ ?_ _; rotate_left; focus (first | omega | (simp; done) | (simp; omega) | (simp only [World.size_alloc, size_setRow, World.size_setCell]; omega))) | (with_reducible refine Below.alloc ?_ ?_ _; rotate_left; focus (first | omega | (simp; done) | (simp; omega) | (simp only [World.size_alloc, size_setRow, World.size_setCell]; omega))) | (with_reducible refine Below.drew ?_) | (with_reducible refine below_drewN ?_ _) | (with_reducible exact Below.refl _ _)))⟩
        · have hcall := has07 A' m c' _ _ x _ wr hown.sl (by omega)
          by_cases h3 : x ∈ xs ++ ps.take k
          · have E := hid (show giveE pages xs ps = 5 by rw [HE.out, if_neg (by omega), if_pos h3])
            rw [show decide (x ∈ xs ++ ps.take k) = true by simpa using h3] at hcall
            have HC := hid hcall; clear hcall h3
            go_wp2_with (go_at_call 26; (with_reducible refine HC.out.mono ?_); rintro e w' ⟨rfl, rfl⟩)
            refine bodyPost_ret (v := .tuple #[pv 0 0 none 0 0, .int .i64 5]) (by simp [results, Try.results13, go_sem, r0, r1, r2, k0, k1, k2]) rfl ⟨0, 0, none, 0, 0, [], by rw [E.out], by rw [giveR, if_neg (by rw [E.out]; omega)], Ow.nil _ _ _, (by repeat (first | (with_reducible exact hBr) | (with_reducible refine Below.setCell ?_ ?_ _; rotate_left; focus (first | omega | (simp; done) | (simp; omega) | (simp only [World.size_alloc, size_setRow, World.size_setCell]; omega))) | (with_reducible refine below_setRow ?_ ?_ _; rotate_left; focus (first | omega | (simp; done) | (simp; omega) | (simp only [World.size_alloc, size_setRow, World.size_setCell]; omega))) | (with_reducible refine Below.alloc ?_ ?_ _; rotate_left; focus (first | omega | (simp; done) | (simp; omega) | (simp only [World.size_alloc, size_setRow, World.size_setCell]; omega))) | (with_reducible refine Below.drew ?_) | (with_reducible refine below_drewN ?_ _) | (with_reducible exact Below.refl _ _)))⟩
          · have E := hid (show giveE pages xs ps = giveE pages (xs ++ ps.take (k + 1)) (ps.drop (k + 1)) by rw [HE.out, if_neg (by omega), if_neg h3])
            rw [show decide (x ∈ xs ++ ps.take k) = false by simpa using h3] at hcall
            have HC := hid hcall; clear hcall h3
            go_wp2_with (first | (go_at_call 26; (with_reducible refine HC.out.mono ?_); rintro e w' ⟨rfl, rfl⟩) | (at_builtin; refine wpList_app i64 0 _ rfl _ _ 22 rfl (w.heap.size + 2) 3 i0 _ 8 Try.underlying22 hi0 hz00 hz01 hz02 rfl _ _ _ (xs ++ ps.take k) rfl (hown.alloc _) _ _ _ 1 1 [x] rfl (Sl.one' (by simp)) one_i64 (by simp only [maxLen]; omega) (by omega) (by simp <;> omega) ?_; intro A1 c1 w2 hown1 hg1 hat1))
            go_roundw
            case rel =>
              have hB1 : Below w.heap.size w w2 := (hBr.alloc hBr.size _).grown hg1 (by have := hBr.size; simp <;> omega) (fun g hg => by have := hown.row_ge g hg; omega)
              exact ⟨k + 1, A1, m + 1, c1, by omega, by go_num, rfl, (hb0.alloc _).grown hg1 (hown.ne_row (by omega)), (hb1.alloc _).grown hg1 (hown.ne_row (by omega)),
                by rw [take_snoc (by rw [hpl.out]; exact hlt) HX.out, ← List.append_assoc]; exact hown1, E.out, hB1, by have := hg1.size; simp at this ⊢; omega⟩
            case measure => simp [intOf]; omega
    · obtain rfl : k = np := by omega
      have hpl := hid hpr.len
      have E := hid (show giveE pages xs ps = 0 by rw [HG.out, List.drop_of_length_le (by rw [hpl.out]; exact Nat.le_refl _)]; rfl)
      clear hpr
      go_wp2
      refine bodyPost_ret (v := .tuple #[pv base pages A' m c', .int .i64 0]) (by simp [results, Try.results13, go_sem, r0, r1, r2, k0, k1, k2]) rfl ⟨base, pages, A', m, c', xs ++ ps, by rw [E.out], by rw [giveR, if_pos E.out], ?_, ?_⟩
      · have := hown
        rw [List.take_of_length_le (by rw [hpl.out]; exact Nat.le_refl _)] at this
        exact ((((this.setCell (by simp <;> omega) _).setCell (by simp <;> omega) _).setCell (by simp <;> omega) _).setCell (by simp <;> omega) _).mono (by omega)
      · (repeat (first | (with_reducible exact hBr) | (with_reducible refine Below.setCell ?_ ?_ _; rotate_left; focus (first | omega | (simp; done) | (simp; omega) | (simp only [World.size_alloc, size_setRow, World.size_setCell]; omega))) | (with_reducible refine below_setRow ?_ ?_ _; rotate_left; focus (first | omega | (simp; done) | (simp; omega) | (simp only [World.size_alloc, size_setRow, World.size_setCell]; omega))) | (with_reducible refine Below.alloc ?_ ?_ _; rotate_left; focus (first | omega | (simp; done) | (simp; omega) | (simp only [World.size_alloc, size_setRow, World.size_setCell]; omega))) | (with_reducible refine Below.drew ?_) | (with_reducible refine below_drewN ?_ _) | (with_reducible exact Below.refl _ _)))
end Go.Proofs.Ytlidbiaadoigeaa
