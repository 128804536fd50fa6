/- package pool: the method give of a hand. No condition but sizes. -/
import Derived.Test.YtlidbiaadoigeaaPool7
namespace Go.Proofs.Ytlidbiaadoigeaa
open Go.RowKit

def hand (base pages : Int) (A : Option Addr) (n c : Nat) (fl : Array Value) : Array Value := #[.int .i64 base, .int .i64 pages, .slice A n c] ++ fl
section
variable {w : World} {g : Nat} {base pages : Int} {A : Option Addr} {n c : Nat} {fl : Array Value} {xs : List Int}
theorem hand_cells (hb : Blk w g 62 (hand base pages A n c fl)) :
    w.cell? ⟨g, 0, none⟩ = some (.int .i64 base) ∧ w.cell? ⟨g, 1, none⟩ = some (.int .i64 pages) ∧ w.cell? ⟨g, 2, none⟩ = some (.slice A n c) := by
  refine ⟨?_, ?_, ?_⟩ <;> (rw [hb.cell, hand, Array.getElem?_append_left (by simp)]; rfl)
theorem hand_flag (hb : Blk w g 62 (hand base pages A n c fl)) (hf : Flags xs fl) {p : Int} (h0 : 0 ≤ p) (h1 : p < 64) :
    w.cell? ⟨g, 3 + p.toNat, none⟩ = some (.bool (decide (p ∈ xs))) := by
  rw [hb.cell, hand, Array.getElem?_append_right (by simp)]
  simp only [List.size_toArray, List.length_cons, List.length_nil, Nat.zero_add, Nat.reduceAdd]
  rw [show 3 + p.toNat - 3 = p.toNat by omega, hf.2.2 _ (by omega)]
  congr; omega
theorem hand_setFlag {p : Nat} (v : Value) : (hand base pages A n c fl).setIfInBounds (3 + p) v = hand base pages A n c (fl.setIfInBounds p v) := by
  unfold hand
  apply Array.ext_getElem?
  intro i
  rw [Array.getElem?_setIfInBounds, Array.getElem?_append, Array.getElem?_append, Array.getElem?_setIfInBounds]
  simp only [List.size_toArray, List.length_cons, List.length_nil, Nat.zero_add, Nat.reduceAdd, Array.size_append]
  by_cases h1 : i < 3
  · rw [if_neg (by omega), if_pos h1, if_pos h1]
  · rw [if_neg h1, if_neg h1]
    by_cases h2 : 3 + p = i
    · subst h2
      have e : 3 + p - 3 = p := by omega
      by_cases h3 : p < fl.size
      · rw [if_pos rfl, if_pos (by omega), e, if_pos rfl, if_pos h3]
      · rw [if_pos rfl, if_neg (by omega), e, if_pos rfl, if_neg h3]
    · rw [if_neg h2, if_neg (by omega)]
theorem hand_setFree (A' : Option Addr) (n' c' : Nat) : (hand base pages A n c fl).setIfInBounds 2 (.slice A' n' c') = hand base pages A' n' c' fl := by
  unfold hand
  apply Array.ext_getElem?
  intro i
  rw [Array.getElem?_setIfInBounds, Array.getElem?_append, Array.getElem?_append]
  simp only [List.size_toArray, List.length_cons, List.length_nil, Nat.zero_add, Nat.reduceAdd, Array.size_append]
  by_cases h1 : 2 = i
  · subst h1; simp; omega
  · rw [if_neg h1]
    by_cases h2 : i < 3
    · rw [if_pos h2, if_pos h2]
      have : i = 0 ∨ i = 1 := by omega
      rcases this with rfl | rfl <;> rfl
    · rw [if_neg h2, if_neg h2]
theorem flags_snoc {p : Int} (hf : Flags xs fl) (h0 : 0 ≤ p) (h1 : p < 64) : Flags (xs ++ [p]) (fl.setIfInBounds p.toNat (.bool true)) := by
  have h := flags_set (xs := xs ++ [p]) (k := xs.length) (x := p) (fl := fl) (by simp) (by simp) (by simpa using hf) h0 h1
  rw [List.take_of_length_le (by simp)] at h
  exact h
end

def giveC (pages : Int) (free : List Int) (p : Int) : Int := if p < 0 ∨ pages ≤ p then 2 else if p ∈ free then 5 else 0

section
variable (base pages : Int) (A : Option Addr) (n c g lo : Nat) (fl : Array Value) (xs : List Int) (p : Int) (w : World)
set_option maxHeartbeats 2000000 in
theorem give1_err (hb : Blk w g 62 (hand base pages A n c fl)) (hf : Flags xs fl) (hp : pages ≤ 64) (he : giveC pages xs p ≠ 0) :
    Calls Try.prog 30 #[.pointer (some ⟨g, 0, none⟩), .int .i64 p] w fun e w' => e = .returned (.int .i64 (giveC pages xs p)) ∧ w = w' := by
  obtain ⟨c0, c1, c2⟩ := hand_cells hb
  by_cases h1 : p < 0
  · have E := hid (show giveC pages xs p = 2 by rw [giveC, if_pos (by omega)])
    clear he
    go_enter Try.func30, Try.ntmps30
    go_wp2
    go_ret
    exact ⟨ret_int E.out.symm, rfl⟩
  · by_cases h2 : pages ≤ p
    · have E := hid (show giveC pages xs p = 2 by rw [giveC, if_pos (by omega)])
      clear he
      go_enter Try.func30, Try.ntmps30
      go_wp2
      go_ret
      exact ⟨ret_int E.out.symm, rfl⟩
    · by_cases h3 : p ∈ xs
      · have E := hid (show giveC pages xs p = 5 by rw [giveC, if_neg (by omega), if_pos h3])
        have cf := hand_flag hb hf (p := p) (by omega) (by omega)
        rw [show decide (p ∈ xs) = true by simpa using h3] at cf
        clear he h3
        go_enter Try.func30, Try.ntmps30
        go_wp2
        go_ret
        exact ⟨ret_int E.out.symm, rfl⟩
      · exact absurd (by rw [giveC, if_neg (by omega), if_neg h3]) he

def Give1Post (w : World) (base pages : Int) (n g lo : Nat) (xs : List Int) (p : Int) (e : Ending) (w' : World) : Prop :=
  e = .returned (.int .i64 0) ∧ ∃ A' c' fl', Blk w' g 62 (hand base pages A' (n + 1) c' fl') ∧ Flags (xs ++ [p]) fl' ∧ Ow i64 w' lo 3 A' (n + 1) c' (xs ++ [p]) ∧ Below g w w'

set_option maxHeartbeats 2000000 in
theorem give1_ok (hb : Blk w g 62 (hand base pages A n c fl)) (hf : Flags xs fl) (hp : pages ≤ 64) (hown : Ow i64 w lo 3 A n c xs) (hlo : g < lo) (hlo' : lo ≤ w.heap.size) (hn : n ≤ 1000) (he : giveC pages xs p = 0) :
    Calls Try.prog 30 #[.pointer (some ⟨g, 0, none⟩), .int .i64 p] w (Give1Post w base pages n g lo xs p) := by
  obtain ⟨i0, hi0, hz00, hz01, hz02⟩ := info_parts info_int
  obtain ⟨c0, c1, c2⟩ := hand_cells hb
  have h1 : 0 ≤ p ∧ p < pages ∧ p ∉ xs := by
    unfold giveC at he
    by_cases h1 : p < 0 ∨ pages ≤ p
    · rw [if_pos h1] at he; omega
    · rw [if_neg h1] at he
      by_cases h2 : p ∈ xs
      · rw [if_pos h2] at he; omega
      · exact ⟨by omega, by omega, h2⟩
  obtain ⟨h1, h2, h3⟩ := h1
  have cf := hand_flag hb hf (p := p) (by omega) (by omega)
  rw [show decide (p ∈ xs) = false by simpa using h3] at cf
  have ff := hb.frozen (3 + p.toNat)
  clear he h3
  have hb1 : Blk (w.setCell ⟨g, 3 + p.toNat, none⟩ (.bool true)) g 62 (hand base pages A n c (fl.setIfInBounds p.toNat (.bool true))) := by
    rw [← hand_setFlag]; exact hb.setCell _ _
  have hown1 := hown.setCell (p := ⟨g, 3 + p.toNat, none⟩) hlo (.bool true)
  have HF := hid (flags_snoc hf (p := p) (by omega) (by omega))
  obtain ⟨d0, d1, d2⟩ := hand_cells hb1
  have hg := hb.lt
  clear hf hown
  go_enter Try.func30, Try.ntmps30
  go_wp2_with (first | (at_builtin; refine wpList_app i64 0 _ rfl _ _ 22 rfl (lo) 3 i0 _ 8 Try.underlying22 hi0 hz00 hz01 hz02 rfl _ _ _ xs rfl (hown1.alloc _) _ _ _ 1 1 [p] rfl (Sl.one' (by simp)) one_i64 (by simp only [maxLen]; omega) (by omega) (by simp <;> omega) ?_; intro A1 c1 w2 hownA hg1 hat1; have b1 := (hb1.alloc _).grown hg1 (hown1.ne_row (by omega)); obtain ⟨m0, m1, m2⟩ := hand_cells b1; have mf := b1.frozen 2))
  go_ret
  exact ⟨rfl, A1, c1, _, by have := b1.setCell 2 (.slice A1 (n + 1) c1); rw [hand_setFree] at this; exact this, HF.out, hownA.setCell hlo _,
    Below.setCell (Below.grown (w := (w.setCell ⟨g, 3 + p.toNat, none⟩ (.bool true)).alloc (.cells #[.int .i64 p] 3)) (by repeat (first | (with_reducible exact (Below.refl _ _)) | (with_reducible refine Below.setCell ?_ ?_ _; rotate_left; focus (first | omega | (simp; done) | (simp; omega) | (simp only [World.size_alloc, size_setRow, World.size_setCell]; omega))) | (with_reducible refine below_setRow ?_ ?_ _; rotate_left; focus (first | omega | (simp; done) | (simp; omega) | (simp only [World.size_alloc, size_setRow, World.size_setCell]; omega))) | (with_reducible refine Below.alloc ?_ ?_ _; rotate_left; focus (first | omega | (simp; done) | (simp; omega) | (simp only [World.size_alloc, size_setRow, World.size_setCell]; omega))) | (with_reducible refine Below.drew ?_) | (with_reducible refine below_drewN ?_ _) | (with_reducible exact Below.refl _ _))) hg1 (by simp; omega) (fun k hk => by have := hown1.row_ge k hk; omega)) (by simp) _⟩
end
end Go.Proofs.Ytlidbiaadoigeaa
