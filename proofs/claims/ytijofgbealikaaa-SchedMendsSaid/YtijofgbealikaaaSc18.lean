/- package sched, and afterglowref04: sorting, and what is mended, plainly. No condition. -/
import Derived.Test.YtijofgbealikaaaSc17
namespace Go.Proofs.Ytijofgbealikaaa
/-- how many of a row are greater than t -/
def over (t : Int) (l : List Int) : Nat := l.countP (fun x => decide (t < x))
theorem over_cons (t x : Int) (l : List Int) : over t (x :: l) = over t l + (if t < x then 1 else 0) := by
  unfold over; rw [List.countP_cons]; simp
theorem over_perm {t : Int} {a b : List Int} (h : a.Perm b) : over t a = over t b := h.countP_eq _
theorem over_zero {t : Int} {l : List Int} (h : ∀ x ∈ l, x ≤ t) : over t l = 0 := List.countP_eq_zero.2 (fun x hx => by have := h x hx; simp; omega)
/-- a falling row: its i-th is at most t, if at most i are greater -/
theorem fall_at : ∀ (s : List Int) (t : Int) (i : Nat), s.Pairwise (fun x y => y ≤ x) → i < s.length → (s[i]?.getD 0 ≤ t ↔ over t s ≤ i)
  | [], _, _, _, h => absurd h (Nat.not_lt_zero _)
  | x :: s, t, i, hs, hi => by
    obtain ⟨h1, h2⟩ := List.pairwise_cons.1 hs
    rw [over_cons]
    cases i with
    | zero =>
      show x ≤ t ↔ _
      constructor
      · intro h; rw [over_zero (fun y hy => by have := h1 y hy; omega), if_neg (by omega)]; exact Nat.le_refl _
      · intro h
        by_cases e : t < x
        · rw [if_pos e] at h; omega
        · omega
    | succ i =>
      have ih := fall_at s t i h2 (by simpa using hi)
      show s[i]?.getD 0 ≤ t ↔ _
      rw [ih]
      by_cases e : t < x
      · rw [if_pos e]; omega
      · rw [if_neg e, over_zero (fun y hy => by have := h1 y hy; omega)]; omega
theorem srt_rise (l : List Int) : (srt l).Pairwise fun x y => x ≤ y := by
  have := List.pairwise_mergeSort (le := fun x y : Int => decide (x ≤ y)) (fun a b c h1 h2 => by simp at *; omega) (fun a b => by simp; omega) l
  exact this.imp (fun h => by simpa using h)
theorem srt_at {l : List Int} {t : Int} {i : Nat} (hi : i < l.length) : (srt l)[l.length - 1 - i]?.getD 0 ≤ t ↔ over t l ≤ i := by
  have h := fall_at (srt l).reverse t i (by rw [List.pairwise_reverse]; exact srt_rise l) (by rw [List.length_reverse, srt_len]; exact hi)
  rw [List.getElem?_reverse (by rw [srt_len]; exact hi), srt_len, over_perm (List.reverse_perm _), over_perm (srt_perm l)] at h
  exact h
theorem canB_over {m : Nat} {kk : Int} {l : List Int} (hl : m ≤ l.length) : canB m kk l = true ↔ ∀ i, i < m → over (kk - 1 - i) (l.take m) ≤ i := by
  have e : (l.take m).length = m := by rw [List.length_take]; omega
  unfold canB
  rw [decide_eq_true_eq]
  constructor
  · intro h i hi; have := h i hi; rwa [show m - 1 - i = (l.take m).length - 1 - i by rw [e], srt_at (by rw [e]; exact hi)] at this
  · intro h i hi; have := h i hi; rwa [← srt_at (by rw [e]; exact hi), e] at this
/-- numbers, the greatest first, one put in -/
def insD (n : Int) : List Int → List Int
  | [] => [n]
  | x :: l => if n ≤ x then x :: insD n l else n :: x :: l
def sortD (l : List Int) : List Int := l.foldl (fun s n => insD n s) []
theorem insD_perm (n : Int) : ∀ l : List Int, (insD n l).Perm (n :: l)
  | [] => List.Perm.refl _
  | x :: l => by
    unfold insD
    split
    · exact ((insD_perm n l).cons x).trans (List.Perm.swap n x l)
    · exact List.Perm.refl _
theorem insD_fall (n : Int) : ∀ l : List Int, l.Pairwise (fun x y => y ≤ x) → (insD n l).Pairwise (fun x y => y ≤ x)
  | [], _ => List.pairwise_singleton _ _
  | x :: l, h => by
    obtain ⟨h1, h2⟩ := List.pairwise_cons.1 h
    unfold insD
    split
    · rename_i hn
      refine List.pairwise_cons.2 ⟨fun y hy => ?_, insD_fall n l h2⟩
      rcases List.mem_cons.1 ((insD_perm n l).mem_iff.1 hy) with rfl | hy
      · exact hn
      · exact h1 y hy
    · rename_i hn
      refine List.pairwise_cons.2 ⟨fun y hy => ?_, h⟩
      rcases List.mem_cons.1 hy with rfl | hy
      · omega
      · have := h1 y hy; omega
theorem sortD_props (l : List Int) : (sortD l).Perm l ∧ (sortD l).Pairwise (fun x y => y ≤ x) := by
  have : ∀ (l s : List Int), s.Pairwise (fun x y => y ≤ x) → (l.foldl (fun s n => insD n s) s).Perm (s ++ l) ∧ (l.foldl (fun s n => insD n s) s).Pairwise (fun x y => y ≤ x) := by
    intro l
    induction l with
    | nil => intro s hs; exact ⟨by simp, hs⟩
    | cons x l ih =>
      intro s hs
      obtain ⟨h1, h2⟩ := ih (insD x s) (insD_fall x s hs)
      refine ⟨h1.trans ?_, h2⟩
      exact ((insD_perm x s).append_right l).trans (List.perm_middle.symm)
  have h := this l [] List.Pairwise.nil
  exact ⟨by simpa [sortD] using h.1, h.2⟩
theorem sortD_snoc (l : List Int) (n : Int) : sortD (l ++ [n]) = insD n (sortD l) := by simp [sortD]
theorem sortD_len (l : List Int) : (sortD l).length = l.length := (sortD_props l).1.length_eq
/-- the place where a number is put in -/
def insAt (n : Int) (l : List Int) : Nat := (l.takeWhile (fun x => decide (n ≤ x))).length
theorem insD_at (n : Int) : ∀ l : List Int, insD n l = l.take (insAt n l) ++ n :: l.drop (insAt n l)
  | [] => rfl
  | x :: l => by
    unfold insD insAt
    rw [List.takeWhile_cons]
    by_cases h : n ≤ x
    · rw [if_pos h, if_pos (by simpa using h), insD_at n l]; rfl
    · rw [if_neg h, if_neg (by simpa using h)]; rfl
def canD (kk : Int) (l : List Int) : Bool := decide (∀ i, i < l.length → (sortD l)[i]?.getD 0 ≤ kk - 1 - i)
theorem canD_eq {m : Nat} {kk : Int} {l : List Int} (hl : m ≤ l.length) : canD kk (l.take m) = canB m kk l := by
  have e : (l.take m).length = m := by rw [List.length_take]; omega
  rw [Bool.eq_iff_iff, canB_over hl]
  unfold canD
  rw [decide_eq_true_eq, e]
  constructor
  · intro h i hi; have := h i hi; rwa [fall_at _ _ _ (sortD_props _).2 (by rw [sortD_len, e]; exact hi), over_perm (sortD_props _).1] at this
  · intro h i hi; rw [fall_at _ _ _ (sortD_props _).2 (by rw [sortD_len, e]; exact hi), over_perm (sortD_props _).1]; exact h i hi

theorem snoc_ind {P : List Int → Prop} (h0 : P []) (h1 : ∀ xs x, P xs → P (xs ++ [x])) (xs : List Int) : P xs := by
  have : ∀ n, n ≤ xs.length → P (xs.take n) := by
    intro n
    induction n with
    | zero => intro _; rw [List.take_zero]; exact h0
    | succ n ih => intro h; rw [take_succI (by omega)]; exact h1 _ _ (ih (by omega))
  have h := this xs.length (Nat.le_refl _)
  rwa [List.take_of_length_le (Nat.le_refl _)] at h
theorem mendF_all (m : Nat) (kk : Int) (xs : List Int) : (mendF m kk xs).1.length = xs.length ∧ (mendF m kk xs).2 = wL (mendF m kk xs).1 := by
  have h := mendF_props m kk xs xs.length (Nat.le_refl _)
  rwa [List.take_of_length_le (Nat.le_refl _)] at h
theorem mendF_in {m : Nat} {kk : Int} (hm : 1 ≤ m) (hm8 : m ≤ 8) (xs : List Int) : ∀ y ∈ (mendF m kk xs).1, 0 ≤ y ∧ y < m := by
  refine snoc_ind (P := fun xs => ∀ y ∈ (mendF m kk xs).1, 0 ≤ y ∧ y < m) (fun y hy => by cases hy) ?_ xs
  intro xs x ih y hy
  rw [mendF_snoc] at hy
  rcases List.mem_append.1 hy with h | h
  · exact ih y h
  · have hl : (mendF m kk xs).2.length = 8 := by rw [(mendF_all m kk xs).2, wL_len]
    have hp := mendP_lt hm hm8 kk hl x
    rw [List.mem_singleton.1 h]; omega
end Go.Proofs.Ytijofgbealikaaa
