/- package sched, and afterglowref04: sorting, and what is mended, plainly. No condition. -/
import Derived.Test.YtijofgbealikaaaSc17
namespace Go.Proofs.Ytijofgbealikaaa
/-- how many of a row are greater than t -/
def over (t : Int) (l : List Int) : Nat := l.countP (fun x => decide (t < x))
theorem over_cons (t x : Int) (l : List Int) : over t (x :: l) = over t l + (if t < x then 1 else 0) := by
  unfold over; rw [List.countP_cons]; simp
theorem over_perm {t : Int} {a b : List Int} (h : a.Perm b) : over t a = over t b := h.countP_eq _
theorem over_zero {t : Int} {l : List Int} (h : ∀ x ∈ l, x ≤ t) : over t l = 0 := List.countP_eq_zero.2 (fun x hx => by have := h x hx; simp; omega)
/-- a falling row: its i-th is at most t, if at most i are greater -/
theorem fall_at : ∀ (s : List Int) (t : Int) (i : Nat), s.Pairwise (fun x y => y ≤ x) → i < s.length → (s[i]?.getD 0 ≤ t ↔ over t s ≤ i)
  | [], _, _, _, h => absurd h (Nat.not_lt_zero _)
  | x :: s, t, i, hs, hi => by
    obtain ⟨h1, h2⟩ := List.pairwise_cons.1 hs
    rw [over_cons]
    cases i with
    | zero =>
      show x ≤ t ↔ _
      constructor
      · intro h; rw [over_zero (fun y hy => by have := h1 y hy; omega), if_neg (by omega)]; exact Nat.le_refl _
      · intro h
        by_cases e : t < x
        · rw [if_pos e] at h; omega
        · omega
    | succ i =>
      have ih := fall_at s t i h2 (by simpa using hi)
      show s[i]?.getD 0 ≤ t ↔ _
      rw [ih]
      by_cases e : t < x
      · rw [if_pos e]; omega
      · rw [if_neg e, over_zero (fun y hy => by have := h1 y hy; omega)]; omega
theorem srt_rise (l : List Int) : (srt l).Pairwise fun x y => x ≤ y := by
  have := List.pairwise_mergeSort (le := fun x y : Int => decide (x ≤ y)) (fun a b c h1 h2 => by simp at *; omega) (fun a b => by simp; omega) l
  exact this.imp (fun h => by simpa using h)
theorem srt_at {l : List Int} {t : Int} {i : Nat} (hi : i < l.length) : (srt l)[l.length - 1 - i]?.getD 0 ≤ t ↔ over t l ≤ i := by
  have h := fall_at (srt l).reverse t i (by rw [List.pairwise_reverse]; exact srt_rise l) (by rw [List.length_reverse, srt_len]; exact hi)
  rw [List.getElem?_reverse (by rw [srt_len]; exact hi), srt_len, over_perm (List.reverse_perm _), over_perm (srt_perm l)] at h
  exact h
theorem canB_over {m : Nat} {kk : Int} {l : List Int} (hl : m ≤ l.length) : canB m kk l = true ↔ ∀ i, i < m → over (kk - 1 - i) (l.take m) ≤ i := by
  have e : (l.take m).length = m := by rw [List.length_take]; omega
  unfold canB
  rw [decide_eq_true_eq]
  constructor
  · intro h i hi; have := h i hi; rwa [show m - 1 - i = (l.take m).length - 1 - i by rw [e], srt_at (by rw [e]; exact hi)] at this
  · intro h i hi; have := h i hi; rwa [← srt_at (by rw [e]; exact hi), e] at this
/-- numbers, the greatest first, one put in -/
def insD (n : Int) : List Int → List Int
  | [] => [n]
  | x :: l => if n ≤ x then x :: insD n l else n :: x :: l
def sortD (l : List Int) : List Int := l.foldl (fun s n => insD n s) []
/-- the place where a number is put in -/
def insAt (n : Int) (l : List Int) : Nat := (l.takeWhile (fun x => decide (n ≤ x))).length
def canD (kk : Int) (l : List Int) : Bool := decide (∀ i, i < l.length → (sortD l)[i]?.getD 0 ≤ kk - 1 - i)
theorem snoc_ind {P : List Int → Prop} (h0 : P []) (h1 : ∀ xs x, P xs → P (xs ++ [x])) (xs : List Int) : P xs := by
  have : ∀ n, n ≤ xs.length → P (xs.take n) := by
    intro n
    induction n with
    | zero => intro _; rw [List.take_zero]; exact h0
    | succ n ih => intro h; rw [take_succI (by omega)]; exact h1 _ _ (ih (by omega))
  have h := this xs.length (Nat.le_refl _)
  rwa [List.take_of_length_le (Nat.le_refl _)] at h
theorem mendF_all (m : Nat) (kk : Int) (xs : List Int) : (mendF m kk xs).1.length = xs.length ∧ (mendF m kk xs).2 = wL (mendF m kk xs).1 := by
  have h := mendF_props m kk xs xs.length (Nat.le_refl _)
  rwa [List.take_of_length_le (Nat.le_refl _)] at h
end Go.Proofs.Ytijofgbealikaaa
