/- package sched, and afterglowref04: sorting, and what is mended, plainly. No condition. -/
import Derived.Test.YtijofgbealikaaaSc17
namespace Go.Proofs.Ytijofgbealikaaa
/-- how many of a row are greater than t -/
def over (t : Int) (l : List Int) : Nat := l.countP (fun x => decide (t < x))
theorem over_cons (t x : Int) (l : List Int) : over t (x :: l) = over t l + (if t < x then 1 else 0) := by
  unfold over; rw [List.countP_cons]; simp
theorem over_perm {t : Int} {a b : List Int} (h : a.Perm b) : over t a = over t b := h.countP_eq _
theorem over_zero {t : Int} {l : List Int} (h : ∀ x ∈ l, x ≤ t) : over t l = 0 := List.countP_eq_zero.2 (fun x hx => by have := h x hx; simp; omega)
theorem over_le (t : Int) (l : List Int) : over t l ≤ l.length := List.countP_le_length
/-- a falling row: its i-th is at most t, if at most i are greater -/
theorem fall_at : ∀ (s : List Int) (t : Int) (i : Nat), s.Pairwise (fun x y => y ≤ x) → i < s.length → (s[i]?.getD 0 ≤ t ↔ over t s ≤ i)
  | [], _, _, _, h => absurd h (Nat.not_lt_zero _)
  | x :: s, t, i, hs, hi => by
    obtain ⟨h1, h2⟩ := List.pairwise_cons.1 hs
    rw [over_cons]
    cases i with
    | zero =>
      show x ≤ t ↔ _
      constructor
      · intro h; rw [over_zero (fun y hy => by have := h1 y hy; omega), if_neg (by omega)]; exact Nat.le_refl _
      · intro h
        by_cases e : t < x
        · rw [if_pos e] at h; omega
        · omega
    | succ i =>
      have ih := fall_at s t i h2 (by simpa using hi)
      show s[i]?.getD 0 ≤ t ↔ _
      rw [ih]
      by_cases e : t < x
      · rw [if_pos e]; omega
      · rw [if_neg e, over_zero (fun y hy => by have := h1 y hy; omega)]; omega
theorem srt_rise (l : List Int) : (srt l).Pairwise fun x y => x ≤ y := by
  have := List.pairwise_mergeSort (le := fun x y : Int => decide (x ≤ y)) (fun a b c h1 h2 => by simp at *; omega) (fun a b => by simp; omega) l
  exact this.imp (fun h => by simpa using h)
theorem srt_at {l : List Int} {t : Int} {i : Nat} (hi : i < l.length) : (srt l)[l.length - 1 - i]?.getD 0 ≤ t ↔ over t l ≤ i := by
  have h := fall_at (srt l).reverse t i (by rw [List.pairwise_reverse]; exact srt_rise l) (by rw [List.length_reverse, srt_len]; exact hi)
  rw [List.getElem?_reverse (by rw [srt_len]; exact hi), srt_len, over_perm (List.reverse_perm _), over_perm (srt_perm l)] at h
  exact h
theorem canB_over {m : Nat} {kk : Int} {l : List Int} (hl : m ≤ l.length) : canB m kk l = true ↔ ∀ i, i < m → over (kk - 1 - i) (l.take m) ≤ i := by
  have e : (l.take m).length = m := by rw [List.length_take]; omega
  unfold canB
  rw [decide_eq_true_eq]
  constructor
  · intro h i hi; have := h i hi; rwa [show m - 1 - i = (l.take m).length - 1 - i by rw [e], srt_at (by rw [e]; exact hi)] at this
  · intro h i hi; have := h i hi; rwa [← srt_at (by rw [e]; exact hi), e] at this
theorem over_inc (t : Int) : ∀ l : List Int, over t (l.map (· + 1)) = over (t - 1) l
  | [] => rfl
  | x :: l => by rw [List.map_cons, over_cons, over_cons, over_inc t l]; congr 1; by_cases h : t - 1 < x
                 · rw [if_pos h, if_pos (by omega)]
                 · rw [if_neg h, if_neg (by omega)]
theorem over_set {t : Int} {v : Int} (hv : v ≤ t) : ∀ (l : List Int) (p : Nat), p < l.length → over t (l.set p v) + (if t < l[p]?.getD 0 then 1 else 0) = over t l
  | [], _, h => absurd h (Nat.not_lt_zero _)
  | x :: l, 0, _ => by
    show over t (v :: l) + (if t < x then 1 else 0) = _
    rw [over_cons, over_cons, if_neg (by omega)]; rfl
  | x :: l, p + 1, h => by
    have ih := over_set hv l p (by simpa using h)
    show over t (x :: l.set p v) + (if t < l[p]?.getD 0 then 1 else 0) = _
    rw [over_cons, over_cons]; omega
theorem pickL_take {l : List Int} {p m : Nat} (hp : p < m) : (pickL l p).take m = ((l.take m).map (· + 1)).set p 0 := by
  unfold pickL; rw [List.take_set, List.map_take]
theorem mostF_top : ∀ (l : List Int) (v : Int) (k i : Nat) (L : List Int), (∀ j, j < l.length → L[i + j]?.getD 0 = l[j]?.getD 0) → L[k]?.getD 0 = v → k < i + 1 → (∀ j, j < i → L[j]?.getD 0 ≤ v) → ∀ j, j < i + l.length → L[j]?.getD 0 ≤ L[mostF l v k i]?.getD 0
  | [], v, k, i, L, _, hk, _, hb, j, hj => by show L[j]?.getD 0 ≤ L[k]?.getD 0; rw [hk]; exact hb j hj
  | x :: l, v, k, i, L, hL, hk, hki, hb, j, hj => by
    have h0 : L[i]?.getD 0 = x := hL 0 (by simp)
    have hL' : ∀ j, j < l.length → L[i + 1 + j]?.getD 0 = l[j]?.getD 0 := fun j hj => by rw [show i + 1 + j = i + (j + 1) by omega, hL (j + 1) (by simpa using hj)]; rfl
    rw [List.length_cons] at hj
    unfold mostF
    split
    · rename_i h
      exact mostF_top l x i (i + 1) L hL' h0 (by omega) (fun j hj => by
        rcases Nat.lt_or_ge j i with h1 | h1
        · have := hb j h1; omega
        · obtain rfl : j = i := by omega
          rw [h0]; exact Int.le_refl _) j (by omega)
    · rename_i h
      exact mostF_top l v k (i + 1) L hL' hk (by omega) (fun j hj => by
        rcases Nat.lt_or_ge j i with h1 | h1
        · exact hb j h1
        · obtain rfl : j = i := by omega
          rw [h0]; omega) j (by omega)
theorem mostL_top {l : List Int} {j : Nat} (h : j < l.length) : l[j]?.getD 0 ≤ l[mostL l]?.getD 0 := by
  refine mostF_top l _ 0 0 l (fun j _ => by rw [Nat.zero_add]) rfl (by omega) (fun j hj => absurd hj (Nat.not_lt_zero _)) j (by omega)
/-- who waits longest can be picked: the rest stays in time -/
theorem canB_most {m : Nat} {kk : Int} {l : List Int} (hm : 1 ≤ m) (hk : (m : Int) ≤ kk) (hl : m ≤ l.length) (hlt : mostL (l.take m) < m) (h : canB m kk l = true) : canB m kk (pickL l (mostL (l.take m))) = true := by
  have e : (l.take m).length = m := by rw [List.length_take]; omega
  rw [canB_over hl] at h
  rw [canB_over (by unfold pickL; simpa using hl)]
  intro i hi
  rw [pickL_take hlt]
  have h1 := over_set (t := kk - 1 - i) (v := 0) (by omega) ((l.take m).map (· + 1)) (mostL (l.take m)) (by rw [List.length_map, e]; exact hlt)
  rw [over_inc] at h1
  have hget : ((l.take m).map (· + 1))[mostL (l.take m)]?.getD 0 = (l.take m)[mostL (l.take m)]?.getD 0 + 1 := by
    rw [List.getElem?_map, List.getElem?_eq_getElem (by rw [e]; exact hlt)]; rfl
  rw [hget] at h1
  by_cases h2 : kk - 1 - (i : Int) < (l.take m)[mostL (l.take m)]?.getD 0 + 1
  · rw [if_pos h2] at h1
    rcases Nat.lt_or_ge (i + 1) m with h3 | h3
    · have h4 := h (i + 1) h3
      rw [show kk - 1 - ((i + 1 : Nat) : Int) = kk - 1 - (i : Int) - 1 by omega] at h4
      omega
    · have h4 := over_le (kk - 1 - i - 1) (l.take m)
      omega
  · have h4 : over (kk - 1 - (i : Int) - 1) (l.take m) = 0 := over_zero (fun x hx => by
      obtain ⟨j, hj, rfl⟩ := List.mem_iff_getElem.1 hx
      have := mostL_top hj
      rw [List.getElem?_eq_getElem hj, Option.getD_some] at this
      omega)
    omega
theorem canB_zero {m : Nat} {kk : Int} {l : List Int} (hk : (m : Int) ≤ kk) (hl : m ≤ l.length) (h : ∀ x ∈ l, x = 0) : canB m kk l = true := by
  rw [canB_over hl]
  intro i hi
  rw [over_zero (fun x hx => by have := h x (List.mem_of_mem_take hx); omega)]
  exact Nat.zero_le _
theorem canB_lt {m : Nat} {kk : Int} {l : List Int} (hm : 1 ≤ m) (hl : m ≤ l.length) (h : canB m kk l = true) : ∀ q, q < m → l[q]?.getD 0 < kk := by
  intro q hq
  have h0 := (canB_over hl).1 h 0 (by omega)
  have h1 := List.countP_eq_zero.1 (show over (kk - 1 - ((0 : Nat) : Int)) (l.take m) = 0 by omega) (l[q]'(by omega)) (List.mem_take_iff_getElem.2 ⟨q, by omega, rfl⟩)
  simp at h1
  rw [List.getElem?_eq_getElem (by omega), Option.getD_some]
  omega
/-- numbers, the greatest first, one put in -/
def insD (n : Int) : List Int → List Int
  | [] => [n]
  | x :: l => if n ≤ x then x :: insD n l else n :: x :: l
def sortD (l : List Int) : List Int := l.foldl (fun s n => insD n s) []
/-- the place where a number is put in -/
def insAt (n : Int) (l : List Int) : Nat := (l.takeWhile (fun x => decide (n ≤ x))).length
def canD (kk : Int) (l : List Int) : Bool := decide (∀ i, i < l.length → (sortD l)[i]?.getD 0 ≤ kk - 1 - i)
theorem snoc_ind {P : List Int → Prop} (h0 : P []) (h1 : ∀ xs x, P xs → P (xs ++ [x])) (xs : List Int) : P xs := by
  have : ∀ n, n ≤ xs.length → P (xs.take n) := by
    intro n
    induction n with
    | zero => intro _; rw [List.take_zero]; exact h0
    | succ n ih => intro h; rw [take_succI (by omega)]; exact h1 _ _ (ih (by omega))
  have h := this xs.length (Nat.le_refl _)
  rwa [List.take_of_length_le (Nat.le_refl _)] at h
theorem mendF_all (m : Nat) (kk : Int) (xs : List Int) : (mendF m kk xs).1.length = xs.length ∧ (mendF m kk xs).2 = wL (mendF m kk xs).1 := by
  have h := mendF_props m kk xs xs.length (Nat.le_refl _)
  rwa [List.take_of_length_le (Nat.le_refl _)] at h
theorem wish_self {m p : Nat} (h : p < m) : wishP m (p : Int) = p := by
  unfold wishP
  rw [Int.emod_eq_of_lt (by omega) (by omega)]
  rfl
theorem canB_mendP {m : Nat} {kk : Int} {l : List Int} (hm : 1 ≤ m) (hk : (m : Int) ≤ kk) (hl : m ≤ l.length) (h : canB m kk l = true) (x : Int) : canB m kk (pickL l (mendP m kk l x)) = true := by
  unfold mendP
  split
  · assumption
  · have e : (l.take m).length = m := by rw [List.length_take]; omega
    exact canB_most hm hk hl (by have := mostL_lt (l := l.take m) (by omega); omega) h
theorem mendF_can {m : Nat} {kk : Int} (hm : 1 ≤ m) (hm8 : m ≤ 8) (hk : (m : Int) ≤ kk) (xs : List Int) : canB m kk (mendF m kk xs).2 = true := by
  refine snoc_ind (P := fun xs => canB m kk (mendF m kk xs).2 = true) ?_ ?_ xs
  · exact canB_zero hk (by show m ≤ (List.replicate 8 (0 : Int)).length; simpa using hm8) (fun x hx => (List.mem_replicate.1 hx).2)
  · intro xs x ih
    rw [mendF_snoc]
    exact canB_mendP hm hk (by rw [(mendF_all m kk xs).2, wL_len]; exact hm8) ih x
/-- what is mended is kept -/
theorem mendF_kept {m : Nat} {kk : Int} (hm : 1 ≤ m) (hm8 : m ≤ 8) (hk : (m : Int) ≤ kk) (xs : List Int) : mendF m kk (mendF m kk xs).1 = mendF m kk xs := by
  refine snoc_ind (P := fun xs => mendF m kk (mendF m kk xs).1 = mendF m kk xs) rfl ?_ xs
  intro xs x ih
  have hl : (mendF m kk xs).2.length = 8 := by rw [(mendF_all m kk xs).2, wL_len]
  have hp := mendP_lt hm hm8 kk hl x
  have hc := canB_mendP hm hk (by rw [hl]; exact hm8) (mendF_can hm hm8 hk xs) x
  rw [mendF_snoc]
  show mendF m kk ((mendF m kk xs).1 ++ [(mendP m kk (mendF m kk xs).2 x : Int)]) = _
  rw [mendF_snoc, ih]
  have e : mendP m kk (mendF m kk xs).2 (mendP m kk (mendF m kk xs).2 x : Int) = mendP m kk (mendF m kk xs).2 x := by
    have hw := wish_self hp
    have : ∀ q : Nat, wishP m (q : Int) = q → canB m kk (pickL (mendF m kk xs).2 q) = true → mendP m kk (mendF m kk xs).2 (q : Int) = q := fun q h1 h2 => by
      unfold mendP; rw [h1, if_pos h2]
    exact this _ hw hc
  unfold mendSt
  rw [e]
theorem mendF_in {m : Nat} {kk : Int} (hm : 1 ≤ m) (hm8 : m ≤ 8) (xs : List Int) : ∀ y ∈ (mendF m kk xs).1, 0 ≤ y ∧ y < m := by
  refine snoc_ind (P := fun xs => ∀ y ∈ (mendF m kk xs).1, 0 ≤ y ∧ y < m) (fun y hy => by cases hy) ?_ xs
  intro xs x ih y hy
  rw [mendF_snoc] at hy
  rcases List.mem_append.1 hy with h | h
  · exact ih y h
  · have hl : (mendF m kk xs).2.length = 8 := by rw [(mendF_all m kk xs).2, wL_len]
    have hp := mendP_lt hm hm8 kk hl x
    rw [List.mem_singleton.1 h]; omega
theorem mendF_take (m : Nat) (kk : Int) (xs : List Int) : ∀ j, j ≤ xs.length → (mendF m kk xs).1.take j = (mendF m kk (xs.take j)).1 := by
  refine snoc_ind (P := fun xs => ∀ j, j ≤ xs.length → (mendF m kk xs).1.take j = (mendF m kk (xs.take j)).1) ?_ ?_ xs
  · intro j hj; rw [show j = 0 by simpa using hj]; rfl
  · intro xs x ih j hj
    rw [List.length_append, List.length_singleton] at hj
    have hl := (mendF_all m kk xs).1
    rcases Nat.lt_or_ge xs.length j with h | h
    · rw [List.take_of_length_le (by rw [(mendF_all _ _ _).1, List.length_append, List.length_singleton]; omega), List.take_of_length_le (by rw [List.length_append, List.length_singleton]; omega)]
    · rw [mendF_snoc, List.take_append_of_le_length h]
      show ((mendF m kk xs).1 ++ [_]).take j = _
      rw [List.take_append_of_le_length (by omega), ih j h]
end Go.Proofs.Ytijofgbealikaaa
