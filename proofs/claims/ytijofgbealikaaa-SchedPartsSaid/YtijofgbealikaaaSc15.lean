/- package sched: Mend, plainly. No condition. -/
import Derived.Test.YtijofgbealikaaaSc14
namespace Go.Proofs.Ytijofgbealikaaa
/-- a wish, as a CPU -/
def wishP (m : Nat) (x : Int) : Nat := (x % m).toNat
theorem wish_rem {m : Nat} (hm : 1 ≤ m) (x : Int) : ((x.tmod m) + m).tmod m = (wishP m x : Int) := by
  have hm0 : (0 : Int) < (m : Int) := by omega
  have h1 := Int.emod_nonneg x (show (m : Int) ≠ 0 by omega)
  have h2 := Int.emod_lt_of_pos x hm0
  have ht1 : -(m : Int) < x.tmod m := Int.lt_tmod_of_pos x hm0
  unfold wishP
  rw [Int.toNat_of_nonneg h1, Int.tmod_eq_emod_of_nonneg (by omega), Int.add_emod_right]
  exact Int.emod_eq_emod_iff_emod_sub_eq_zero.2 (by
    have e : x.tmod m - x = -((m : Int) * (x.tdiv m)) := by have := Int.mul_tdiv_add_tmod x m; omega
    rw [e]
    simp)
theorem wish_lt {m : Nat} (hm : 1 ≤ m) (x : Int) : wishP m x < m := by
  have h1 := Int.emod_nonneg x (show (m : Int) ≠ 0 by omega)
  have h2 := Int.emod_lt_of_pos x (show (0 : Int) < (m : Int) by omega)
  unfold wishP
  omega
/-- who is picked by a wish, behind waits -/
def mendP (m : Nat) (kk : Int) (l : List Int) (x : Int) : Nat := if canB m kk (pickL l (wishP m x)) = true then wishP m x else mostL (l.take m)
def mendSt (m : Nat) (kk : Int) (s : List Int × List Int) (x : Int) : List Int × List Int := (s.1 ++ [(mendP m kk s.2 x : Int)], pickL s.2 (mendP m kk s.2 x))
def mendF (m : Nat) (kk : Int) (xs : List Int) : List Int × List Int := xs.foldl (mendSt m kk) ([], List.replicate 8 0)
theorem mendF_snoc (m : Nat) (kk : Int) (xs : List Int) (x : Int) : mendF m kk (xs ++ [x]) = mendSt m kk (mendF m kk xs) x := by simp [mendF]
theorem mendF_props (m : Nat) (kk : Int) (xs : List Int) : ∀ j, j ≤ xs.length → (mendF m kk (xs.take j)).1.length = j ∧ (mendF m kk (xs.take j)).2 = wL (mendF m kk (xs.take j)).1
  | 0, _ => by rw [List.take_zero]; exact ⟨rfl, rfl⟩
  | j + 1, h => by
    obtain ⟨h1, h2⟩ := mendF_props m kk xs j (by omega)
    rw [take_succI h, mendF_snoc]
    refine ⟨by show (_ ++ [_]).length = _; rw [List.length_append, h1]; rfl, ?_⟩
    show pickL _ _ = wL (_ ++ [_])
    rw [wL_snoc, ← h2]
    rfl
end Go.Proofs.Ytijofgbealikaaa
