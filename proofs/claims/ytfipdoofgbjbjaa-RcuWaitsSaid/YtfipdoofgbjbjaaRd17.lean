/- The plain law of readers: what may be stays so behind a step. No condition. -/
import Derived.Test.YtfipdoofgbjbjaaRd13
namespace Go.Proofs.Ytfipdoofgbjbjaa
open Go.RowKit

theorem set_getD (l : List Int) (k j : Nat) (v : Int) (hk : k < l.length) : (l.set k v)[j]?.getD 0 = if j = k then v else l[j]?.getD 0 := by
  by_cases h : j = k
  · subst h; rw [List.getElem?_set_self hk, if_pos rfl]; rfl
  · rw [List.getElem?_set_ne (Ne.symm h), if_neg h]
theorem stepOs_get {now : Int} {ns os : List Int} {k j : Nat} {ent : Bool} (hk : k < os.length) :
    (stepOs now ns os k ent)[j]?.getD 0 = if j = k then (if ent = true then (if ns[k]?.getD 0 = 0 then now + 1 else os[k]?.getD 0) else (if ns[k]?.getD 0 = 1 then 0 else os[k]?.getD 0)) else os[j]?.getD 0 := by
  unfold stepOs enterO leaveO
  by_cases h : j = k
  · subst h
    cases ent
    · by_cases h1 : ns[j]?.getD 0 = 1
      · simp [h1, set_getD os j j 0 hk]
      · simp [h1]
    · by_cases h1 : ns[j]?.getD 0 = 0
      · simp [h1, set_getD os j j (now + 1) hk]
      · simp [h1]
  · cases ent
    · by_cases h1 : ns[k]?.getD 0 = 1
      · simp [h1, set_getD os k j 0 hk, h]
      · simp [h1, h]
    · by_cases h1 : ns[k]?.getD 0 = 0
      · simp [h1, set_getD os k j (now + 1) hk, h]
      · simp [h1, h]
theorem stepNs_len (ns : List Int) (k : Nat) (ent : Bool) : (stepNs ns k ent).length = ns.length := by simp [stepNs]
theorem stepOs_len (now : Int) (ns os : List Int) (k : Nat) (ent : Bool) : (stepOs now ns os k ent).length = os.length := by
  unfold stepOs enterO leaveO; split <;> split <;> simp
theorem good_step {now : Int} {ns os : List Int} {x : Int × Bool} (hg : Good now ns os) (hc : stC (now, ns, os) x = 0) :
    Good (stN (now, ns, os) x).1 (stN (now, ns, os) x).2.1 (stN (now, ns, os) x).2.2 := by
  obtain ⟨cpu, ent⟩ := x
  obtain ⟨c1, c2, c3, c4, c5⟩ := stC_zero hc
  dsimp only at c1 c2 c3 c4 c5
  show Good (now + 1) (stepNs ns cpu.toNat ent) (stepOs now ns os cpu.toNat ent)
  generalize cpu.toNat = k at *
  obtain ⟨⟨s1, s2, s3, s4, s5⟩, hr⟩ := good_iff.1 hg
  refine good_iff.2 ⟨⟨by rw [stepNs_len]; exact s1, by rw [stepNs_len]; exact s2, by rw [stepNs_len, stepOs_len]; exact s3, by omega, by omega⟩, fun i hi => ?_⟩
  rw [stepNs_len] at hi
  have hk := hr k c2
  have hi' := hr i hi
  obtain ⟨k1, k2, k3, k4, k5⟩ := hk
  obtain ⟨i1, i2, i3, i4, i5⟩ := hi'
  have le_now : ∀ j, j < ns.length → os[j]?.getD 0 ≤ now := fun j hj => by
    obtain ⟨a1, _, a3, a4, _⟩ := hr j hj
    by_cases h : 0 < ns[j]?.getD 0
    · exact (a4 h).2
    · rw [a3 (by omega)]; exact s4
  unfold RowR
  rw [stepNs_get c2, stepOs_get (by omega)]
  by_cases h : i = k
  · subst h
    simp only [if_true]
    cases ent
    · have c5' := c5 rfl
      simp only [Bool.false_eq_true, if_false]
      refine ⟨by omega, by omega, fun h0 => by rw [if_pos (by omega)], fun h0 => ?_, fun j hj hne => ?_⟩
      · rw [if_neg (by omega)]; have := k4 (by omega); omega
      · rw [stepOs_get (by omega), if_neg (by omega)]
        by_cases h1 : ns[i]?.getD 0 = 1
        · rw [if_pos h1] at hne; exact absurd rfl hne
        · rw [if_neg h1] at hne ⊢; exact k5 j hj hne
    · have c4' := c4 rfl
      simp only [eq_self, if_true]
      refine ⟨by omega, by omega, fun h0 => by omega, fun _ => ?_, fun j hj hne => ?_⟩
      · by_cases h0 : ns[i]?.getD 0 = 0
        · rw [if_pos h0]; omega
        · rw [if_neg h0]; have := k4 (by omega); omega
      · rw [stepOs_get (by omega), if_neg (by omega)]
        by_cases h0 : ns[i]?.getD 0 = 0
        · rw [if_pos h0]; have := le_now j (by omega); omega
        · rw [if_neg h0] at hne ⊢; exact k5 j hj hne
  · simp only [if_neg h]
    refine ⟨i1, i2, i3, fun h0 => by have := i4 h0; omega, fun j hj hne => ?_⟩
    rw [stepOs_get (by omega)]
    by_cases hjk : j = k
    · subst hjk
      simp only [if_true]
      have hle := le_now i hi
      have hpos : 0 < ns[i]?.getD 0 := by
        apply Classical.byContradiction; intro h0; exact hne (i3 (by omega))
      have := (i4 hpos).1
      cases ent
      · simp only [Bool.false_eq_true, if_false]
        split
        · omega
        · exact i5 j hj hne
      · simp only [if_true]
        split
        · omega
        · exact i5 j hj hne
    · rw [if_neg hjk]; exact i5 j hj hne

/-! ### one step -/
theorem oneF_err {now : Int} {ns os : List Int} {x : Int × Bool} (h : Good now ns os) (hc : stC (now, ns, os) x ≠ 0) : oneF now ns os x = (stC (now, ns, os) x, (0, [], [])) := by
  unfold oneF runF; rw [if_pos h]; simp only [runA, if_neg hc]
theorem oneF_ok {now : Int} {ns os : List Int} {x : Int × Bool} (h : Good now ns os) (hc : stC (now, ns, os) x = 0) : oneF now ns os x = (0, stN (now, ns, os) x) := by
  unfold oneF runF; rw [if_pos h]; simp only [runA, if_pos hc]
end Go.Proofs.Ytfipdoofgbjbjaa
