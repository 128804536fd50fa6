/- What a law is told of a row of structures that came in. No condition. -/
import Derived.Test.YtbibfjncjklclaaOpen
import Derived.Test.YtbibfjncjklclaaKitA
import Derived.Deep.Slices
namespace Go.Proofs.Ytbibfjncjklclaa
open Go.ChangeShapes Go.WideShapes Go.ChangeAt Go.RowKit Go.Joins Go.Deep

section
variable {H : Type} {enc : TypeId × Value → H} {w : World} {base : Nat} {spare : Nat → Bool} {held : Bool}
theorem open_sm {α : Type} {t e : TypeId} (ht : Try.prog.underlying t = some (.slice e)) {sz : Nat} (hC : Try.prog.cellsOf e = sz) (hs0 : 0 < sz) (ef : α → Nat → Value) (dflt : α) (ok : α → Prop)
    (hel : ∀ (n : Nat) (cs' : List Value) (y : DataW H × List MemPlace), DataW.trod enc Try.prog w base spare held n e cs' = some y → ∃ x, ok x ∧ ∀ j, j < sz → cs'[j]? = some (ef x j))
    {fuel : Nat} {v : Value} {x : DataW H × List MemPlace} (h : DataW.trod enc Try.prog w base spare held fuel t [v] = some x) :
    ∃ A n c xs, v = .slice A n c ∧ n ≤ c ∧ c ≤ maxLen ∧ Sm sz ef dflt w 0 w.heap.size A n xs ∧ ∀ y ∈ xs, ok y := by
  rcases open_slice ht h with ⟨hcs, _⟩ | ⟨a, l, c, m, n, D, Pl, hcs, hb, hl, hm, hmm, _, hi⟩
  · simp at hcs
    exact ⟨none, 0, 0, [], hcs, Nat.le_refl _, by simp [maxLen], Sm.nil _ _ _ _, by simp⟩
  · simp at hcs
    have each : ∀ i, i < l → ∃ x : α, ok x ∧ ∀ j, j < sz → w.cell? ((a.add (i * sz)).add j) = some (ef x j) := by
      intro i hil
      obtain ⟨cs', h1, h2⟩ := hi i (by rw [hmm]; split <;> omega)
      rw [hC] at h1
      obtain ⟨_, hlen, hcell⟩ := World.cells?_some h1
      obtain ⟨x, hx, hxj⟩ := hel n cs' _ h2
      exact ⟨x, hx, fun j hj => (hcell j hj).trans (hxj j hj)⟩
    obtain ⟨f, hf⟩ := Classical.axiomOfChoice (fun i : {i : Nat // i < l} => each i.1 i.2)
    let g : Nat → α := fun i => if hi : i < l then f ⟨i, hi⟩ else dflt
    have hg : ∀ i, i < l → ok (g i) ∧ ∀ j, j < sz → w.cell? ((a.add (i * sz)).add j) = some (ef (g i) j) := fun i hi => by
      have := hf ⟨i, hi⟩
      simpa only [g, dif_pos hi] using this
    refine ⟨some a, l, c, (List.range l).map g, hcs, hl, hm, ⟨by simp, fun hn => ?_⟩, fun y hy => ?_⟩
    · obtain ⟨b, off, spot⟩ := a
      have h0 := (hg 0 hn).2 0 hs0
      obtain rfl : spot = none := by simpa [Addr.add] using World.cell?_spot h0
      refine ⟨b, off, rfl, Nat.zero_le _, ?_, fun k hk j hj => ?_⟩
      · rw [Nat.zero_mul, Addr.add_lit, Addr.add_lit] at h0
        exact block_lt h0
      · have := (hg k hk).2 j hj
        rw [Addr.add_lit, Addr.add_lit] at this
        rw [this]
        simp [hk]
    · obtain ⟨i, hi, rfl⟩ := List.mem_map.1 hy
      exact (hg i (List.mem_range.1 hi)).1
set_option maxRecDepth 100000 in
theorem open_sm_v {α : Type} {t e : TypeId} (ht : Try.prog.underlying t = some (.slice e)) {sz : Nat} (hC : Try.prog.cellsOf e = sz) (hs0 : 0 < sz) (ef : α → Nat → Value) (dflt : α) (ok : α → Prop)
    (hel : ∀ (n : Nat) (cs' : List Value) (y : DataW H × List MemPlace), DataW.trod enc Try.prog w base spare held n e cs' = some y → ∃ x, ok x ∧ ∀ j, j < sz → cs'[j]? = some (ef x j))
    {r : Reach} {b0 : Nat} {v : Value} {d : DataW H} {p : List MemPlace} (hv : Value.okWide Try.prog w r b0 t v) (h : DataW.Trod enc Try.prog w base spare held t v d p) :
    ∃ A n c xs, v = .slice A n c ∧ n ≤ c ∧ c ≤ maxLen ∧ Sm sz ef dflt w 0 w.heap.size A n xs ∧ ∀ y ∈ xs, ok y := by
  obtain ⟨a0, l0, c0, rfl⟩ := okWide_slice ht hv
  obtain ⟨fuel, hf⟩ := h
  exact open_sm ht hC hs0 ef dflt ok hel (by simpa [Value.cells] using hf)
end
end Go.Proofs.Ytbibfjncjklclaa
