/- General words: owned rows, and blocks of another type. No condition. -/
import Derived.Test.YtaeanmkbongfcaaKitO
namespace Go.Proofs.Ytaeanmkbongfcaa
open Go.RowKit
section
variable {α : Type} {enc : α → Value} {w w' : World} {lo : Nat} {e : TypeId} {A : Option Addr} {n c : Nat} {xs : List α}
theorem Ow.blk (h : Ow enc w lo e A n c xs) : ∀ a, A = some a → lo ≤ a.block ∧ ∃ cs, Blk w a.block e cs := by
  intro a ha
  rcases h.own.2 with ⟨hv, h0⟩ | ⟨g, cap, cur, hv, hb1, hg, r⟩
  · simp only [Value.slice.injEq] at hv; obtain ⟨rfl, _⟩ := hv; cases ha
  · simp only [Value.slice.injEq] at hv; obtain ⟨rfl, _⟩ := hv; cases ha; exact ⟨hb1, cur, hg⟩
theorem Ow.ne_blk (h : Ow enc w lo e A n c xs) {g : Nat} {t : TypeId} {cs : Array Value} (hb : Blk w g t cs) (hne : t ≠ e) : ∀ a, A = some a → a.block ≠ g := by
  rintro a ha rfl
  obtain ⟨_, cs', h'⟩ := h.blk a ha
  unfold Blk at hb h'
  rw [hb] at h'
  simp only [Option.some.injEq, Obj.cells.injEq] at h'
  exact hne h'.2.1
/-- the row's block alone matters -/
theorem Ow.same (h : Ow enc w lo e A n c xs) (hs : ∀ a, A = some a → w'.heap[a.block]? = w.heap[a.block]?) : Ow enc w' lo e A n c xs := by
  refine ⟨h.len, h.own.1, ?_⟩
  rcases h.own.2 with hh | ⟨g, cap, cur, hv, hb1, hg, r⟩
  · exact .inl hh
  · refine .inr ⟨g, cap, cur, hv, hb1, ?_, r⟩
    simp only [Value.slice.injEq] at hv
    exact (hs ⟨g, 0, none⟩ hv.1).trans hg
theorem Ow.farB (h : Ow enc w lo e A n c xs) {p : Addr} (hp : ∀ a, A = some a → a.block ≠ p.block) (u : Value) : Ow enc (w.setCell p u) lo e A n c xs :=
  h.same fun a ha => Below.heap_setCell w p u a.block (hp a ha)
theorem Ow.farT (h : Ow enc w lo e A n c xs) {g : Nat} {t : TypeId} {cs : Array Value} (hb : Blk w g t cs) (hne : t ≠ e) (o : Nat) (u : Value) : Ow enc (w.setCell ⟨g, o, none⟩ u) lo e A n c xs :=
  h.farB (h.ne_blk hb hne) u
theorem Ow.keptG {row : Option Nat} (h : Ow enc w lo e A n c xs) (hg : w.grownBy w' row) (hr : ∀ a, A = some a → some a.block ≠ row) : Ow enc w' lo e A n c xs :=
  h.same fun a ha => by
    obtain ⟨_, cs, hb⟩ := h.blk a ha
    exact hg.block _ hb.lt (hr a ha)
end
section
variable {α : Type} {sz : Nat} {enc : α → Nat → Value} {w w' : World} {lo : Nat} {e : TypeId} {A : Option Addr} {n c : Nat} {xs : List α}
theorem Om.blk (h : Om sz enc w lo e A n c xs) : ∀ a, A = some a → lo ≤ a.block ∧ ∃ cs, Blk w a.block e cs := by
  intro a ha
  rcases h.own.2 with ⟨hv, h0⟩ | ⟨g, cap, cur, hv, hb1, hg, r⟩
  · simp only [Value.slice.injEq] at hv; obtain ⟨rfl, _⟩ := hv; cases ha
  · simp only [Value.slice.injEq] at hv; obtain ⟨rfl, _⟩ := hv; cases ha; exact ⟨hb1, cur, hg⟩
theorem Om.ne_blk (h : Om sz enc w lo e A n c xs) {g : Nat} {t : TypeId} {cs : Array Value} (hb : Blk w g t cs) (hne : t ≠ e) : ∀ a, A = some a → a.block ≠ g := by
  rintro a ha rfl
  obtain ⟨_, cs', h'⟩ := h.blk a ha
  unfold Blk at hb h'
  rw [hb] at h'
  simp only [Option.some.injEq, Obj.cells.injEq] at h'
  exact hne h'.2.1
theorem Om.same (h : Om sz enc w lo e A n c xs) (hs : ∀ a, A = some a → w'.heap[a.block]? = w.heap[a.block]?) : Om sz enc w' lo e A n c xs := by
  refine ⟨h.len, h.own.1, ?_⟩
  rcases h.own.2 with hh | ⟨g, cap, cur, hv, hb1, hg, r⟩
  · exact .inl hh
  · refine .inr ⟨g, cap, cur, hv, hb1, ?_, r⟩
    simp only [Value.slice.injEq] at hv
    exact (hs ⟨g, 0, none⟩ hv.1).trans hg
theorem Om.farB (h : Om sz enc w lo e A n c xs) {p : Addr} (hp : ∀ a, A = some a → a.block ≠ p.block) (u : Value) : Om sz enc (w.setCell p u) lo e A n c xs :=
  h.same fun a ha => Below.heap_setCell w p u a.block (hp a ha)
theorem Om.farT (h : Om sz enc w lo e A n c xs) {g : Nat} {t : TypeId} {cs : Array Value} (hb : Blk w g t cs) (hne : t ≠ e) (o : Nat) (u : Value) : Om sz enc (w.setCell ⟨g, o, none⟩ u) lo e A n c xs :=
  h.farB (h.ne_blk hb hne) u
theorem Om.keptG {row : Option Nat} (h : Om sz enc w lo e A n c xs) (hg : w.grownBy w' row) (hr : ∀ a, A = some a → some a.block ≠ row) : Om sz enc w' lo e A n c xs :=
  h.same fun a ha => by
    obtain ⟨_, cs, hb⟩ := h.blk a ha
    exact hg.block _ hb.lt (hr a ha)
theorem Om.at_ (h : Om sz enc w lo e A n c xs) (d : α) {k : Nat} (hk : k < n) : ∃ g, A = some ⟨g, 0, none⟩ ∧ lo ≤ g ∧ g < w.heap.size ∧ (∀ j, j < sz → w.cell? ⟨g, k * sz + j, none⟩ = some (enc (xs[k]?.getD d) j)) ∧ ∀ i, w.frozen? ⟨g, i, none⟩ = false := by
  obtain ⟨g, cap, hv, hlo, hhi⟩ := h.own.form (by omega)
  simp only [Value.slice.injEq] at hv
  obtain ⟨rfl, _, rfl⟩ := hv
  refine ⟨g, rfl, hlo, hhi, fun j hj => ?_, fun i => h.own.frozenAt i⟩
  have hkj : k * sz + j < n * sz := by
    have : (k + 1) * sz ≤ n * sz := Nat.mul_le_mul_right _ hk
    rw [Nat.succ_mul] at this; omega
  rw [h.own.cellAt _ hkj, flat_get d xs k j (by rw [h.len]; exact hk) hj]
end
theorem flat_set3 {α : Type} (enc : α → Nat → Value) : ∀ (xs : List α) (i : Nat) (s : α), flat 3 enc (xs.set i s) = if i < xs.length then (((flat 3 enc xs).set (i * 3) (enc s 0)).set (i * 3 + 1) (enc s 1)).set (i * 3 + 2) (enc s 2) else flat 3 enc xs
  | [], i, s => by simp [flat]
  | x :: xs, 0, s => by simp [flat, cellsOf, List.range_succ]
  | x :: xs, i + 1, s => by
    have ih := flat_set3 enc xs i s
    rw [List.set_cons_succ, flat_cons, flat_cons, ih]
    have hc : cellsOf 3 enc x = [enc x 0, enc x 1, enc x 2] := rfl
    rw [hc, show (i + 1) * 3 = i * 3 + 1 + 1 + 1 by omega, show i * 3 + 1 + 1 + 1 + 1 = (i * 3 + 1) + 1 + 1 + 1 by omega, show i * 3 + 1 + 1 + 1 + 2 = (i * 3 + 2) + 1 + 1 + 1 by omega]
    by_cases h : i < xs.length
    · rw [if_pos h, if_pos (by simp; omega)]
      rfl
    · rw [if_neg h, if_neg (by simp; omega)]
theorem flat_set2 {α : Type} (enc : α → Nat → Value) : ∀ (xs : List α) (i : Nat) (s : α), flat 2 enc (xs.set i s) = if i < xs.length then ((flat 2 enc xs).set (i * 2) (enc s 0)).set (i * 2 + 1) (enc s 1) else flat 2 enc xs
  | [], i, s => by simp [flat]
  | x :: xs, 0, s => by simp [flat, cellsOf, List.range_succ]
  | x :: xs, i + 1, s => by
    have ih := flat_set2 enc xs i s
    rw [List.set_cons_succ, flat_cons, flat_cons, ih]
    have hc : cellsOf 2 enc x = [enc x 0, enc x 1] := rfl
    rw [hc, show (i + 1) * 2 = i * 2 + 1 + 1 by omega, show i * 2 + 1 + 1 + 1 = (i * 2 + 1) + 1 + 1 by omega]
    by_cases h : i < xs.length
    · rw [if_pos h, if_pos (by simp; omega)]
      rfl
    · rw [if_neg h, if_neg (by simp; omega)]
/-- an element of three cells is stored -/
theorem Om.stored3 {α : Type} {enc : α → Nat → Value} {w : World} {lo : Nat} {e : TypeId} {g n c : Nat} {xs : List α} (h : Om 3 enc w lo e (some ⟨g, 0, none⟩) n c xs) (i : Nat) (s : α) (hi : i < n) :
    Om 3 enc (((w.setCell ⟨g, i * 3, none⟩ (enc s 0)).setCell ⟨g, i * 3 + 1, none⟩ (enc s 1)).setCell ⟨g, i * 3 + 2, none⟩ (enc s 2)) lo e (some ⟨g, 0, none⟩) n c (xs.set i s) := by
  refine ⟨by rw [List.length_set, h.len], ?_⟩
  rw [flat_set3, if_pos (by rw [h.len]; exact hi)]
  exact (((h.own.stored (i * 3) (enc s 0)).1.stored (i * 3 + 1) (enc s 1)).1.stored (i * 3 + 2) (enc s 2)).1
/-- a block that is laid gives the world a name -/
theorem named_alloc {K : World → Prop} {W : World} {t : TypeId} {cs : Array Value} (h : ∀ Wn : World, Blk Wn W.heap.size t cs → Below W.heap.size W Wn → Wn.heap.size = W.heap.size + 1 → K Wn) : K (W.alloc (.cells cs t)) :=
  h _ (Blk.new W t cs) (below_box W _) (by simp)
theorem grown_set {W Wn : World} {g : Nat} (h : W.grownBy Wn (some g)) (k : Nat) (u : Value) : W.grownBy (Wn.setCell ⟨g, k, none⟩ u) (some g) :=
  ⟨h.os, h.tape, h.output, by simpa using h.size, fun i hi hne => (Below.heap_setCell Wn ⟨g, k, none⟩ u i (fun e => hne (by rw [e]))).trans (h.block i hi hne)⟩
theorem named_store1 {K : World → Prop} {W : World} {g : Nat} {t : TypeId} {a0 a : Value} (hb : Blk W g t #[a0]) (h : ∀ Wn : World, Blk Wn g t #[a] → W.grownBy Wn (some g) → Wn.heap.size = W.heap.size → K Wn) : K (W.setCell ⟨g, 0, none⟩ a) :=
  h _ (hb.setCell 0 a) (grown_set (World.grownBy.refl W (some g)) 0 a) (by simp)
theorem named_store2 {K : World → Prop} {W : World} {g : Nat} {t : TypeId} {a0 b0 a b : Value} (hb : Blk W g t #[a0, b0]) (h : ∀ Wn : World, Blk Wn g t #[a, b] → W.grownBy Wn (some g) → Wn.heap.size = W.heap.size → K Wn) : K ((W.setCell ⟨g, 0, none⟩ a).setCell ⟨g, 1, none⟩ b) :=
  h _ ((hb.setCell 0 a).setCell 1 b) (grown_set (grown_set (World.grownBy.refl W (some g)) 0 a) 1 b) (by simp)
theorem named_store3 {K : World → Prop} {W : World} {g : Nat} {t : TypeId} {a0 b0 c0 a b c : Value} (hb : Blk W g t #[a0, b0, c0]) (h : ∀ Wn : World, Blk Wn g t #[a, b, c] → W.grownBy Wn (some g) → Wn.heap.size = W.heap.size → K Wn) : K (((W.setCell ⟨g, 0, none⟩ a).setCell ⟨g, 1, none⟩ b).setCell ⟨g, 2, none⟩ c) :=
  h _ (((hb.setCell 0 a).setCell 1 b).setCell 2 c) (grown_set (grown_set (grown_set (World.grownBy.refl W (some g)) 0 a) 1 b) 2 c) (by simp)
theorem named_store4 {K : World → Prop} {W : World} {g : Nat} {t : TypeId} {a0 b0 c0 d0 a b c d : Value} (hb : Blk W g t #[a0, b0, c0, d0]) (h : ∀ Wn : World, Blk Wn g t #[a, b, c, d] → W.grownBy Wn (some g) → Wn.heap.size = W.heap.size → K Wn) : K ((((W.setCell ⟨g, 0, none⟩ a).setCell ⟨g, 1, none⟩ b).setCell ⟨g, 2, none⟩ c).setCell ⟨g, 3, none⟩ d) :=
  h _ ((((hb.setCell 0 a).setCell 1 b).setCell 2 c).setCell 3 d) (grown_set (grown_set (grown_set (grown_set (World.grownBy.refl W (some g)) 0 a) 1 b) 2 c) 3 d) (by simp)
theorem named_store34 {K : World → Prop} {W : World} {g : Nat} {t : TypeId} {a0 b0 c0 d a b c : Value} (hb : Blk W g t #[a0, b0, c0, d]) (h : ∀ Wn : World, Blk Wn g t #[a, b, c, d] → W.grownBy Wn (some g) → Wn.heap.size = W.heap.size → K Wn) : K (((W.setCell ⟨g, 0, none⟩ a).setCell ⟨g, 1, none⟩ b).setCell ⟨g, 2, none⟩ c) :=
  h _ (((hb.setCell 0 a).setCell 1 b).setCell 2 c) (grown_set (grown_set (grown_set (World.grownBy.refl W (some g)) 0 a) 1 b) 2 c) (by simp)
/-- an element of three cells is stored -/
theorem named_row3 {α : Type} {enc : α → Nat → Value} {K : World → Prop} {W : World} {lo : Nat} {e : TypeId} {g n c : Nat} {xs : List α} (hm : Om 3 enc W lo e (some ⟨g, 0, none⟩) n c xs) (i : Nat) (s : α) (hi : i < n)
    (h : ∀ Wn : World, Om 3 enc Wn lo e (some ⟨g, 0, none⟩) n c (xs.set i s) → W.grownBy Wn (some g) → Wn.heap.size = W.heap.size → K Wn) : K (((W.setCell ⟨g, i * 3, none⟩ (enc s 0)).setCell ⟨g, i * 3 + 1, none⟩ (enc s 1)).setCell ⟨g, i * 3 + 2, none⟩ (enc s 2)) :=
  h _ (hm.stored3 i s hi) (grown_set (grown_set (grown_set (World.grownBy.refl W (some g)) _ _) _ _) _ _) (by simp)
end Go.Proofs.Ytaeanmkbongfcaa
