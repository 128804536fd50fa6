/- General words: a row that is written behind its length and cut at its head (put = append(put, x); put = put[1:]). No condition. -/
import Derived.Test.YtkdbmlddndgjjaaKit7
import Derived.RangeFuncBox
namespace Go.Proofs.Ytkdbmlddndgjjaa
open Go.RowKit
/-- from lo on lies a row of cells that nobody else writes; the slice begins anywhere in it -/
structure Oo {α : Type} (enc : α → Value) (w : World) (lo : Nat) (A : Option Addr) (n c : Nat) (xs : List α) : Prop where
  len : xs.length = n
  le : n ≤ c
  max : c ≤ maxLen
  row : (A = none ∧ c = 0) ∨ ∃ b off, A = some ⟨b, off, none⟩ ∧ lo ≤ b ∧ b < w.heap.size ∧ (∀ k, k < n → w.cell? ⟨b, off + k, none⟩ = (xs[k]?).map enc) ∧ (∀ k, k < c → (w.cell? ⟨b, off + k, none⟩).isSome = true) ∧ ∀ i, w.frozen? ⟨b, i, none⟩ = false
section
variable {α : Type} {enc : α → Value} {d : α} {w w' : World} {lo : Nat} {A : Option Addr} {n c : Nat} {xs : List α}
theorem Oo.nil (w : World) (lo : Nat) : Oo enc w lo none 0 0 [] := ⟨rfl, Nat.le_refl _, Nat.zero_le _, .inl ⟨rfl, rfl⟩⟩
theorem Oo.kept (h : Oo enc w lo A n c xs) (hg : ∀ b, lo ≤ b → b < w.heap.size → (∃ off, A = some ⟨b, off, none⟩) → w'.heap[b]? = w.heap[b]?) (hs : w.heap.size ≤ w'.heap.size) : Oo enc w' lo A n c xs := by
  refine ⟨h.len, h.le, h.max, h.row.imp id ?_⟩
  rintro ⟨b, off, rfl, h1, h2, h3, h4, h5⟩
  have e := hg b h1 h2 ⟨off, rfl⟩
  exact ⟨b, off, rfl, h1, by omega, fun k hk => (World.cell?_of_block (a := ⟨b, off + k, none⟩) e).trans (h3 k hk), fun k hk => by rw [World.cell?_of_block (a := ⟨b, off + k, none⟩) e]; exact h4 k hk, fun i => (World.frozen?_of_block (a := ⟨b, i, none⟩) e).trans (h5 i)⟩
theorem Oo.step (h : Oo enc w lo A n c xs) (hb : Below w.heap.size w w') : Oo enc w' lo A n c xs := by
  refine ⟨h.len, h.le, h.max, h.row.imp id ?_⟩
  rintro ⟨b, off, rfl, h1, h2, h3, h4, h5⟩
  exact ⟨b, off, rfl, h1, Nat.lt_of_lt_of_le h2 hb.size, fun k hk => (hb.cell (p := ⟨b, off + k, none⟩) h2).trans (h3 k hk), fun k hk => by rw [hb.cell (p := ⟨b, off + k, none⟩) h2]; exact h4 k hk, fun i => (hb.frozen (p := ⟨b, i, none⟩) h2).trans (h5 i)⟩
theorem Oo.setCell (h : Oo enc w lo A n c xs) {p : Addr} (hp : p.block < lo) (u : Value) : Oo enc (w.setCell p u) lo A n c xs :=
  h.kept (fun b h1 _ _ => Below.heap_setCell w p u b (by omega)) (by simp)
theorem Oo.grown {row : Option Nat} (h : Oo enc w lo A n c xs) (hg : w.grownBy w' row) (hr : ∀ k, row = some k → k < lo) : Oo enc w' lo A n c xs :=
  h.kept (fun b h1 h2 _ => hg.block b h2 (fun e => by have := hr b e.symm; omega)) hg.size
theorem Oo.mono (h : Oo enc w lo A n c xs) {lo' : Nat} (hl : lo' ≤ lo) : Oo enc w lo' A n c xs :=
  ⟨h.len, h.le, h.max, h.row.imp id fun ⟨b, off, e, h1, r⟩ => ⟨b, off, e, Nat.le_trans hl h1, r⟩⟩
theorem Oo.sl (h : Oo enc w lo A n c xs) : Sl enc d w lo w.heap.size A n xs := by
  refine ⟨h.len, fun hn => ?_⟩
  rcases h.row with ⟨_, h0⟩ | ⟨b, off, e, h1, h2, h3, _⟩
  · have := h.le; omega
  · refine ⟨b, off, e, h1, h2, fun k hk => ?_⟩
    rw [h3 k hk, List.getElem?_eq_getElem (by rw [h.len]; exact hk)]
    rfl
theorem Oo.ofOw {e : TypeId} (h : Ow enc w lo e A n c xs) : Oo enc w lo A n c xs := by
  have hcap := h.cap
  rcases h.own.2 with ⟨hv, h0⟩ | ⟨g, cap, cur, hv, hb1, hg, h1, h2, h3, h4⟩
  · simp only [Value.slice.injEq] at hv
    obtain ⟨rfl, rfl, rfl⟩ := hv
    exact ⟨h.len, Nat.le_refl _, Nat.zero_le _, .inl ⟨rfl, rfl⟩⟩
  · simp only [Value.slice.injEq] at hv
    obtain ⟨rfl, _, rfl⟩ := hv
    have hlt : g < w.heap.size := (Array.getElem?_eq_some_iff.1 hg).1
    rw [Nat.mul_one] at h3 h4
    refine ⟨h.len, h1, h2, .inr ⟨g, 0, rfl, hb1, hlt, fun k hk => ?_, fun k hk => ?_, fun i => ?_⟩⟩
    · have := h.sl (d := (xs[0]'(by rw [h.len]; omega)))
      obtain ⟨b, off, e, _, _, hc⟩ := this.row (by omega)
      cases e
      rw [hc k hk, List.getElem?_eq_getElem (by rw [h.len]; exact hk)]
      rfl
    · simp [World.cell?, hg, h3, hk]
    · simp [World.frozen?, hg]
/-- the head is cut off -/
theorem Oo.drop1 (h : Oo enc w lo A n c xs) (hn : 0 < n) : Oo enc w lo (if c = 1 then A else A.map (·.add 1)) (n - 1) (c - 1) (xs.drop 1) := by
  have hle := h.le
  have hmax := h.max
  refine ⟨by rw [List.length_drop, h.len], by omega, by omega, ?_⟩
  rcases h.row with ⟨_, h0⟩ | ⟨b, off, rfl, h1, h2, h3, h4, h5⟩
  · omega
  · by_cases hc : c = 1
    · rw [if_pos hc]
      exact .inr ⟨b, off, rfl, h1, h2, fun k hk => by omega, fun k hk => by omega, h5⟩
    · rw [if_neg hc]
      refine .inr ⟨b, off + 1, rfl, h1, h2, fun k hk => ?_, fun k hk => ?_, h5⟩
      · rw [show off + 1 + k = off + (k + 1) by omega, h3 (k + 1) (by omega), List.getElem?_drop, show 1 + k = k + 1 by omega]
      · rw [show off + 1 + k = off + (k + 1) by omega]
        exact h4 (k + 1) (by omega)
/-- one more -/
theorem run_oo {P : Program} (enc : α → Value) (d : α) (w : World) (t ty : TypeId)
    (e : TypeId) (i : TypeInfo) (z : Value) (bytes : Nat) (ht : P.underlying t = some (.slice e)) (hi : P.info? e = some i) (hz : i.zero = some z)
    (hsize : i.size = 1) (hby : i.bytes = bytes) (hzs : z.cells.size = 1)
    (lo : Nat) (A0 : Option Addr) (n c0 : Nat) (xs : List α) (h0 : Oo enc w lo A0 n c0 xs)
    (lo1 hi1 : Nat) (A : Option Addr) (c : Nat) (y : α) (hr : Sl enc d w lo1 hi1 A 1 [y]) (h1 : ∀ y, (enc y).oneCell' = true)
    (h63 : n + 1 ≤ maxLen) (hbytes : (n + 1) * bytes ≤ 70368744177664) (hlo : lo ≤ w.heap.size) :
    ∃ A' c' w', (Builtin.append_ #[t, t] ty #[.slice A0 n c0, .slice A 1 c]).run P w = .ok (.slice A' (n + 1) c') w' ∧ Oo enc w' lo A' (n + 1) c' (xs ++ [y]) ∧ w.grownBy w' (Value.slice A0 n c0).ownBlock ∧ ((∃ b o1 o2, A0 = some ⟨b, o1, none⟩ ∧ A' = some ⟨b, o2, none⟩) ∨ ∃ o2, A' = some ⟨w.heap.size, o2, none⟩) := by
  by_cases hroom : n + 1 ≤ c0
  · rcases h0.row with ⟨_, hc0⟩ | ⟨b0, off0, rfl, hb0, hb0s, hc3, hc4, hc5⟩
    · omega
    · obtain ⟨b, off, rfl, _, _, hc⟩ := hr.row (by omega)
      have hs : Src P i.size t (.slice (some ⟨b, off, none⟩) 1 c) 1 [enc y] w := by
        refine Src.ofSlice w ht ⟨b, off, none⟩ 1 c [enc y] (by rw [hsize]; rfl) ?_ (fun u hu => by rw [List.mem_singleton] at hu; subst hu; exact h1 y)
        intro j u hu
        have hj : j < 1 := (List.getElem?_eq_some_iff.1 hu).1
        obtain rfl : j = 0 := by omega
        rw [Addr.add_lit, hc 0 (by omega)]
        simpa using hu
      have hrun := run_append_room_src (P := P) (w := w) t t ty e i ht hi b0 off0 n c0 (.slice (some ⟨b, off, none⟩) 1 c) 1 [enc y] hs hroom
        (fun j hj => by simp at hj; subst hj; rw [hsize, Nat.mul_one, Nat.add_zero]; exact hc4 n (by omega)) (fun j hj => hc5 _)
      rw [hsize, Nat.mul_one] at hrun
      have hset : w.setCells b0 (off0 + n) [enc y] = w.setCell ⟨b0, off0 + n, none⟩ (enc y) := by simp [World.setCells]
      rw [hset] at hrun
      refine ⟨_, _, _, hrun, ⟨by rw [List.length_append, h0.len]; rfl, hroom, h0.max, .inr ⟨b0, off0, rfl, hb0, by simpa using hb0s, fun k hk => ?_, fun k hk => ?_, fun i => by rw [World.frozen?_setCell]; exact hc5 i⟩⟩, ?_, .inl ⟨b0, off0, off0, rfl, rfl⟩⟩
      · by_cases hkn : k = n
        · subst hkn
          obtain ⟨v, hv⟩ := Option.isSome_iff_exists.1 (hc4 k (by omega))
          rw [World.cell?_setCell_same _ _ _ (by rw [hv]), List.getElem?_append_right (by rw [h0.len]; exact Nat.le_refl _), h0.len]
          simp
        · rw [World.cell?_setCell_other w _ _ _ (fun e => by simp at e <;> omega), hc3 k (by omega), List.getElem?_append_left (by rw [h0.len]; omega)]
      · by_cases hkn : k = n
        · subst hkn
          obtain ⟨v, hv⟩ := Option.isSome_iff_exists.1 (hc4 k (by omega))
          rw [World.cell?_setCell_same _ _ _ (by rw [hv])]
          rfl
        · rw [World.cell?_setCell_other w _ _ _ (fun e => by simp at e <;> omega)]
          exact hc4 k hk
      · refine ⟨rfl, rfl, rfl, by simp, fun i _ hi => Below.heap_setCell w ⟨b0, off0 + n, none⟩ _ i (fun e => hi (by rw [e]; rfl))⟩
  · have hle := h0.le
    obtain ⟨c', w', hrun, k1, k2, k3⟩ := run_appf enc d w t ty e i z bytes ht hi hz hsize hby hzs lo w.heap.size A0 n c0 xs h0.sl lo1 hi1 A 1 c [y] hr (by omega) h1 (by omega) h63 (by omega) hbytes lo hlo
    exact ⟨_, c', w', hrun, Oo.ofOw k1, ⟨k2.os, k2.tape, k2.output, k2.size, fun i hi _ => k2.block i hi⟩, .inr ⟨0, rfl⟩⟩
theorem wpList_oo {P : Program} (enc : α → Value) (d : α) (w : World) {ops : Array Oper} {rest : List Oper} {o : Oper} {a : Act} {Q : Exit → Act → World → Prop} (hgd : o.guard = none) (s x : Operand) (t : TypeId)
    (ho : o.op = .call { callee := .builtin .append, args := #[s, x], argTypes := #[t, t] })
    (e : TypeId) (i : TypeInfo) (z : Value) (bytes : Nat) (ht : P.underlying t = some (.slice e)) (hi : P.info? e = some i) (hz : i.zero = some z)
    (hsize : i.size = 1) (hby : i.bytes = bytes) (hzs : z.cells.size = 1)
    (lo : Nat) (A0 : Option Addr) (n c0 : Nat) (xs : List α) (hs : a.eval s = .slice A0 n c0) (h0 : Oo enc w lo A0 n c0 xs)
    (lo1 hi1 : Nat) (A : Option Addr) (c : Nat) (y : α) (hx : a.eval x = .slice A 1 c) (hr : Sl enc d w lo1 hi1 A 1 [y]) (h1 : ∀ y, (enc y).oneCell' = true)
    (h63 : n + 1 ≤ maxLen) (hbytes : (n + 1) * bytes ≤ 70368744177664) (hlo : lo ≤ w.heap.size)
    (h : ∀ A' c' w', Oo enc w' lo A' (n + 1) c' (xs ++ [y]) → w.grownBy w' (Value.slice A0 n c0).ownBlock → ((∃ b o1 o2, A0 = some ⟨b, o1, none⟩ ∧ A' = some ⟨b, o2, none⟩) ∨ ∃ o2, A' = some ⟨w.heap.size, o2, none⟩) →
      wpList P ops Q rest (a.put o.dst (.slice A' (n + 1) c')) w') :
    wpList P ops Q (o :: rest) a w := by
  refine wpList_plain hgd fun K hK => ?_
  obtain ⟨A', c', w', hrun, k1, k2, k3⟩ := run_oo enc d w t o.type e i z bytes ht hi hz hsize hby hzs lo A0 n c0 xs h0 lo1 hi1 A c y hr h1 h63 hbytes hlo
  unfold Oper.wp
  simp [execOp, ho, resolve, invoke, builtin, hs, hx, hrun, Result.andThen]
  exact hK _ _ (h A' c' w' k1 k2 k3)
end
end Go.Proofs.Ytkdbmlddndgjjaa
