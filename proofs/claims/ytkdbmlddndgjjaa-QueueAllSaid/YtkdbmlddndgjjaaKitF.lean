/- General words: an append onto a full row of structures. No condition. -/
import Derived.Test.YtkdbmlddndgjjaaKitC
namespace Go.Proofs.Ytkdbmlddndgjjaa
open Go.RowKit
/-- an append onto a row that has no room: a new row, whoever owns the old one -/
theorem run_appmf {P : Program} {α : Type} (sz : Nat) (enc : α → Nat → Value) (d : α) (w : World) (t ty : TypeId)
    (e : TypeId) (i : TypeInfo) (z : Value) (bytes : Nat) (ht : P.underlying t = some (.slice e)) (hi : P.info? e = some i) (hz : i.zero = some z)
    (hsize : i.size = sz) (hby : i.bytes = bytes) (hzs : z.cells.size = sz) (hsz : 0 < sz)
    (lo0 hi0 : Nat) (A0 : Option Addr) (n c0 : Nat) (xs : List α) (h0 : Sm sz enc d w lo0 hi0 A0 n xs)
    (lo1 hi1 : Nat) (A : Option Addr) (m c : Nat) (ys : List α) (hr : Sm sz enc d w lo1 hi1 A m ys) (hm : 0 < m) (h1 : ∀ y j, j < sz → (enc y j).oneCell' = true)
    (hfull : c0 < n + m) (h63 : n + m ≤ maxLen) (hcap : c0 ≤ n + m) (hbytes : (n + m) * bytes ≤ 70368744177664) (lo : Nat) (hlo : lo ≤ w.heap.size) :
    ∃ c' w', (Builtin.append_ #[t, t] ty #[.slice A0 n c0, .slice A m c]).run P w = .ok (.slice (some ⟨w.heap.size, 0, none⟩) (n + m) c') w' ∧ Om sz enc w' lo e (some ⟨w.heap.size, 0, none⟩) (n + m) c' (xs ++ ys) ∧ Below w.heap.size w w' ∧ w'.heap.size = w.heap.size + 1 := by
  subst hby
  subst hsize
  obtain ⟨b, off, rfl, _, _, hc⟩ := hr.row hm
  have cells : ∀ {lo hi : Nat} {b off k : Nat} {zs : List α}, zs.length = k → (∀ q, q < k → ∀ j, j < i.size → w.cell? ⟨b, off + q * i.size + j, none⟩ = some (enc (zs[q]?.getD d) j)) → ∀ j u, (flat i.size enc zs)[j]? = some u → w.cell? ((⟨b, off, none⟩ : Addr).add j) = some u := by
    intro _ _ b off k zs hlen hcc j u hu
    have hj : j < k * i.size := by have := (List.getElem?_eq_some_iff.1 hu).1; rwa [flat_length, hlen] at this
    obtain ⟨q, r, hq, hr2, rfl⟩ := flat_idx hj
    rw [flat_get d zs q r (by rw [hlen]; exact hq) hr2] at hu
    rw [Addr.add_lit, ← hu, ← hcc q hq r hr2, Nat.add_assoc]
  have ones : ∀ (zs : List α), ∀ u ∈ flat i.size enc zs, u.oneCell' = true := by
    intro zs u hu
    obtain ⟨x, _, hx⟩ := List.mem_flatMap.1 hu
    obtain ⟨j, hj, rfl⟩ := List.mem_map.1 hx
    exact h1 _ _ (List.mem_range.1 hj)
  have hold : (Builtin.firstCells i.size n (.slice A0 n c0)).run P w.drew = .ok (flat i.size enc xs).toArray w.drew := by
    rcases Nat.eq_zero_or_pos n with hn | hn
    · subst hn
      have hx : xs = [] := List.eq_nil_of_length_eq_zero h0.len
      subst hx
      cases A0 <;> simp [Builtin.firstCells, loadCells, loadCellsFrom, flat]
    · obtain ⟨b0, off0, rfl, _, _, hc0⟩ := h0.row hn
      exact run_firstCells_some w.drew i.size n _ n c0 (flat i.size enc xs) (by rw [flat_length, h0.len]) (cells (lo := 0) (hi := 0) h0.len hc0)
  have hs : Src P i.size t (.slice (some ⟨b, off, none⟩) m c) m (flat i.size enc ys) w :=
    Src.ofSlice w ht ⟨b, off, none⟩ m c (flat i.size enc ys) (by rw [flat_length, hr.len]) (cells (lo := 0) (hi := 0) hr.len hc) (ones ys)
  have hnc : Builtin.nextslicecap (n + m) c0 ≤ 2 * (n + m) := by
    unfold Builtin.nextslicecap
    split
    · omega
    split
    · omega
    · have : ∀ r k, k ≤ 2 * (n + m) → (k < n + m → k + (k + 768) / 4 ≤ 2 * (n + m)) → 256 ≤ k → Builtin.growBy (n + m) r k ≤ 2 * (n + m) := by
        intro r
        induction r with
        | zero => intro k h _ _; exact h
        | succ r ih =>
          intro k h h' h256
          unfold Builtin.growBy
          split
          · exact h
          · exact ih _ (h' (by omega)) (by omega) (by omega)
      exact this 4 c0 (by omega) (by omega) (by omega)
  have hrun := run_append_grow_src (P := P) (w := w) t t ty e i z ht hi hz A0 n c0 (flat i.size enc xs) hold (.slice (some ⟨b, off, none⟩) m c) m (flat i.size enc ys) hs hfull (by have := h63; simp only [maxLen] at this; omega)
    (Nat.le_trans (Nat.mul_le_mul_right _ hnc) (by rw [Nat.mul_assoc]; omega))
  have hge := grownCap_ge w (n + m) c0 e
  have hcm : grownCap w (n + m) c0 e ≤ maxLen := grownCap_le_maxLen w (n + m) c0 e h63
  have hlen : (flat i.size enc xs ++ flat i.size enc ys).length = (n + m) * i.size := by rw [List.length_append, flat_length, flat_length, h0.len, hr.len, Nat.add_mul]
  refine ⟨_, _, hrun, ⟨by rw [List.length_append, h0.len, hr.len], ?_⟩, ?_, by simp⟩
  · refine ⟨by rw [flat_length, List.length_append, h0.len, hr.len], .inr ⟨w.heap.size, _, _, rfl, hlo, heap_alloc_new w.drew _, hge, hcm, ?_, ?_⟩⟩
    · simp only [Array.size_append, List.size_toArray, size_zeroCells, hzs, hlen]
      rw [← Nat.add_mul]
      congr 1
      omega
    · rw [flat_append]
      simp only [Array.toList_append]
      rw [← hlen]
      exact List.take_left
  · exact ((Below.refl _ w).drew).alloc (by simp) _
theorem step_appmf {P : Program} {α : Type} (sz : Nat) (enc : α → Nat → Value) (d : α) (w : World) {ops : Array Oper} {o : Oper} {a : Act} {K : Act → World → Prop} {Q : Exit → Act → World → Prop} {E : Prop} (hg : o.guard = none) (s x : Operand) (t : TypeId)
    (hop : o.op = .call { callee := .builtin .append, args := #[s, x], argTypes := #[t, t] })
    (e : TypeId) (i : TypeInfo) (z : Value) (bytes : Nat) (ht : P.underlying t = some (.slice e)) (hi : P.info? e = some i) (hz : i.zero = some z)
    (hsize : i.size = sz) (hby : i.bytes = bytes) (hzs : z.cells.size = sz) (hsz : 0 < sz)
    (lo0 hi0 : Nat) (A0 : Option Addr) (n c0 : Nat) (xs : List α) (hs : a.eval s = .slice A0 n c0) (h0 : Sm sz enc d w lo0 hi0 A0 n xs)
    (lo1 hi1 : Nat) (A : Option Addr) (m c : Nat) (ys : List α) (hx : a.eval x = .slice A m c) (hr : Sm sz enc d w lo1 hi1 A m ys) (hm : 0 < m) (h1 : ∀ y j, j < sz → (enc y j).oneCell' = true)
    (hfull : c0 < n + m) (h63 : n + m ≤ maxLen) (hcap : c0 ≤ n + m) (hbytes : (n + m) * bytes ≤ 70368744177664) (lo : Nat) (hlo : lo ≤ w.heap.size)
    (hK : ∀ c' w', Om sz enc w' lo e (some ⟨w.heap.size, 0, none⟩) (n + m) c' (xs ++ ys) → Below w.heap.size w w' → w'.heap.size = w.heap.size + 1 → K (a.put o.dst (.slice (some ⟨w.heap.size, 0, none⟩) (n + m) c')) w') :
    if Region.wanted o (yielded ops a.tmps) = true then Oper.wp P o a w K Q else E := by
  have hw : Region.wanted o (yielded ops a.tmps) = true := by simp [Region.wanted, hg]
  rw [if_pos hw]
  obtain ⟨c', w', hrun, k1, k2, k3⟩ := run_appmf sz enc d w t o.type e i z bytes ht hi hz hsize hby hzs hsz lo0 hi0 A0 n c0 xs h0 lo1 hi1 A m c ys hr hm h1 hfull h63 hcap hbytes lo hlo
  unfold Oper.wp
  simp [execOp, hop, resolve, invoke, builtin, hs, hx, hrun, Result.andThen]
  exact hK c' w' k1 k2 k3

theorem Sm.setC {α : Type} {sz : Nat} {enc : α → Nat → Value} {d : α} {W : World} {A : Option Addr} {n lo hi : Nat} {xs : List α} (h : Sm sz enc d W lo hi A n xs) {p : Addr} (hp : p.block < lo ∨ hi ≤ p.block) (u : Value) : Sm sz enc d (W.setCell p u) lo hi A n xs :=
  h.keep fun b i h1 h2 => World.cell?_setCell_other W p ⟨b, i, none⟩ u (fun e => by subst e; simp at hp; omega)
end Go.Proofs.Ytkdbmlddndgjjaa
