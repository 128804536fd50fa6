/- General words, seventh part: an append onto an owned row as one step of a region that draws its order. No condition. -/
import Derived.Test.YtaeanmkbongfcaaKitM
import Derived.Deep.RegionHeld3
import Derived.Deep.AppendSrc
namespace Go.Proofs.Ytaeanmkbongfcaa
open Go.RowKit
/-- the run of an append onto an owned row -/
theorem run_app {P : Program} {α : Type} (enc : α → Value) (d : α) (w : World) (t ty : TypeId)
    (base : Nat) (e : TypeId) (i : TypeInfo) (z : Value) (bytes : Nat) (ht : P.underlying t = some (.slice e)) (hi : P.info? e = some i) (hz : i.zero = some z)
    (hsize : i.size = 1) (hby : i.bytes = bytes) (hzs : z.cells.size = 1)
    (A0 : Option Addr) (n c0 : Nat) (xs : List α) (hown : Ow enc w base e A0 n c0 xs)
    (lo hi' : Nat) (A : Option Addr) (m c : Nat) (ys : List α) (hr : Sl enc d w lo hi' A m ys) (h1 : ∀ y, (enc y).oneCell' = true)
    (h63 : n + m ≤ maxLen) (hbytes : (n + m) * bytes ≤ 140737488355328) (hbase : base ≤ w.heap.size) :
    ∃ A' c' w', (Builtin.append_ #[t, t] ty #[.slice A0 n c0, .slice A m c]).run P w = .ok (.slice A' (n + m) c') w' ∧ Ow enc w' base e A' (n + m) c' (xs ++ ys) ∧ w.grownBy w' (Value.slice A0 n c0).ownBlock ∧ ((Value.slice A' (n + m) c').ownBlock = (Value.slice A0 n c0).ownBlock ∨ (Value.slice A' (n + m) c').ownBlock = some w.heap.size) := by
  have hform : ∀ (v' : Value) (w' : World), w'.ownsRow base e 1 v' (n + m) ((xs ++ ys).map enc) → ∃ (A' : Option Addr) (c' : Nat), v' = Value.slice A' (n + m) c' := by
    intro v' w' ho
    rcases ho.2 with ⟨rfl, h0⟩ | ⟨g, cap, cur, rfl, _⟩
    · rw [h0]; exact ⟨_, _, rfl⟩
    · exact ⟨_, _, rfl⟩
  rcases A with _ | ad
  · obtain ⟨rfl, rfl⟩ := hr.none_
    refine ⟨A0, c0, w, ?_, by simpa using hown, World.grownBy.refl w _, .inl rfl⟩
    rcases hown.own.2 with ⟨hv, h0⟩ | ⟨g, cap, cur, hv, _, _, hnc, _⟩
    · simp only [Value.slice.injEq] at hv
      obtain ⟨rfl, rfl, rfl⟩ := hv
      simp [Builtin.append_, run_underlying ht, sizeOf, typeInfo, hi, Builtin.lenOf, Builtin.firstCells]
    · simp only [Value.slice.injEq] at hv
      obtain ⟨rfl, _, rfl⟩ := hv
      simp [Builtin.append_, run_underlying ht, sizeOf, typeInfo, hi, Builtin.lenOf, Builtin.firstCells, hnc, storeCells]
  · have hnews : ∀ j u, (ys.map enc)[j]? = some u → w.cell? (ad.add j) = some u := by
      intro j u hu
      have hj : j < m := by have := (List.getElem?_eq_some_iff.1 hu).1; rw [List.length_map, hr.len] at this; exact this
      obtain ⟨b, off, he, _, _, hc⟩ := hr.row (by omega)
      obtain rfl := Option.some.inj he
      rw [Addr.add_lit, hc j hj, ← hu, List.getElem?_map, List.getElem?_eq_getElem (by rw [hr.len]; exact hj)]
      rfl
    obtain ⟨v', w', hrun, h2, h3, _, h5⟩ := run_append_own_at (P := P) w base t ty e i z 1 bytes ht hi hz hsize hby hzs (by omega) (.slice A0 n c0) n (xs.map enc) hown.own ad m c (ys.map enc) (by rw [List.length_map, hr.len, Nat.mul_one]) hnews
      (fun u hu => by obtain ⟨y, _, rfl⟩ := List.mem_map.1 hu; exact h1 y) h63 hbytes hbase
    rw [← List.map_append] at h2
    obtain ⟨A', c', rfl⟩ := hform v' w' h2
    exact ⟨A', c', w', hrun, ⟨by rw [List.length_append, hown.len, hr.len], h2⟩, h3, h5⟩
/-- as one step of a region that draws: go_region_held3's arms take it -/
theorem step_app {P : Program} {α : Type} (enc : α → Value) (d : α) (w : World) {ops : Array Oper} {o : Oper} {a : Act} {K : Act → World → Prop} {Q : Exit → Act → World → Prop} {E : Prop} (hg : o.guard = none) (s x : Operand) (t : TypeId)
    (hop : o.op = .call { callee := .builtin .append, args := #[s, x], argTypes := #[t, t] })
    (base : Nat) (e : TypeId) (i : TypeInfo) (z : Value) (bytes : Nat) (ht : P.underlying t = some (.slice e)) (hi : P.info? e = some i) (hz : i.zero = some z)
    (hsize : i.size = 1) (hby : i.bytes = bytes) (hzs : z.cells.size = 1)
    (A0 : Option Addr) (n c0 : Nat) (xs : List α) (hs : a.eval s = .slice A0 n c0) (hown : Ow enc w base e A0 n c0 xs)
    (lo hi' : Nat) (A : Option Addr) (m c : Nat) (ys : List α) (hx : a.eval x = .slice A m c) (hr : Sl enc d w lo hi' A m ys) (h1 : ∀ y, (enc y).oneCell' = true)
    (h63 : n + m ≤ maxLen) (hbytes : (n + m) * bytes ≤ 140737488355328) (hbase : base ≤ w.heap.size)
    (hK : ∀ A' c' w', Ow enc w' base e A' (n + m) c' (xs ++ ys) → w.grownBy w' (Value.slice A0 n c0).ownBlock → ((Value.slice A' (n + m) c').ownBlock = (Value.slice A0 n c0).ownBlock ∨ (Value.slice A' (n + m) c').ownBlock = some w.heap.size) →
      K (a.put o.dst (.slice A' (n + m) c')) w') :
    if Region.wanted o (yielded ops a.tmps) = true then Oper.wp P o a w K Q else E := by
  have hw : Region.wanted o (yielded ops a.tmps) = true := by simp [Region.wanted, hg]
  rw [if_pos hw]
  obtain ⟨A', c', w', hrun, k1, k2, k3⟩ := run_app enc d w t o.type base e i z bytes ht hi hz hsize hby hzs A0 n c0 xs hown lo hi' A m c ys hr h1 h63 hbytes hbase
  unfold Oper.wp
  simp [execOp, hop, resolve, invoke, builtin, hs, hx, hrun, Result.andThen]
  exact hK A' c' w' k1 k2 k3

/-- an append onto a row that has no room: a new row, whoever owns the old one -/
theorem run_appf {P : Program} {α : Type} (enc : α → Value) (d : α) (w : World) (t ty : TypeId)
    (e : TypeId) (i : TypeInfo) (z : Value) (bytes : Nat) (ht : P.underlying t = some (.slice e)) (hi : P.info? e = some i) (hz : i.zero = some z)
    (hsize : i.size = 1) (hby : i.bytes = bytes) (hzs : z.cells.size = 1)
    (lo0 hi0 : Nat) (A0 : Option Addr) (n c0 : Nat) (xs : List α) (h0 : Sl enc d w lo0 hi0 A0 n xs)
    (lo1 hi1 : Nat) (A : Option Addr) (m c : Nat) (ys : List α) (hr : Sl enc d w lo1 hi1 A m ys) (hm : 0 < m) (h1 : ∀ y, (enc y).oneCell' = true)
    (hfull : c0 < n + m) (h63 : n + m ≤ maxLen) (hcap : c0 ≤ n + m) (hbytes : (n + m) * bytes ≤ 70368744177664) (lo : Nat) (hlo : lo ≤ w.heap.size) :
    ∃ c' w', (Builtin.append_ #[t, t] ty #[.slice A0 n c0, .slice A m c]).run P w = .ok (.slice (some ⟨w.heap.size, 0, none⟩) (n + m) c') w' ∧ Ow enc w' lo e (some ⟨w.heap.size, 0, none⟩) (n + m) c' (xs ++ ys) ∧ Below w.heap.size w w' ∧ w'.heap.size = w.heap.size + 1 := by
  have hsize' : i.size = 1 := hsize
  subst hby
  obtain ⟨b, off, rfl, _, _, hc⟩ := hr.row hm
  have hold : (Builtin.firstCells i.size n (.slice A0 n c0)).run P w.drew = .ok (xs.map enc).toArray w.drew := by
    rcases Nat.eq_zero_or_pos n with hn | hn
    · subst hn
      have hx : xs = [] := List.eq_nil_of_length_eq_zero h0.len
      subst hx
      cases A0 <;> simp [Builtin.firstCells, loadCells, loadCellsFrom]
    · obtain ⟨b0, off0, rfl, _, _, hc0⟩ := h0.row hn
      refine run_firstCells_some w.drew i.size n _ n c0 (xs.map enc) (by rw [List.length_map, h0.len, hsize', Nat.mul_one]) ?_
      intro j u hu
      have hj : j < n := by have := (List.getElem?_eq_some_iff.1 hu).1; rw [List.length_map, h0.len] at this; exact this
      rw [Addr.add_lit]
      show w.cell? _ = _
      rw [hc0 j hj, ← hu, List.getElem?_map, List.getElem?_eq_getElem (by rw [h0.len]; exact hj)]
      rfl
  have hs : Src P i.size t (.slice (some ⟨b, off, none⟩) m c) m (ys.map enc) w := by
    refine Src.ofSlice w ht ⟨b, off, none⟩ m c (ys.map enc) (by rw [List.length_map, hr.len, hsize', Nat.mul_one]) ?_ (fun u hu => by obtain ⟨y, _, rfl⟩ := List.mem_map.1 hu; exact h1 y)
    intro j u hu
    have hj : j < m := by have := (List.getElem?_eq_some_iff.1 hu).1; rw [List.length_map, hr.len] at this; exact this
    rw [Addr.add_lit, hc j hj, ← hu, List.getElem?_map, List.getElem?_eq_getElem (by rw [hr.len]; exact hj)]
    rfl
  have hnc : Builtin.nextslicecap (n + m) c0 ≤ 2 * (n + m) := by
    unfold Builtin.nextslicecap
    split
    · omega
    split
    · omega
    · have : ∀ r k, k ≤ 2 * (n + m) → (k < n + m → k + (k + 768) / 4 ≤ 2 * (n + m)) → 256 ≤ k → Builtin.growBy (n + m) r k ≤ 2 * (n + m) := by
        intro r
        induction r with
        | zero => intro k h _ _; exact h
        | succ r ih =>
          intro k h h' h256
          unfold Builtin.growBy
          split
          · exact h
          · exact ih _ (h' (by omega)) (by omega) (by omega)
      exact this 4 c0 (by omega) (by omega) (by omega)
  have hrun := run_append_grow_src (P := P) (w := w) t t ty e i z ht hi hz A0 n c0 (xs.map enc) hold (.slice (some ⟨b, off, none⟩) m c) m (ys.map enc) hs hfull (by have := h63; simp only [maxLen] at this; omega)
    (Nat.le_trans (Nat.mul_le_mul_right _ hnc) (by rw [Nat.mul_assoc]; omega))
  have hge := grownCap_ge w (n + m) c0 e
  have hcm : grownCap w (n + m) c0 e ≤ maxLen := grownCap_le_maxLen w (n + m) c0 e h63
  have hlen : (xs.map enc ++ ys.map enc).length = n + m := by simp [h0.len, hr.len]
  refine ⟨_, _, hrun, ⟨by rw [List.length_append, h0.len, hr.len], ?_⟩, ?_, by simp⟩
  · refine ⟨by rw [List.length_map, List.length_append, h0.len, hr.len, Nat.mul_one], .inr ⟨w.heap.size, _, _, rfl, hlo, heap_alloc_new w.drew _, hge, hcm, ?_, ?_⟩⟩
    · simp only [Array.size_append, List.size_toArray, size_zeroCells, hzs, hlen]
      omega
    · simp only [Array.toList_append, List.map_append, Nat.mul_one]
      rw [← hlen]
      exact List.take_left
  · exact ((Below.refl _ w).drew).alloc (by simp) _
theorem step_appf {P : Program} {α : Type} (enc : α → Value) (d : α) (w : World) {ops : Array Oper} {o : Oper} {a : Act} {K : Act → World → Prop} {Q : Exit → Act → World → Prop} {E : Prop} (hg : o.guard = none) (s x : Operand) (t : TypeId)
    (hop : o.op = .call { callee := .builtin .append, args := #[s, x], argTypes := #[t, t] })
    (e : TypeId) (i : TypeInfo) (z : Value) (bytes : Nat) (ht : P.underlying t = some (.slice e)) (hi : P.info? e = some i) (hz : i.zero = some z)
    (hsize : i.size = 1) (hby : i.bytes = bytes) (hzs : z.cells.size = 1)
    (lo0 hi0 : Nat) (A0 : Option Addr) (n c0 : Nat) (xs : List α) (hs : a.eval s = .slice A0 n c0) (h0 : Sl enc d w lo0 hi0 A0 n xs)
    (lo1 hi1 : Nat) (A : Option Addr) (m c : Nat) (ys : List α) (hx : a.eval x = .slice A m c) (hr : Sl enc d w lo1 hi1 A m ys) (hm : 0 < m) (h1 : ∀ y, (enc y).oneCell' = true)
    (hfull : c0 < n + m) (h63 : n + m ≤ maxLen) (hcap : c0 ≤ n + m) (hbytes : (n + m) * bytes ≤ 70368744177664) (lo : Nat) (hlo : lo ≤ w.heap.size)
    (hK : ∀ c' w', Ow enc w' lo e (some ⟨w.heap.size, 0, none⟩) (n + m) c' (xs ++ ys) → Below w.heap.size w w' → w'.heap.size = w.heap.size + 1 → K (a.put o.dst (.slice (some ⟨w.heap.size, 0, none⟩) (n + m) c')) w') :
    if Region.wanted o (yielded ops a.tmps) = true then Oper.wp P o a w K Q else E := by
  have hw : Region.wanted o (yielded ops a.tmps) = true := by simp [Region.wanted, hg]
  rw [if_pos hw]
  obtain ⟨c', w', hrun, k1, k2, k3⟩ := run_appf enc d w t o.type e i z bytes ht hi hz hsize hby hzs lo0 hi0 A0 n c0 xs h0 lo1 hi1 A m c ys hr hm h1 hfull h63 hcap hbytes lo hlo
  unfold Oper.wp
  simp [execOp, hop, resolve, invoke, builtin, hs, hx, hrun, Result.andThen]
  exact hK c' w' k1 k2 k3
end Go.Proofs.Ytaeanmkbongfcaa
