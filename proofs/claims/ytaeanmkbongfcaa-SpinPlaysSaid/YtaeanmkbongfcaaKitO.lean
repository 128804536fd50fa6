/- General words: rows of structures that are owned; appends onto them. No condition. -/
import Derived.Test.YtaeanmkbongfcaaKit5
import Derived.Test.YtaeanmkbongfcaaKit7
import Derived.Laws.OwnMore
namespace Go.Proofs.Ytaeanmkbongfcaa
open Go.RowKit
def cellsOf {α : Type} (sz : Nat) (enc : α → Nat → Value) (x : α) : List Value := (List.range sz).map (enc x)
def flat {α : Type} (sz : Nat) (enc : α → Nat → Value) (xs : List α) : List Value := xs.flatMap (cellsOf sz enc)
theorem cellsOf_length {α : Type} (sz : Nat) (enc : α → Nat → Value) (x : α) : (cellsOf sz enc x).length = sz := by simp [cellsOf]
theorem flat_append {α : Type} (sz : Nat) (enc : α → Nat → Value) (xs ys : List α) : flat sz enc (xs ++ ys) = flat sz enc xs ++ flat sz enc ys := by simp [flat]
theorem flat_cons {α : Type} (sz : Nat) (enc : α → Nat → Value) (x : α) (xs : List α) : flat sz enc (x :: xs) = cellsOf sz enc x ++ flat sz enc xs := rfl
theorem flat_length {α : Type} (sz : Nat) (enc : α → Nat → Value) (xs : List α) : (flat sz enc xs).length = xs.length * sz := by
  induction xs with
  | nil => simp [flat]
  | cons x xs ih => rw [flat_cons, List.length_append, ih, cellsOf_length, List.length_cons, Nat.succ_mul, Nat.add_comm]
theorem flat_get {α : Type} {sz : Nat} {enc : α → Nat → Value} (d : α) : ∀ (xs : List α) (k j : Nat), k < xs.length → j < sz → (flat sz enc xs)[k * sz + j]? = some (enc (xs[k]?.getD d) j)
  | [], _, _, hk, _ => by simp at hk
  | x :: xs, 0, j, _, hj => by
    rw [flat_cons, List.getElem?_append_left (by rw [cellsOf_length]; omega)]
    simp [cellsOf, hj]
  | x :: xs, k + 1, j, hk, hj => by
    have e : (k + 1) * sz + j = sz + (k * sz + j) := by rw [Nat.succ_mul]; omega
    rw [flat_cons, e, List.getElem?_append_right (by rw [cellsOf_length]; omega), cellsOf_length, Nat.add_sub_cancel_left, flat_get d xs k j (by simpa using hk) hj]
    rfl
theorem flat_idx {sz n j : Nat} (hj : j < n * sz) : ∃ k i, k < n ∧ i < sz ∧ j = k * sz + i := by
  have hsz : 0 < sz := by
    rcases Nat.eq_zero_or_pos sz with h | h
    · subst h; simp at hj
    · exact h
  refine ⟨j / sz, j % sz, Nat.div_lt_of_lt_mul (by rwa [Nat.mul_comm]), Nat.mod_lt _ hsz, ?_⟩
  have := Nat.div_add_mod j sz
  rw [Nat.mul_comm] at this
  omega
/-- a row of structures that is owned -/
structure Om {α : Type} (sz : Nat) (enc : α → Nat → Value) (w : World) (lo : Nat) (e : TypeId) (A : Option Addr) (n c : Nat) (xs : List α) : Prop where
  len : xs.length = n
  own : w.ownsRow lo e sz (.slice A n c) n (flat sz enc xs)
section
variable {α : Type} {sz : Nat} {enc : α → Nat → Value} {d : α} {w w' : World} {lo lo' B : Nat} {e : TypeId} {A : Option Addr} {n c : Nat} {xs : List α}
theorem Om.cap (h : Om sz enc w lo e A n c xs) : n ≤ c ∧ c ≤ maxLen := by
  rcases h.own.2 with ⟨hv, h0⟩ | ⟨g, cap, cur, hv, _, _, h1, h2, _⟩
  · simp only [Value.slice.injEq] at hv; obtain ⟨_, rfl, rfl⟩ := hv; exact ⟨Nat.le_refl _, by simp [maxLen]⟩
  · simp only [Value.slice.injEq] at hv; obtain ⟨_, _, rfl⟩ := hv; exact ⟨h1, h2⟩
theorem Om.sm (h : Om sz enc w lo e A n c xs) : Sm sz enc d w lo w.heap.size A n xs := by
  refine ⟨h.len, fun hn => ?_⟩
  obtain ⟨g, cap, hv, hlo, hhi⟩ := h.own.form hn
  simp only [Value.slice.injEq] at hv
  obtain ⟨rfl, _, rfl⟩ := hv
  refine ⟨g, 0, rfl, hlo, hhi, fun k hk j hj => ?_⟩
  have hkj : k * sz + j < n * sz := by
    have : (k + 1) * sz ≤ n * sz := Nat.mul_le_mul_right _ hk
    rw [Nat.succ_mul] at this; omega
  rw [Nat.zero_add, h.own.cellAt _ hkj, flat_get d xs k j (by rw [h.len]; exact hk) hj]
theorem Om.nil (w : World) (lo : Nat) (e : TypeId) : Om sz enc w lo e none 0 0 [] := ⟨rfl, World.ownsRow_nil w lo e sz⟩
theorem Om.below (h : Om sz enc w lo e A n c xs) (hb : Below w.heap.size w w') : Om sz enc w' lo e A n c xs := by
  refine ⟨h.len, h.own.1, ?_⟩
  rcases h.own.2 with hh | ⟨g, cap, cur, hv, hb1, hg, r⟩
  · exact .inl hh
  · exact .inr ⟨g, cap, cur, hv, hb1, (hb.block g (Array.getElem?_eq_some_iff.1 hg).1).trans hg, r⟩
theorem Om.step (h : Om sz enc w lo e A n c xs) (hb : Below w.heap.size w w') : Om sz enc w' lo e A n c xs := h.below hb
theorem Om.mono (h : Om sz enc w lo e A n c xs) (h1 : lo' ≤ lo) : Om sz enc w lo' e A n c xs := by
  refine ⟨h.len, h.own.1, ?_⟩
  rcases h.own.2 with hh | ⟨g, cap, cur, hv, hb1, r⟩
  · exact .inl hh
  · exact .inr ⟨g, cap, cur, hv, by omega, r⟩
theorem Om.alloc (h : Om sz enc w lo e A n c xs) (o : Obj) : Om sz enc (w.alloc o) lo e A n c xs := ⟨h.len, h.own.alloc o⟩
theorem Om.drewN (h : Om sz enc w lo e A n c xs) (k : Nat) : Om sz enc (w.drewN k) lo e A n c xs := ⟨h.len, h.own⟩
theorem Om.drew (h : Om sz enc w lo e A n c xs) : Om sz enc w.drew lo e A n c xs := ⟨h.len, h.own⟩
theorem Om.setCell (h : Om sz enc w lo e A n c xs) {p : Addr} (hp : p.block < lo) (u : Value) : Om sz enc (w.setCell p u) lo e A n c xs := ⟨h.len, ownsRow_setCell_below h.own hp u⟩
theorem Om.row_ge (h : Om sz enc w lo e A n c xs) : ∀ k, (Value.slice A n c).ownBlock = some k → lo ≤ k := fun k hk => (h.own.lt k hk).1
theorem Om.ne_row (h : Om sz enc w lo e A n c xs) {g : Nat} (hg : g < lo) : some g ≠ (Value.slice A n c).ownBlock := fun he => by
  have := h.row_ge g he.symm; omega
end
/-- the run of an append onto an owned row of structures -/
theorem run_appm {P : Program} {α : Type} (sz : Nat) (enc : α → Nat → Value) (d : α) (w : World) (t ty : TypeId)
    (base : Nat) (e : TypeId) (i : TypeInfo) (z : Value) (bytes : Nat) (ht : P.underlying t = some (.slice e)) (hi : P.info? e = some i) (hz : i.zero = some z)
    (hsize : i.size = sz) (hby : i.bytes = bytes) (hzs : z.cells.size = sz) (hsz : 0 < sz)
    (A0 : Option Addr) (n c0 : Nat) (xs : List α) (hown : Om sz enc w base e A0 n c0 xs)
    (lo hi' : Nat) (A : Option Addr) (m c : Nat) (ys : List α) (hr : Sm sz enc d w lo hi' A m ys) (h1 : ∀ y j, j < sz → (enc y j).oneCell' = true)
    (h63 : n + m ≤ maxLen) (hbytes : (n + m) * bytes ≤ 140737488355328) (hbase : base ≤ w.heap.size) :
    ∃ A' c' w', (Builtin.append_ #[t, t] ty #[.slice A0 n c0, .slice A m c]).run P w = .ok (.slice A' (n + m) c') w' ∧ Om sz enc w' base e A' (n + m) c' (xs ++ ys) ∧ w.grownBy w' (Value.slice A0 n c0).ownBlock ∧ ((Value.slice A' (n + m) c').ownBlock = (Value.slice A0 n c0).ownBlock ∨ (Value.slice A' (n + m) c').ownBlock = some w.heap.size) := by
  have hform : ∀ (v' : Value) (w' : World), w'.ownsRow base e sz v' (n + m) (flat sz enc (xs ++ ys)) → ∃ (A' : Option Addr) (c' : Nat), v' = Value.slice A' (n + m) c' := by
    intro v' w' ho
    rcases ho.2 with ⟨rfl, h0⟩ | ⟨g, cap, cur, rfl, _⟩
    · rw [h0]; exact ⟨_, _, rfl⟩
    · exact ⟨_, _, rfl⟩
  by_cases hm : m = 0
  · subst hm
    obtain rfl : ys = [] := List.eq_nil_of_length_eq_zero hr.len
    refine ⟨A0, c0, w, ?_, by simpa using hown, World.grownBy.refl w _, .inl rfl⟩
    rcases hown.own.2 with ⟨hv, h0⟩ | ⟨g, cap, cur, hv, _, _, hnc, _⟩
    · simp only [Value.slice.injEq] at hv
      obtain ⟨rfl, rfl, rfl⟩ := hv
      cases A <;> simp [Builtin.append_, run_underlying ht, sizeOf, typeInfo, hi, Builtin.lenOf, Builtin.firstCells, loadCells, loadCellsFrom]
    · simp only [Value.slice.injEq] at hv
      obtain ⟨rfl, _, rfl⟩ := hv
      cases A <;> simp [Builtin.append_, run_underlying ht, sizeOf, typeInfo, hi, Builtin.lenOf, Builtin.firstCells, hnc, storeCells, loadCells, loadCellsFrom]
  · obtain ⟨b, off, rfl, _, _, hc⟩ := hr.row (by omega)
    have hnews : ∀ j u, (flat sz enc ys)[j]? = some u → w.cell? ((⟨b, off, none⟩ : Addr).add j) = some u := by
      intro j u hu
      have hj : j < m * sz := by have := (List.getElem?_eq_some_iff.1 hu).1; rwa [flat_length, hr.len] at this
      obtain ⟨k, i, hk, hi2, rfl⟩ := flat_idx hj
      rw [flat_get d ys k i (by rw [hr.len]; exact hk) hi2] at hu
      rw [Addr.add_lit, ← hu, ← hc k hk i hi2, Nat.add_assoc]
    obtain ⟨v', w', hrun, h2, h3, _, h5⟩ := run_append_own_at (P := P) w base t ty e i z sz bytes ht hi hz hsize hby hzs hsz (.slice A0 n c0) n (flat sz enc xs) hown.own ⟨b, off, none⟩ m c (flat sz enc ys) (by rw [flat_length, hr.len]) hnews
      (fun u hu => by
        obtain ⟨j, hj, rfl⟩ := List.getElem_of_mem hu
        have hj' : j < m * sz := by rwa [flat_length, hr.len] at hj
        obtain ⟨k, i, hk, hi2, rfl⟩ := flat_idx hj'
        have := flat_get (enc := enc) d ys k i (by rw [hr.len]; exact hk) hi2
        rw [List.getElem?_eq_getElem hj] at this
        rw [Option.some.inj this]
        exact h1 _ _ hi2) h63 hbytes hbase
    rw [← flat_append] at h2
    obtain ⟨A', c', rfl⟩ := hform v' w' h2
    exact ⟨A', c', w', hrun, ⟨by rw [List.length_append, hown.len, hr.len], h2⟩, h3, h5⟩
theorem step_appm {P : Program} {α : Type} (sz : Nat) (enc : α → Nat → Value) (d : α) (w : World) {ops : Array Oper} {o : Oper} {a : Act} {K : Act → World → Prop} {Q : Exit → Act → World → Prop} {E : Prop} (hg : o.guard = none) (s x : Operand) (t : TypeId)
    (hop : o.op = .call { callee := .builtin .append, args := #[s, x], argTypes := #[t, t] })
    (base : Nat) (e : TypeId) (i : TypeInfo) (z : Value) (bytes : Nat) (ht : P.underlying t = some (.slice e)) (hi : P.info? e = some i) (hz : i.zero = some z)
    (hsize : i.size = sz) (hby : i.bytes = bytes) (hzs : z.cells.size = sz) (hsz : 0 < sz)
    (A0 : Option Addr) (n c0 : Nat) (xs : List α) (hs : a.eval s = .slice A0 n c0) (hown : Om sz enc w base e A0 n c0 xs)
    (lo hi' : Nat) (A : Option Addr) (m c : Nat) (ys : List α) (hx : a.eval x = .slice A m c) (hr : Sm sz enc d w lo hi' A m ys) (h1 : ∀ y j, j < sz → (enc y j).oneCell' = true)
    (h63 : n + m ≤ maxLen) (hbytes : (n + m) * bytes ≤ 140737488355328) (hbase : base ≤ w.heap.size)
    (hK : ∀ A' c' w', Om sz enc w' base e A' (n + m) c' (xs ++ ys) → w.grownBy w' (Value.slice A0 n c0).ownBlock → ((Value.slice A' (n + m) c').ownBlock = (Value.slice A0 n c0).ownBlock ∨ (Value.slice A' (n + m) c').ownBlock = some w.heap.size) →
      K (a.put o.dst (.slice A' (n + m) c')) w') :
    if Region.wanted o (yielded ops a.tmps) = true then Oper.wp P o a w K Q else E := by
  have hw : Region.wanted o (yielded ops a.tmps) = true := by simp [Region.wanted, hg]
  rw [if_pos hw]
  obtain ⟨A', c', w', hrun, k1, k2, k3⟩ := run_appm sz enc d w t o.type base e i z bytes ht hi hz hsize hby hzs hsz A0 n c0 xs hown lo hi' A m c ys hr h1 h63 hbytes hbase
  unfold Oper.wp
  simp [execOp, hop, resolve, invoke, builtin, hs, hx, hrun, Result.andThen]
  exact hK A' c' w' k1 k2 k3
theorem wpList_appm {P : Program} {α : Type} (sz : Nat) (enc : α → Nat → Value) (d : α) (w : World) {ops : Array Oper} {rest : List Oper} {o : Oper} {a : Act} {Q : Exit → Act → World → Prop} (hgd : o.guard = none) (s x : Operand) (t : TypeId)
    (ho : o.op = .call { callee := .builtin .append, args := #[s, x], argTypes := #[t, t] })
    (base : Nat) (e : TypeId) (i : TypeInfo) (z : Value) (bytes : Nat) (ht : P.underlying t = some (.slice e)) (hi : P.info? e = some i) (hz : i.zero = some z)
    (hsize : i.size = sz) (hby : i.bytes = bytes) (hzs : z.cells.size = sz) (hsz : 0 < sz)
    (A0 : Option Addr) (n c0 : Nat) (xs : List α) (hs : a.eval s = .slice A0 n c0) (hown : Om sz enc w base e A0 n c0 xs)
    (lo hi' : Nat) (A : Option Addr) (m c : Nat) (ys : List α) (hx : a.eval x = .slice A m c) (hr : Sm sz enc d w lo hi' A m ys) (h1 : ∀ y j, j < sz → (enc y j).oneCell' = true)
    (h63 : n + m ≤ maxLen) (hbytes : (n + m) * bytes ≤ 140737488355328) (hbase : base ≤ w.heap.size)
    (h : ∀ A' c' w', Om sz enc w' base e A' (n + m) c' (xs ++ ys) → w.grownBy w' (Value.slice A0 n c0).ownBlock → ((Value.slice A' (n + m) c').ownBlock = (Value.slice A0 n c0).ownBlock ∨ (Value.slice A' (n + m) c').ownBlock = some w.heap.size) →
      wpList P ops Q rest (a.put o.dst (.slice A' (n + m) c')) w') :
    wpList P ops Q (o :: rest) a w := by
  refine wpList_plain hgd fun K hK => ?_
  obtain ⟨A', c', w', hrun, k1, k2, k3⟩ := run_appm sz enc d w t o.type base e i z bytes ht hi hz hsize hby hzs hsz A0 n c0 xs hown lo hi' A m c ys hr h1 h63 hbytes hbase
  unfold Oper.wp
  simp [execOp, ho, resolve, invoke, builtin, hs, hx, hrun, Result.andThen]
  exact hK _ _ (h A' c' w' k1 k2 k3)
end Go.Proofs.Ytaeanmkbongfcaa
