/- General words and laws for the walks of this seat, all together. No condition. -/
import Derived.WalkKit
import Derived.WalkSpells
import Derived.WalkLawsBesides
import Derived.Maps.AppendAt
import Derived.Deep.AppendLies
import Derived.Deep.Draws
import Derived.BigQuiet
import Derived.Deep.QuietTactic
import Derived.RangeFuncNested
import Derived.RangeFuncBound
import Derived.RangeFuncCalls
import Derived.RangeFuncLeaves
import Derived.RangeFuncWrites
import Derived.RangeFuncBox
import Derived.Shelf.Abstract
import Derived.OwnWalkIn
import Derived.TacticsInMore
import Derived.LoopNIn
import Derived.LoopIn
import Derived.Maps.OwnIn
import Derived.ControlIn
import Derived.Laws.MakeOwn
import Derived.Laws.OwnMore
import Derived.Laws.CopyOwn
import Derived.Deep.RegionHeld3
import Derived.Deep.AppendSrc
import Derived.StillTail
import Derived.Below
import Derived.MapKept
import Derived.Carry
import Derived.ScopeJumps
import Derived.WalkMore
import Derived.Laws.CopyRow
import Derived.Deep.RegionHeld
/- General words and laws for the walks of this seat: rows that are read, rows that are owned, blocks known whole, whole arrays loaded and stored. No condition. -/
namespace Go.Proofs.Ytnkaajkdjbdpaaa
open Go.RowKit

theorem hid {p : Prop} (h : p) : Hid p := h
theorem ret_bool {a b : Bool} (h : a = b) : Ending.returned (.bool a) = .returned (.bool b) := by rw [h]
theorem ret_int {k : IntKind} {a b : Int} (h : a = b) : Ending.returned (.int k a) = .returned (.int k b) := by rw [h]

/-! ### blocks known whole -/
def Blk (w : World) (g : Nat) (t : TypeId) (cs : Array Value) : Prop := w.heap[g]? = some (.cells cs t (0, 0))
section
variable {w w' : World} {g : Nat} {t : TypeId} {cs cs' : Array Value}
theorem Blk.lt (h : Blk w g t cs) : g < w.heap.size := by unfold Blk at h; exact (Array.getElem?_eq_some_iff.1 h).1
theorem Blk.new (w : World) (t : TypeId) (cs : Array Value) : Blk (w.alloc (.cells cs t)) w.heap.size t cs := heap_alloc_new w _
theorem Blk.at (hg : g = w.heap.size) : Blk (w.alloc (.cells cs t)) g t cs := hg ▸ Blk.new w t cs
theorem Blk.new2 (w : World) (t : TypeId) (cs : Array Value) (a : Obj) : Blk ((w.alloc a).alloc (.cells cs t)) (w.heap.size + 1) t cs := Blk.at (by simp)
theorem Blk.new3 (w : World) (t : TypeId) (cs : Array Value) (a b : Obj) : Blk (((w.alloc a).alloc b).alloc (.cells cs t)) (w.heap.size + 1 + 1) t cs := Blk.at (by simp)
theorem Blk.new4 (w : World) (t : TypeId) (cs : Array Value) (a b c : Obj) : Blk ((((w.alloc a).alloc b).alloc c).alloc (.cells cs t)) (w.heap.size + 1 + 1 + 1) t cs := Blk.at (by simp)
theorem Blk.alloc (h : Blk w g t cs) (o : Obj) : Blk (w.alloc o) g t cs := (Below.heap_alloc w o g h.lt).trans h
theorem Blk.drew (h : Blk w g t cs) : Blk w.drew g t cs := h
theorem Blk.drewN (h : Blk w g t cs) (n : Nat) : Blk (w.drewN n) g t cs := h
theorem Blk.setRow (h : Blk w g t cs) : Blk (w.setRow g cs') g t cs' := setRow_heap w g cs cs' t _ h
theorem Blk.farRow {k : Nat} (h : Blk w g t cs) (hk : g ≠ k) : Blk (w.setRow k cs') g t cs := (setRow_other w k g cs' hk).trans h
theorem Blk.cell (h : Blk w g t cs) (i : Nat) : w.cell? ⟨g, i, none⟩ = cs[i]? := cell_of_row w g i cs t (0, 0) h
theorem Blk.frozen (h : Blk w g t cs) (i : Nat) : w.frozen? ⟨g, i, none⟩ = false := frozen_of_row w g i cs t h
theorem Blk.setCell (h : Blk w g t cs) (i : Nat) (u : Value) : Blk (w.setCell ⟨g, i, none⟩ u) g t (cs.setIfInBounds i u) := heap_setCell_same w g i cs t u h
theorem Blk.far (h : Blk w g t cs) {p : Addr} (hp : g ≠ p.block) (u : Value) : Blk (w.setCell p u) g t cs := (Below.heap_setCell w p u g hp).trans h
theorem Blk.below {B : Nat} (h : Blk w g t cs) (hb : Below B w w') (hg : g < B) : Blk w' g t cs := (hb.block g hg).trans h
theorem Blk.grown {row : Option Nat} (h : Blk w g t cs) (hb : w.grownBy w' row) (hg : some g ≠ row) : Blk w' g t cs := (hb.block g h.lt hg).trans h
end
theorem Blk.cells1 {w : World} {g : Nat} {t : TypeId} {a : Value} (h : Blk w g t #[a]) : w.cell? ⟨g, 0, none⟩ = some a ∧ w.frozen? ⟨g, 0, none⟩ = false := ⟨h.cell 0, h.frozen 0⟩
theorem Blk.cells2 {w : World} {g : Nat} {t : TypeId} {a b : Value} (h : Blk w g t #[a, b]) : w.cell? ⟨g, 0, none⟩ = some a ∧ w.cell? ⟨g, 1, none⟩ = some b ∧ ∀ i, w.frozen? ⟨g, i, none⟩ = false := ⟨h.cell 0, h.cell 1, h.frozen⟩
theorem Blk.cells3 {w : World} {g : Nat} {t : TypeId} {a b c : Value} (h : Blk w g t #[a, b, c]) : w.cell? ⟨g, 0, none⟩ = some a ∧ w.cell? ⟨g, 1, none⟩ = some b ∧ w.cell? ⟨g, 2, none⟩ = some c ∧ ∀ i, w.frozen? ⟨g, i, none⟩ = false := ⟨h.cell 0, h.cell 1, h.cell 2, h.frozen⟩
theorem Blk.cells4 {w : World} {g : Nat} {t : TypeId} {a b c d : Value} (h : Blk w g t #[a, b, c, d]) : w.cell? ⟨g, 0, none⟩ = some a ∧ w.cell? ⟨g, 1, none⟩ = some b ∧ w.cell? ⟨g, 2, none⟩ = some c ∧ w.cell? ⟨g, 3, none⟩ = some d ∧ ∀ i, w.frozen? ⟨g, i, none⟩ = false := ⟨h.cell 0, h.cell 1, h.cell 2, h.cell 3, h.frozen⟩
theorem below_setRow {B : Nat} {a w : World} (h : Below B a w) {g : Nat} (hg : B ≤ g) (cs : Array Value) : Below B a (w.setRow g cs) :=
  h.trans ⟨rfl, rfl, rfl, by simp, fun k hk => setRow_other w g k cs (by omega)⟩
theorem below_of_grown {w w' : World} (h : w.grownBy w' none) : Below w.heap.size w w' := ⟨h.os, h.tape, h.output, h.size, fun k hk => h.block k hk (by simp)⟩
/-! ### a row of one-cell elements that is read -/
structure Sl {α : Type} (enc : α → Value) (d : α) (w : World) (lo hi : Nat) (A : Option Addr) (n : Nat) (xs : List α) : Prop where
  len : xs.length = n
  row : 0 < n → ∃ b off, A = some ⟨b, off, none⟩ ∧ lo ≤ b ∧ b < hi ∧ ∀ k, k < n → w.cell? ⟨b, off + k, none⟩ = some (enc (xs[k]?.getD d))
section
variable {α : Type} {enc : α → Value} {d : α} {w w' : World} {lo hi lo' hi' B : Nat} {A : Option Addr} {n : Nat} {xs : List α}
theorem Sl.nil (w : World) (lo hi : Nat) (A : Option Addr) : Sl enc d w lo hi A 0 [] := ⟨rfl, fun h => absurd h (by omega)⟩
theorem Sl.keep (h : Sl enc d w lo hi A n xs) (hk : ∀ b o, lo ≤ b → b < hi → w'.cell? ⟨b, o, none⟩ = w.cell? ⟨b, o, none⟩) : Sl enc d w' lo hi A n xs :=
  ⟨h.len, fun hn => by
    obtain ⟨b, off, e, h1, h2, h3⟩ := h.row hn
    exact ⟨b, off, e, h1, h2, fun k hkn => (hk b _ h1 h2).trans (h3 k hkn)⟩⟩
theorem Sl.below (h : Sl enc d w lo hi A n xs) (hb : Below B w w') (hB : hi ≤ B) : Sl enc d w' lo hi A n xs := h.keep fun b o _ h2 => hb.cell (p := ⟨b, o, none⟩) (Nat.lt_of_lt_of_le h2 hB)
theorem Sl.alloc (h : Sl enc d w lo hi A n xs) (hB : hi ≤ w.heap.size) (o : Obj) : Sl enc d (w.alloc o) lo hi A n xs :=
  h.keep fun b i _ h2 => World.cell?_alloc_lt w o ⟨b, i, none⟩ (Nat.lt_of_lt_of_le h2 hB)
theorem Sl.drew (h : Sl enc d w lo hi A n xs) : Sl enc d w.drew lo hi A n xs := ⟨h.len, h.row⟩
theorem Sl.drewN (h : Sl enc d w lo hi A n xs) (k : Nat) : Sl enc d (w.drewN k) lo hi A n xs := ⟨h.len, h.row⟩
theorem Sl.setCell (h : Sl enc d w lo hi A n xs) {p : Addr} (hp : p.block < lo ∨ hi ≤ p.block) (u : Value) : Sl enc d (w.setCell p u) lo hi A n xs :=
  h.keep fun b i h1 h2 => World.cell?_setCell_other w p ⟨b, i, none⟩ u (fun e => by subst e; simp at hp; omega)
theorem Sl.setRow (h : Sl enc d w lo hi A n xs) {g : Nat} (hp : g < lo ∨ hi ≤ g) (cs : Array Value) : Sl enc d (w.setRow g cs) lo hi A n xs :=
  h.keep fun b i h1 h2 => cell_setRow_other w g cs ⟨b, i, none⟩ (by simp; omega)
theorem Sl.mono (h : Sl enc d w lo hi A n xs) (h1 : lo' ≤ lo) (h2 : hi ≤ hi') : Sl enc d w lo' hi' A n xs :=
  ⟨h.len, fun hn => by
    obtain ⟨b, off, e, g1, g2, g3⟩ := h.row hn
    exact ⟨b, off, e, by omega, by omega, g3⟩⟩
theorem Sl.take (h : Sl enc d w lo hi A n xs) {k : Nat} (hk : k ≤ n) : Sl enc d w lo hi A k (xs.take k) :=
  ⟨by rw [List.length_take, h.len]; omega, fun hn => by
    obtain ⟨b, off, e, h1, h2, h3⟩ := h.row (by omega)
    refine ⟨b, off, e, h1, h2, fun j hj => ?_⟩
    rw [h3 j (by omega), List.getElem?_take, if_pos hj]⟩
theorem Sl.drop (h : Sl enc d w lo hi A n xs) {k cap : Nat} (hk : k ≤ n) (hc : n ≤ cap) : Sl enc d w lo hi (if cap = k then A else A.map (·.add k)) (n - k) (xs.drop k) :=
  ⟨by rw [List.length_drop, h.len], fun hn => by
    obtain ⟨b, off, rfl, h1, h2, h3⟩ := h.row (by omega)
    rw [if_neg (by omega)]
    refine ⟨b, off + k, by simp [Addr.add_lit], h1, h2, fun j hj => ?_⟩
    rw [Nat.add_assoc, h3 (k + j) (by omega), List.getElem?_drop]⟩
theorem Sl.none_ (h : Sl enc d w lo hi none n xs) : n = 0 ∧ xs = [] := by
  have hn : n = 0 := by
    rcases Nat.eq_zero_or_pos n with h0 | h0
    · exact h0
    · obtain ⟨b, off, e, _⟩ := h.row h0
      cases e
  exact ⟨hn, List.eq_nil_of_length_eq_zero (h.len.trans hn)⟩
end

/-! ### a row of one-cell elements that is owned -/
structure Ow {α : Type} (enc : α → Value) (w : World) (lo : Nat) (e : TypeId) (A : Option Addr) (n c : Nat) (xs : List α) : Prop where
  len : xs.length = n
  own : w.ownsRow lo e 1 (.slice A n c) n (xs.map enc)
section
variable {α : Type} {enc : α → Value} {d : α} {w w' : World} {lo lo' B : Nat} {e : TypeId} {A : Option Addr} {n c : Nat} {xs : List α}
theorem Ow.cap (h : Ow enc w lo e A n c xs) : n ≤ c ∧ c ≤ maxLen := by
  rcases h.own.2 with ⟨hv, h0⟩ | ⟨g, cap, cur, hv, _, _, h1, h2, _⟩
  · simp only [Value.slice.injEq] at hv; obtain ⟨_, rfl, rfl⟩ := hv; exact ⟨Nat.le_refl _, by simp [maxLen]⟩
  · simp only [Value.slice.injEq] at hv; obtain ⟨_, _, rfl⟩ := hv; exact ⟨h1, h2⟩
theorem Ow.sl (h : Ow enc w lo e A n c xs) : Sl enc d w lo w.heap.size A n xs := by
  refine ⟨h.len, fun hn => ?_⟩
  obtain ⟨g, cap, hv, hlo, hhi⟩ := h.own.form hn
  simp only [Value.slice.injEq] at hv
  obtain ⟨rfl, _, rfl⟩ := hv
  refine ⟨g, 0, rfl, hlo, hhi, fun k hk => ?_⟩
  rw [Nat.zero_add, h.own.cellAt k (by omega), List.getElem?_map, List.getElem?_eq_getElem (by rw [h.len]; exact hk)]
  rfl
theorem Ow.empty (w : World) (lo : Nat) (e : TypeId) (hlo : lo ≤ w.heap.size) : Ow enc (w.alloc (.cells #[] e)) lo e (some ⟨w.heap.size, 0, none⟩) 0 0 [] :=
  ⟨rfl, World.ownsRow_made w #[] 0 hlo (by simp [maxLen]) rfl⟩
theorem Ow.nil (w : World) (lo : Nat) (e : TypeId) : Ow enc w lo e none 0 0 [] := ⟨rfl, World.ownsRow_nil w lo e 1⟩
theorem Ow.below (h : Ow enc w lo e A n c xs) (hb : Below w.heap.size w w') : Ow enc w' lo e A n c xs := by
  refine ⟨h.len, h.own.1, ?_⟩
  rcases h.own.2 with hh | ⟨g, cap, cur, hv, hb1, hg, r⟩
  · exact .inl hh
  · exact .inr ⟨g, cap, cur, hv, hb1, (hb.block g (Array.getElem?_eq_some_iff.1 hg).1).trans hg, r⟩
theorem Ow.mono (h : Ow enc w lo e A n c xs) (h1 : lo' ≤ lo) : Ow enc w lo' e A n c xs := by
  refine ⟨h.len, h.own.1, ?_⟩
  rcases h.own.2 with hh | ⟨g, cap, cur, hv, hb1, r⟩
  · exact .inl hh
  · exact .inr ⟨g, cap, cur, hv, by omega, r⟩
theorem Ow.alloc (h : Ow enc w lo e A n c xs) (o : Obj) : Ow enc (w.alloc o) lo e A n c xs := ⟨h.len, h.own.alloc o⟩
theorem Ow.drewN (h : Ow enc w lo e A n c xs) (k : Nat) : Ow enc (w.drewN k) lo e A n c xs := ⟨h.len, h.own⟩
theorem Ow.setCell (h : Ow enc w lo e A n c xs) {p : Addr} (hp : p.block < lo) (u : Value) : Ow enc (w.setCell p u) lo e A n c xs := ⟨h.len, ownsRow_setCell_below h.own hp u⟩
end

section
variable {α : Type} {enc : α → Value} {d : α} {w w' : World} {lo lo' B : Nat} {e : TypeId} {A : Option Addr} {n c : Nat} {xs : List α}
theorem Ow.row_ge (h : Ow enc w lo e A n c xs) : ∀ k, (Value.slice A n c).ownBlock = some k → lo ≤ k := fun k hk => (h.own.lt k hk).1
/-- a block below an owned row is no part of it -/
theorem Ow.ne_row (h : Ow enc w lo e A n c xs) {g : Nat} (hg : g < lo) : some g ≠ (Value.slice A n c).ownBlock := fun he => by
  have := h.row_ge g he.symm; omega
theorem Sl.one (w : World) (e : TypeId) (x : α) : Sl enc d (w.alloc (.cells #[enc x] e)) w.heap.size (w.heap.size + 1) (some ⟨w.heap.size, 0, none⟩) 1 [x] :=
  ⟨rfl, fun _ => ⟨w.heap.size, 0, rfl, Nat.le_refl _, by omega, fun k hk => by
    obtain rfl : k = 0 := by omega
    simp⟩⟩
end

theorem Sl.one' {α : Type} {enc : α → Value} {d : α} {w : World} {e : TypeId} {x : α} {g : Nat} (hg : g = w.heap.size) : Sl enc d (w.alloc (.cells #[enc x] e)) g (g + 1) (some ⟨g, 0, none⟩) 1 [x] := by
  subst hg; exact Sl.one w e x

/-! ### whole arrays -/
/-! ### a slice against nil -/
theorem run_eqnil {P : Program} {t e : TypeId} (ht : P.underlying t = some (.slice e)) (w : World) (a : Option Addr) (n c : Nat) :
    (binOp .eql t (.slice a n c) (.slice none 0 0)).run P w = .ok (.bool a.isNone) w := by
  have h : ∀ d : Nat, (Op.equalIn (d + 1) t (.slice a n c) (.slice none 0 0)).run P w = .ok a.isNone w := fun d => by
    cases a <;> simp [Op.equalIn, run_underlying ht]
  simp only [binOp]
  simp [Op.equal, Op.maxDepth, h 9999]

/-! ### append onto an owned row -/
/-- what an append leaves -/
def AppPost {α : Type} (enc : α → Value) (w : World) (base : Nat) (e : TypeId) (v : Value) (n : Nat) (xs : List α) (v' : Value) (w' : World) : Prop :=
  ∃ A c, v' = .slice A n c ∧ Ow enc w' base e A n c xs ∧ w.grownBy w' v.ownBlock ∧ (v'.ownBlock = v.ownBlock ∨ v'.ownBlock = some w.heap.size)
theorem wpList_app {P : Program} {α : Type} (enc : α → Value) (d : α) (w : World) {ops : Array Oper} {rest : List Oper} {o : Oper} {a : Act} {Q : Exit → Act → World → Prop} (hgd : o.guard = none) (s x : Operand) (t : TypeId)
    (ho : o.op = .call { callee := .builtin .append, args := #[s, x], argTypes := #[t, t] })
    (base : Nat) (e : TypeId) (i : TypeInfo) (z : Value) (bytes : Nat) (ht : P.underlying t = some (.slice e)) (hi : P.info? e = some i) (hz : i.zero = some z)
    (hsize : i.size = 1) (hby : i.bytes = bytes) (hzs : z.cells.size = 1)
    (A0 : Option Addr) (n c0 : Nat) (xs : List α) (hs : a.eval s = .slice A0 n c0) (hown : Ow enc w base e A0 n c0 xs)
    (lo hi' : Nat) (A : Option Addr) (m c : Nat) (ys : List α) (hx : a.eval x = .slice A m c) (hr : Sl enc d w lo hi' A m ys) (h1 : ∀ y, (enc y).oneCell' = true)
    (h63 : n + m ≤ maxLen) (hbytes : (n + m) * bytes ≤ 140737488355328) (hbase : base ≤ w.heap.size)
    (h : ∀ A' c' w', Ow enc w' base e A' (n + m) c' (xs ++ ys) → w.grownBy w' (Value.slice A0 n c0).ownBlock → ((Value.slice A' (n + m) c').ownBlock = (Value.slice A0 n c0).ownBlock ∨ (Value.slice A' (n + m) c').ownBlock = some w.heap.size) →
      wpList P ops Q rest (a.put o.dst (.slice A' (n + m) c')) w') :
    wpList P ops Q (o :: rest) a w := by
  have hform : ∀ (v' : Value) (w' : World), w'.ownsRow base e 1 v' (n + m) ((xs ++ ys).map enc) → ∃ (A' : Option Addr) (c' : Nat), v' = Value.slice A' (n + m) c' := by
    intro v' w' ho
    rcases ho.2 with ⟨rfl, h0⟩ | ⟨g, cap, cur, rfl, _⟩
    · rw [h0]; exact ⟨_, _, rfl⟩
    · exact ⟨_, _, rfl⟩
  refine wpList_plain hgd fun K hK => ?_
  rcases A with _ | ad
  · obtain ⟨rfl, rfl⟩ := hr.none_
    have hrun : (Builtin.append_ #[t, t] o.type #[.slice A0 n c0, .slice none 0 c]).run P w = .ok (.slice A0 n c0) w := by
      rcases hown.own.2 with ⟨hv, h0⟩ | ⟨g, cap, cur, hv, _, _, hnc, _⟩
      · simp only [Value.slice.injEq] at hv
        obtain ⟨rfl, rfl, rfl⟩ := hv
        simp [Builtin.append_, run_underlying ht, sizeOf, typeInfo, hi, Builtin.lenOf, Builtin.firstCells]
      · simp only [Value.slice.injEq] at hv
        obtain ⟨rfl, _, rfl⟩ := hv
        simp [Builtin.append_, run_underlying ht, sizeOf, typeInfo, hi, Builtin.lenOf, Builtin.firstCells, hnc, storeCells]
    unfold Oper.wp execOp
    simp only [ho, resolve, invoke, builtin, Sem.run_bind, Sem.run_pure, Result.andThen_ok, List.map_toArray, List.map_cons, List.map_nil, hs, hx, hrun]
    exact hK _ _ (h A0 c0 w (by simpa using hown) (World.grownBy.refl w _) (.inl rfl))
  · have hnews : ∀ j u, (ys.map enc)[j]? = some u → w.cell? (ad.add j) = some u := by
      intro j u hu
      have hj : j < m := by have := (List.getElem?_eq_some_iff.1 hu).1; rw [List.length_map, hr.len] at this; exact this
      obtain ⟨b, off, he, _, _, hc⟩ := hr.row (by omega)
      obtain rfl := Option.some.inj he
      rw [Addr.add_lit, hc j hj, ← hu, List.getElem?_map, List.getElem?_eq_getElem (by rw [hr.len]; exact hj)]
      rfl
    obtain ⟨v', w', hrun, h2, h3, _, h5⟩ := run_append_own_at (P := P) w base t o.type e i z 1 bytes ht hi hz hsize hby hzs (by omega) (.slice A0 n c0) n (xs.map enc) hown.own ad m c (ys.map enc) (by rw [List.length_map, hr.len, Nat.mul_one]) hnews
      (fun u hu => by obtain ⟨y, _, rfl⟩ := List.mem_map.1 hu; exact h1 y) h63 hbytes hbase
    rw [← List.map_append] at h2
    obtain ⟨A', c', rfl⟩ := hform v' w' h2
    unfold Oper.wp execOp
    simp only [ho, resolve, invoke, builtin, Sem.run_bind, Sem.run_pure, Result.andThen_ok, List.map_toArray, List.map_cons, List.map_nil, hs, hx, hrun]
    exact hK _ _ (h A' c' w' ⟨by rw [List.length_append, hown.len, hr.len], h2⟩ h3 h5)
end Go.Proofs.Ytnkaajkdjbdpaaa

/- General words, second part: facts carried over a step that turns nothing old. No condition. -/
namespace Go.Proofs.Ytnkaajkdjbdpaaa
open Go.RowKit
theorem below_box (w : World) (o : Obj) : Below w.heap.size w (w.alloc o) := (Below.refl _ w).alloc (Nat.le_refl _) o
theorem Blk.step {w w' : World} {g : Nat} {t : TypeId} {cs : Array Value} (h : Blk w g t cs) (hb : Below w.heap.size w w') : Blk w' g t cs := h.below hb h.lt
theorem Sl.step {α : Type} {enc : α → Value} {d : α} {w w' : World} {lo : Nat} {A : Option Addr} {n : Nat} {xs : List α} (h : Sl enc d w lo w.heap.size A n xs) (hb : Below w.heap.size w w') : Sl enc d w' lo w'.heap.size A n xs :=
  (h.below hb (Nat.le_refl _)).mono (Nat.le_refl _) hb.size
theorem below_then {w a b : World} (h : Below w.heap.size w a) (h' : Below a.heap.size a b) : Below w.heap.size w b := h.trans (h'.mono h.size)
theorem Ow.step {α : Type} {enc : α → Value} {w w' : World} {lo : Nat} {e : TypeId} {A : Option Addr} {n c : Nat} {xs : List α} (h : Ow enc w lo e A n c xs) (hb : Below w.heap.size w w') : Ow enc w' lo e A n c xs := h.below hb
/-- a literal row, as it was laid -/
theorem Sl.lit {α : Type} {enc : α → Value} {d : α} {w : World} {e : TypeId} {g : Nat} (xs : List α) (cs : Array Value) (hg : g = w.heap.size) (hc : cs = (xs.map enc).toArray) :
    Sl enc d (w.alloc (.cells cs e)) 0 (w.alloc (.cells cs e)).heap.size (some ⟨g, 0, none⟩) xs.length xs := by
  subst hg hc
  refine ⟨rfl, fun _ => ⟨w.heap.size, 0, rfl, Nat.zero_le _, by simp, fun k hk => ?_⟩⟩
  rw [Nat.zero_add, (Blk.new w e _).cell]
  simp [hk]
end Go.Proofs.Ytnkaajkdjbdpaaa

/- General words, third part: stores into an owned row. No condition. -/
namespace Go.Proofs.Ytnkaajkdjbdpaaa
open Go.RowKit
section
variable {α : Type} {enc : α → Value} {d : α} {w : World} {lo : Nat} {e : TypeId} {A : Option Addr} {n c : Nat} {xs : List α}
theorem Ow.at_ (h : Ow enc w lo e A n c xs) (d : α) {k : Nat} (hk : k < n) : ∃ g, A = some ⟨g, 0, none⟩ ∧ lo ≤ g ∧ g < w.heap.size ∧ w.cell? ⟨g, k, none⟩ = some (enc (xs[k]?.getD d)) ∧ w.frozen? ⟨g, k, none⟩ = false := by
  obtain ⟨g, cap, hv, hlo, hhi⟩ := h.own.form (by omega)
  simp only [Value.slice.injEq] at hv
  obtain ⟨rfl, _, rfl⟩ := hv
  refine ⟨g, rfl, hlo, hhi, ?_, h.own.frozenAt k⟩
  rw [h.own.cellAt k (by omega), List.getElem?_map, List.getElem?_eq_getElem (by rw [h.len]; exact hk)]
  rfl
theorem Ow.stored {g : Nat} (h : Ow enc w lo e (some ⟨g, 0, none⟩) n c xs) (k : Nat) (v : α) : Ow enc (w.setCell ⟨g, k, none⟩ (enc v)) lo e (some ⟨g, 0, none⟩) n c (xs.set k v) := by
  refine ⟨by rw [List.length_set, h.len], ?_⟩
  rw [List.map_set]
  exact (h.own.stored k (enc v)).1
theorem Ow.setFar (h : Ow enc w lo e A n c xs) {p : Addr} (hp : p.block < lo ∨ w.heap.size ≤ p.block) (u : Value) : Ow enc (w.setCell p u) lo e A n c xs := by
  refine ⟨h.len, h.own.1, ?_⟩
  rcases h.own.2 with hh | ⟨g, cap, cur, hv, hb1, hg, r⟩
  · exact .inl hh
  · refine .inr ⟨g, cap, cur, hv, hb1, ?_, r⟩
    have := (Array.getElem?_eq_some_iff.1 hg).1
    exact (Below.heap_setCell w p u g (by omega)).trans hg
end
end Go.Proofs.Ytnkaajkdjbdpaaa

/- General words, fourth part: what abides the turn of a block that is no cells (loops over functions, maps). No condition. -/
namespace Go.Proofs.Ytnkaajkdjbdpaaa
open Go.RowKit Go.Shelf
theorem Blk.abides {W W' : World} {g : Nat} {t : TypeId} {cs : Array Value} {row : Option Nat} (h : Blk W g t cs) (hg : W.grownBy W' row) (hr : ∀ r, row = some r → ∃ o : Obj, W.heap[r]? = some o ∧ o.isCells = false) : Blk W' g t cs :=
  h.grown hg (fun e => by
    obtain ⟨o, ho, hc⟩ := hr g e.symm
    unfold Blk at h
    rw [h] at ho
    cases ho
    cases hc)
theorem Ow.abides {α : Type} {enc : α → Value} {W W' : World} {lo : Nat} {e : TypeId} {A : Option Addr} {n c : Nat} {xs : List α} {row : Option Nat} (h : Ow enc W lo e A n c xs) (hg : W.grownBy W' row) (hr : ∀ r, row = some r → ∃ o : Obj, W.heap[r]? = some o ∧ o.isCells = false) : Ow enc W' lo e A n c xs := by
  refine ⟨h.len, h.own.1, ?_⟩
  rcases h.own.2 with hh | ⟨g, cap, cur, hv, hb1, hgg, r⟩
  · exact .inl hh
  · refine .inr ⟨g, cap, cur, hv, hb1, ?_, r⟩
    exact Blk.abides (t := e) (cs := cur) hgg hg hr
end Go.Proofs.Ytnkaajkdjbdpaaa

/- General words, fifth part: rows of structures, whose elements lie in so many cells each. No condition. -/
namespace Go.Proofs.Ytnkaajkdjbdpaaa
open Go.RowKit
/-- a row of elements of sz cells each reads as xs; enc x j: the j-th cell of x -/
structure Sm {α : Type} (sz : Nat) (enc : α → Nat → Value) (d : α) (w : World) (lo hi : Nat) (A : Option Addr) (n : Nat) (xs : List α) : Prop where
  len : xs.length = n
  row : 0 < n → ∃ b off, A = some ⟨b, off, none⟩ ∧ lo ≤ b ∧ b < hi ∧ ∀ k, k < n → ∀ j, j < sz → w.cell? ⟨b, off + k * sz + j, none⟩ = some (enc (xs[k]?.getD d) j)
section
variable {α : Type} {sz : Nat} {enc : α → Nat → Value} {d : α} {w w' : World} {lo hi lo' hi' B : Nat} {A : Option Addr} {n : Nat} {xs : List α}
theorem Sm.nil (w : World) (lo hi : Nat) (A : Option Addr) : Sm sz enc d w lo hi A 0 [] := ⟨rfl, fun h => absurd h (by omega)⟩
theorem Sm.keep (h : Sm sz enc d w lo hi A n xs) (hk : ∀ b o, lo ≤ b → b < hi → w'.cell? ⟨b, o, none⟩ = w.cell? ⟨b, o, none⟩) : Sm sz enc d w' lo hi A n xs :=
  ⟨h.len, fun hn => by
    obtain ⟨b, off, e, h1, h2, h3⟩ := h.row hn
    exact ⟨b, off, e, h1, h2, fun k hkn j hj => (hk b _ h1 h2).trans (h3 k hkn j hj)⟩⟩
theorem Sm.below (h : Sm sz enc d w lo hi A n xs) (hb : Below B w w') (hB : hi ≤ B) : Sm sz enc d w' lo hi A n xs := h.keep fun b o _ h2 => hb.cell (p := ⟨b, o, none⟩) (Nat.lt_of_lt_of_le h2 hB)
theorem Sm.mono (h : Sm sz enc d w lo hi A n xs) (h1 : lo' ≤ lo) (h2 : hi ≤ hi') : Sm sz enc d w lo' hi' A n xs :=
  ⟨h.len, fun hn => by
    obtain ⟨b, off, e, g1, g2, g3⟩ := h.row hn
    exact ⟨b, off, e, by omega, by omega, g3⟩⟩
theorem Sm.step (h : Sm sz enc d w lo w.heap.size A n xs) (hb : Below w.heap.size w w') : Sm sz enc d w' lo w'.heap.size A n xs := (h.below hb (Nat.le_refl _)).mono (Nat.le_refl _) hb.size
theorem Sm.take (h : Sm sz enc d w lo hi A n xs) {k : Nat} (hk : k ≤ n) : Sm sz enc d w lo hi A k (xs.take k) :=
  ⟨by rw [List.length_take, h.len]; omega, fun hn => by
    obtain ⟨b, off, e, h1, h2, h3⟩ := h.row (by omega)
    refine ⟨b, off, e, h1, h2, fun j hj i hi => ?_⟩
    rw [h3 j (by omega) i hi, List.getElem?_take, if_pos hj]⟩
/-- one element, as it was laid -/
theorem Sm.one {e : TypeId} {cs : Array Value} {g : Nat} (x : α) (hg : g = w.heap.size) (hc : ∀ j, j < sz → cs[j]? = some (enc x j)) : Sm sz enc d (w.alloc (.cells cs e)) 0 (w.alloc (.cells cs e)).heap.size (some ⟨g, 0, none⟩) 1 [x] := by
  subst hg
  refine ⟨rfl, fun _ => ⟨w.heap.size, 0, rfl, Nat.zero_le _, by simp, fun k hk j hj => ?_⟩⟩
  obtain rfl : k = 0 := by omega
  have h0 : 0 + 0 * sz + j = j := by omega
  rw [h0, (Blk.new w e cs).cell, hc j hj]
  rfl
end
end Go.Proofs.Ytnkaajkdjbdpaaa

/- General words, sixth part: rows that are made. No condition but sizes. -/
namespace Go.Proofs.Ytnkaajkdjbdpaaa
open Go.RowKit
/-- so many cells that hold one value -/
def zrow (v : Value) (n : Nat) : Array Value := (List.replicate n v).toArray
theorem zrow_size (v : Value) (n : Nat) : (zrow v n).size = n := by simp [zrow]
theorem made_zrow (v : Value) (hv : v.cells = #[v]) (n : Nat) : madeCells v.cells (n * 1) = zrow v n := by
  rw [hv]
  apply Array.ext
  · simp [madeCells, zrow]
  · intro i h1 h2
    simp [madeCells, zrow, Nat.mod_one]
theorem Ow.made {α : Type} {enc : α → Value} {w : World} {lo g : Nat} {e : TypeId} {n : Nat} (x : α) (hlo : lo ≤ w.heap.size) (hn : n ≤ maxLen) (hg : g = w.heap.size) : Ow enc (w.alloc (.cells (zrow (enc x) n) e)) lo e (some ⟨g, 0, none⟩) n n (List.replicate n x) := by
  subst hg
  refine ⟨by simp, ?_⟩
  have := World.ownsRow_lit (e := e) (size := 1) (base := lo) w (zrow (enc x) n) n hlo hn (by rw [zrow_size, Nat.mul_one])
  simpa [zrow] using this
theorem run_make1 {P : Program} {t e : TypeId} {i : TypeInfo} {z : Value} (ht : P.underlying t = some (.slice e)) (hi : P.info? e = some i) (hz : i.zero = some z) (hs : i.size = 1) (hzc : z.cells = #[z]) (n : Nat) (hn : i.bytes * n ≤ 281474976710656) (hm : n ≤ 1000000) (w : World) :
    (Instr.makeSlice t (.int .i64 n) (.int .i64 n)).run P w = .ok (.slice (some ⟨w.heap.size, 0, none⟩) n n) (w.alloc (.cells (zrow z n) e)) := by
  have hb : (i.bytes : Int) * (n : Int) ≤ 281474976710656 := by
    have h' : ((i.bytes * n : Nat) : Int) ≤ 281474976710656 := by omega
    rwa [Int.natCast_mul] at h'
  have h := run_make (P := P) w t e i z ht hi hz .i64 .i64 n n (by omega) (Int.le_refl _) hb (by omega)
  rw [Int.toNat_natCast, hs, made_zrow z hzc] at h
  exact h
end Go.Proofs.Ytnkaajkdjbdpaaa

/- General words, eighth part: copy onto a whole new row; rows out of blocks. No condition. -/
namespace Go.Proofs.Ytnkaajkdjbdpaaa
open Go.RowKit
/-- the run of a copy over the whole of a row -/
theorem run_copy_full {P : Program} {w : World} {α : Type} (enc : α → Value) (dd : α) (dT sT ty elem : TypeId) (hu : P.underlying dT = some (.slice elem)) (hsz : (P.info? elem).map (·.size) = some 1)
    (g n c sc : Nat) (A : Option Addr) (cur : Array Value) (t : TypeId) (hg : Blk w g t cur) (hcur : cur.size = n) (lo hi : Nat) (xs : List α) (hr : Sl enc dd w lo hi A n xs) (h1 : ∀ y, (enc y).oneCell' = true) :
    (Builtin.copy_ #[dT, sT] ty #[.slice (some ⟨g, 0, none⟩) n c, .slice A n sc]).run P w = .ok (.int .i64 n) (w.setRow g (xs.map enc).toArray) := by
  have hl := hr.len
  by_cases h0 : n = 0
  · subst h0
    obtain rfl : xs = [] := List.eq_nil_of_length_eq_zero hl
    obtain rfl : cur = #[] := Array.eq_empty_of_size_eq_zero hcur
    have e : w.setRow g (List.map enc []).toArray = w := setRow_self w g #[] t (0, 0) hg
    rw [e]
    exact run_copy_none w dT sT ty elem _ _ 0 c 0 sc hu hsz rfl
  · obtain ⟨b, off, rfl, _, _, hc⟩ := hr.row (by omega)
    have hrun := run_copy_row (P := P) w dT sT ty elem g 0 n c ⟨b, off, none⟩ n sc cur t (xs.map enc) hu hsz hg (by simp [hl, Nat.min_def])
      (fun j v hj => by
        have hj' : j < n := by have := (List.getElem?_eq_some_iff.1 hj).1; rwa [List.length_map, hl] at this
        rw [Addr.add_lit, hc j hj', ← hj, List.getElem?_map, List.getElem?_eq_getElem (by rw [hl]; exact hj')]
        rfl) (by simp [hl, hcur]) (fun v hv => by obtain ⟨y, _, rfl⟩ := List.mem_map.1 hv; exact h1 y)
    have e : (cur.toList.take 0 ++ (xs.map enc ++ cur.toList.drop (0 + (xs.map enc).length))) = xs.map enc := by
      have : cur.toList.drop (0 + (xs.map enc).length) = [] := List.drop_eq_nil_of_le (by simp [hl, hcur])
      rw [this]; simp
    rw [hrun]
    simp only [← List.append_assoc] at e ⊢
    simp only [List.append_assoc] at e ⊢
    rw [e, List.length_map, hl]
    rfl
/-- a block known whole is an owned row -/
theorem Blk.ow {α : Type} {enc : α → Value} {w : World} {g : Nat} {e : TypeId} {cs : Array Value} {xs : List α} {n lo : Nat} (h : Blk w g e cs) (hcs : cs = (xs.map enc).toArray) (hn : xs.length = n) (hlo : lo ≤ g) (hm : n ≤ maxLen) : Ow enc w lo e (some ⟨g, 0, none⟩) n n xs := by
  subst hcs
  refine ⟨hn, by simp [hn], .inr ⟨g, n, (xs.map enc).toArray, rfl, hlo, h, Nat.le_refl _, hm, by simp [hn], ?_⟩⟩
  simp [hn, List.take_of_length_le]
theorem Sl.setRow' {α : Type} {enc : α → Value} {d : α} {w : World} {lo hi : Nat} {A : Option Addr} {n : Nat} {xs : List α} (h : Sl enc d w lo hi A n xs) {g : Nat} (hg : hi ≤ g) (cs : Array Value) : Sl enc d (w.setRow g cs) lo hi A n xs := h.setRow (.inr hg) cs
theorem Sl.sub {α : Type} {enc : α → Value} {d : α} {w : World} {lo hi b off n : Nat} {xs : List α} (h : Sl enc d w lo hi (some ⟨b, off, none⟩) n xs) {i k : Nat} (hik : i + k ≤ n) : Sl enc d w lo hi (some ⟨b, off + i, none⟩) k ((xs.drop i).take k) := by
  refine ⟨by have := h.len; simp; omega, fun hn => ?_⟩
  obtain ⟨b', off', e, h1, h2, h3⟩ := h.row (by omega)
  obtain ⟨rfl, rfl⟩ : b = b' ∧ off = off' := by simpa using e
  refine ⟨b, off + i, rfl, h1, h2, fun j hj => ?_⟩
  rw [Nat.add_assoc, h3 (i + j) (by omega), List.getElem?_take, if_pos hj, List.getElem?_drop]
/-- a row whose places i .. i+k-1 hold v -/
def setR {α : Type} (xs : List α) (i : Nat) (v : α) : Nat → List α
  | 0 => xs
  | k + 1 => (setR xs i v k).set (i + k) v
theorem Ow.far {α : Type} {enc : α → Value} {W : World} {lo : Nat} {e : TypeId} {ga n c : Nat} {xs : List α} (h : Ow enc W lo e (some ⟨ga, 0, none⟩) n c xs) {p : Addr} (hp : ga ≠ p.block) (u : Value) : Ow enc (W.setCell p u) lo e (some ⟨ga, 0, none⟩) n c xs := by
  refine ⟨h.len, h.own.1, ?_⟩
  rcases h.own.2 with ⟨hv, _⟩ | ⟨g, cap, cur, hv, hb1, hgg, r⟩
  · simp at hv
  · simp only [Value.slice.injEq, Option.some.injEq, Addr.mk.injEq] at hv
    obtain ⟨⟨rfl, _⟩, _⟩ := hv
    exact .inr ⟨ga, cap, cur, by simp_all, hb1, (Below.heap_setCell W p u ga hp).trans hgg, r⟩
end Go.Proofs.Ytnkaajkdjbdpaaa

/- General words, seventh part: an append onto an owned row as one step of a region that draws its order. No condition. -/
namespace Go.Proofs.Ytnkaajkdjbdpaaa
open Go.RowKit
/-- the run of an append onto an owned row -/
theorem run_app {P : Program} {α : Type} (enc : α → Value) (d : α) (w : World) (t ty : TypeId)
    (base : Nat) (e : TypeId) (i : TypeInfo) (z : Value) (bytes : Nat) (ht : P.underlying t = some (.slice e)) (hi : P.info? e = some i) (hz : i.zero = some z)
    (hsize : i.size = 1) (hby : i.bytes = bytes) (hzs : z.cells.size = 1)
    (A0 : Option Addr) (n c0 : Nat) (xs : List α) (hown : Ow enc w base e A0 n c0 xs)
    (lo hi' : Nat) (A : Option Addr) (m c : Nat) (ys : List α) (hr : Sl enc d w lo hi' A m ys) (h1 : ∀ y, (enc y).oneCell' = true)
    (h63 : n + m ≤ maxLen) (hbytes : (n + m) * bytes ≤ 140737488355328) (hbase : base ≤ w.heap.size) :
    ∃ A' c' w', (Builtin.append_ #[t, t] ty #[.slice A0 n c0, .slice A m c]).run P w = .ok (.slice A' (n + m) c') w' ∧ Ow enc w' base e A' (n + m) c' (xs ++ ys) ∧ w.grownBy w' (Value.slice A0 n c0).ownBlock ∧ ((Value.slice A' (n + m) c').ownBlock = (Value.slice A0 n c0).ownBlock ∨ (Value.slice A' (n + m) c').ownBlock = some w.heap.size) := by
  have hform : ∀ (v' : Value) (w' : World), w'.ownsRow base e 1 v' (n + m) ((xs ++ ys).map enc) → ∃ (A' : Option Addr) (c' : Nat), v' = Value.slice A' (n + m) c' := by
    intro v' w' ho
    rcases ho.2 with ⟨rfl, h0⟩ | ⟨g, cap, cur, rfl, _⟩
    · rw [h0]; exact ⟨_, _, rfl⟩
    · exact ⟨_, _, rfl⟩
  rcases A with _ | ad
  · obtain ⟨rfl, rfl⟩ := hr.none_
    refine ⟨A0, c0, w, ?_, by simpa using hown, World.grownBy.refl w _, .inl rfl⟩
    rcases hown.own.2 with ⟨hv, h0⟩ | ⟨g, cap, cur, hv, _, _, hnc, _⟩
    · simp only [Value.slice.injEq] at hv
      obtain ⟨rfl, rfl, rfl⟩ := hv
      simp [Builtin.append_, run_underlying ht, sizeOf, typeInfo, hi, Builtin.lenOf, Builtin.firstCells]
    · simp only [Value.slice.injEq] at hv
      obtain ⟨rfl, _, rfl⟩ := hv
      simp [Builtin.append_, run_underlying ht, sizeOf, typeInfo, hi, Builtin.lenOf, Builtin.firstCells, hnc, storeCells]
  · have hnews : ∀ j u, (ys.map enc)[j]? = some u → w.cell? (ad.add j) = some u := by
      intro j u hu
      have hj : j < m := by have := (List.getElem?_eq_some_iff.1 hu).1; rw [List.length_map, hr.len] at this; exact this
      obtain ⟨b, off, he, _, _, hc⟩ := hr.row (by omega)
      obtain rfl := Option.some.inj he
      rw [Addr.add_lit, hc j hj, ← hu, List.getElem?_map, List.getElem?_eq_getElem (by rw [hr.len]; exact hj)]
      rfl
    obtain ⟨v', w', hrun, h2, h3, _, h5⟩ := run_append_own_at (P := P) w base t ty e i z 1 bytes ht hi hz hsize hby hzs (by omega) (.slice A0 n c0) n (xs.map enc) hown.own ad m c (ys.map enc) (by rw [List.length_map, hr.len, Nat.mul_one]) hnews
      (fun u hu => by obtain ⟨y, _, rfl⟩ := List.mem_map.1 hu; exact h1 y) h63 hbytes hbase
    rw [← List.map_append] at h2
    obtain ⟨A', c', rfl⟩ := hform v' w' h2
    exact ⟨A', c', w', hrun, ⟨by rw [List.length_append, hown.len, hr.len], h2⟩, h3, h5⟩
/-- as one step of a region that draws: go_region_held3's arms take it -/
theorem step_app {P : Program} {α : Type} (enc : α → Value) (d : α) (w : World) {ops : Array Oper} {o : Oper} {a : Act} {K : Act → World → Prop} {Q : Exit → Act → World → Prop} {E : Prop} (hg : o.guard = none) (s x : Operand) (t : TypeId)
    (hop : o.op = .call { callee := .builtin .append, args := #[s, x], argTypes := #[t, t] })
    (base : Nat) (e : TypeId) (i : TypeInfo) (z : Value) (bytes : Nat) (ht : P.underlying t = some (.slice e)) (hi : P.info? e = some i) (hz : i.zero = some z)
    (hsize : i.size = 1) (hby : i.bytes = bytes) (hzs : z.cells.size = 1)
    (A0 : Option Addr) (n c0 : Nat) (xs : List α) (hs : a.eval s = .slice A0 n c0) (hown : Ow enc w base e A0 n c0 xs)
    (lo hi' : Nat) (A : Option Addr) (m c : Nat) (ys : List α) (hx : a.eval x = .slice A m c) (hr : Sl enc d w lo hi' A m ys) (h1 : ∀ y, (enc y).oneCell' = true)
    (h63 : n + m ≤ maxLen) (hbytes : (n + m) * bytes ≤ 140737488355328) (hbase : base ≤ w.heap.size)
    (hK : ∀ A' c' w', Ow enc w' base e A' (n + m) c' (xs ++ ys) → w.grownBy w' (Value.slice A0 n c0).ownBlock → ((Value.slice A' (n + m) c').ownBlock = (Value.slice A0 n c0).ownBlock ∨ (Value.slice A' (n + m) c').ownBlock = some w.heap.size) →
      K (a.put o.dst (.slice A' (n + m) c')) w') :
    if Region.wanted o (yielded ops a.tmps) = true then Oper.wp P o a w K Q else E := by
  have hw : Region.wanted o (yielded ops a.tmps) = true := by simp [Region.wanted, hg]
  rw [if_pos hw]
  obtain ⟨A', c', w', hrun, k1, k2, k3⟩ := run_app enc d w t o.type base e i z bytes ht hi hz hsize hby hzs A0 n c0 xs hown lo hi' A m c ys hr h1 h63 hbytes hbase
  unfold Oper.wp
  simp [execOp, hop, resolve, invoke, builtin, hs, hx, hrun, Result.andThen]
  exact hK A' c' w' k1 k2 k3

/-- an append onto a row that has no room: a new row, whoever owns the old one -/
theorem run_appf {P : Program} {α : Type} (enc : α → Value) (d : α) (w : World) (t ty : TypeId)
    (e : TypeId) (i : TypeInfo) (z : Value) (bytes : Nat) (ht : P.underlying t = some (.slice e)) (hi : P.info? e = some i) (hz : i.zero = some z)
    (hsize : i.size = 1) (hby : i.bytes = bytes) (hzs : z.cells.size = 1)
    (lo0 hi0 : Nat) (A0 : Option Addr) (n c0 : Nat) (xs : List α) (h0 : Sl enc d w lo0 hi0 A0 n xs)
    (lo1 hi1 : Nat) (A : Option Addr) (m c : Nat) (ys : List α) (hr : Sl enc d w lo1 hi1 A m ys) (hm : 0 < m) (h1 : ∀ y, (enc y).oneCell' = true)
    (hfull : c0 < n + m) (h63 : n + m ≤ maxLen) (hcap : c0 ≤ n + m) (hbytes : (n + m) * bytes ≤ 70368744177664) (lo : Nat) (hlo : lo ≤ w.heap.size) :
    ∃ c' w', (Builtin.append_ #[t, t] ty #[.slice A0 n c0, .slice A m c]).run P w = .ok (.slice (some ⟨w.heap.size, 0, none⟩) (n + m) c') w' ∧ Ow enc w' lo e (some ⟨w.heap.size, 0, none⟩) (n + m) c' (xs ++ ys) ∧ Below w.heap.size w w' ∧ w'.heap.size = w.heap.size + 1 := by
  have hsize' : i.size = 1 := hsize
  subst hby
  obtain ⟨b, off, rfl, _, _, hc⟩ := hr.row hm
  have hold : (Builtin.firstCells i.size n (.slice A0 n c0)).run P w.drew = .ok (xs.map enc).toArray w.drew := by
    rcases Nat.eq_zero_or_pos n with hn | hn
    · subst hn
      have hx : xs = [] := List.eq_nil_of_length_eq_zero h0.len
      subst hx
      cases A0 <;> simp [Builtin.firstCells, loadCells, loadCellsFrom]
    · obtain ⟨b0, off0, rfl, _, _, hc0⟩ := h0.row hn
      refine run_firstCells_some w.drew i.size n _ n c0 (xs.map enc) (by rw [List.length_map, h0.len, hsize', Nat.mul_one]) ?_
      intro j u hu
      have hj : j < n := by have := (List.getElem?_eq_some_iff.1 hu).1; rw [List.length_map, h0.len] at this; exact this
      rw [Addr.add_lit]
      show w.cell? _ = _
      rw [hc0 j hj, ← hu, List.getElem?_map, List.getElem?_eq_getElem (by rw [h0.len]; exact hj)]
      rfl
  have hs : Src P i.size t (.slice (some ⟨b, off, none⟩) m c) m (ys.map enc) w := by
    refine Src.ofSlice w ht ⟨b, off, none⟩ m c (ys.map enc) (by rw [List.length_map, hr.len, hsize', Nat.mul_one]) ?_ (fun u hu => by obtain ⟨y, _, rfl⟩ := List.mem_map.1 hu; exact h1 y)
    intro j u hu
    have hj : j < m := by have := (List.getElem?_eq_some_iff.1 hu).1; rw [List.length_map, hr.len] at this; exact this
    rw [Addr.add_lit, hc j hj, ← hu, List.getElem?_map, List.getElem?_eq_getElem (by rw [hr.len]; exact hj)]
    rfl
  have hnc : Builtin.nextslicecap (n + m) c0 ≤ 2 * (n + m) := by
    unfold Builtin.nextslicecap
    split
    · omega
    split
    · omega
    · have : ∀ r k, k ≤ 2 * (n + m) → (k < n + m → k + (k + 768) / 4 ≤ 2 * (n + m)) → 256 ≤ k → Builtin.growBy (n + m) r k ≤ 2 * (n + m) := by
        intro r
        induction r with
        | zero => intro k h _ _; exact h
        | succ r ih =>
          intro k h h' h256
          unfold Builtin.growBy
          split
          · exact h
          · exact ih _ (h' (by omega)) (by omega) (by omega)
      exact this 4 c0 (by omega) (by omega) (by omega)
  have hrun := run_append_grow_src (P := P) (w := w) t t ty e i z ht hi hz A0 n c0 (xs.map enc) hold (.slice (some ⟨b, off, none⟩) m c) m (ys.map enc) hs hfull (by have := h63; simp only [maxLen] at this; omega)
    (Nat.le_trans (Nat.mul_le_mul_right _ hnc) (by rw [Nat.mul_assoc]; omega))
  have hge := grownCap_ge w (n + m) c0 e
  have hcm : grownCap w (n + m) c0 e ≤ maxLen := grownCap_le_maxLen w (n + m) c0 e h63
  have hlen : (xs.map enc ++ ys.map enc).length = n + m := by simp [h0.len, hr.len]
  refine ⟨_, _, hrun, ⟨by rw [List.length_append, h0.len, hr.len], ?_⟩, ?_, by simp⟩
  · refine ⟨by rw [List.length_map, List.length_append, h0.len, hr.len, Nat.mul_one], .inr ⟨w.heap.size, _, _, rfl, hlo, heap_alloc_new w.drew _, hge, hcm, ?_, ?_⟩⟩
    · simp only [Array.size_append, List.size_toArray, size_zeroCells, hzs, hlen]
      omega
    · simp only [Array.toList_append, List.map_append, Nat.mul_one]
      rw [← hlen]
      exact List.take_left
  · exact ((Below.refl _ w).drew).alloc (by simp) _
end Go.Proofs.Ytnkaajkdjbdpaaa

/- General words: rows of structures that are owned; appends onto them. No condition. -/
namespace Go.Proofs.Ytnkaajkdjbdpaaa
open Go.RowKit
def cellsOf {α : Type} (sz : Nat) (enc : α → Nat → Value) (x : α) : List Value := (List.range sz).map (enc x)
def flat {α : Type} (sz : Nat) (enc : α → Nat → Value) (xs : List α) : List Value := xs.flatMap (cellsOf sz enc)
theorem cellsOf_length {α : Type} (sz : Nat) (enc : α → Nat → Value) (x : α) : (cellsOf sz enc x).length = sz := by simp [cellsOf]
theorem flat_append {α : Type} (sz : Nat) (enc : α → Nat → Value) (xs ys : List α) : flat sz enc (xs ++ ys) = flat sz enc xs ++ flat sz enc ys := by simp [flat]
theorem flat_cons {α : Type} (sz : Nat) (enc : α → Nat → Value) (x : α) (xs : List α) : flat sz enc (x :: xs) = cellsOf sz enc x ++ flat sz enc xs := rfl
theorem flat_length {α : Type} (sz : Nat) (enc : α → Nat → Value) (xs : List α) : (flat sz enc xs).length = xs.length * sz := by
  induction xs with
  | nil => simp [flat]
  | cons x xs ih => rw [flat_cons, List.length_append, ih, cellsOf_length, List.length_cons, Nat.succ_mul, Nat.add_comm]
theorem flat_get {α : Type} {sz : Nat} {enc : α → Nat → Value} (d : α) : ∀ (xs : List α) (k j : Nat), k < xs.length → j < sz → (flat sz enc xs)[k * sz + j]? = some (enc (xs[k]?.getD d) j)
  | [], _, _, hk, _ => by simp at hk
  | x :: xs, 0, j, _, hj => by
    rw [flat_cons, List.getElem?_append_left (by rw [cellsOf_length]; omega)]
    simp [cellsOf, hj]
  | x :: xs, k + 1, j, hk, hj => by
    have e : (k + 1) * sz + j = sz + (k * sz + j) := by rw [Nat.succ_mul]; omega
    rw [flat_cons, e, List.getElem?_append_right (by rw [cellsOf_length]; omega), cellsOf_length, Nat.add_sub_cancel_left, flat_get d xs k j (by simpa using hk) hj]
    rfl
theorem flat_idx {sz n j : Nat} (hj : j < n * sz) : ∃ k i, k < n ∧ i < sz ∧ j = k * sz + i := by
  have hsz : 0 < sz := by
    rcases Nat.eq_zero_or_pos sz with h | h
    · subst h; simp at hj
    · exact h
  refine ⟨j / sz, j % sz, Nat.div_lt_of_lt_mul (by rwa [Nat.mul_comm]), Nat.mod_lt _ hsz, ?_⟩
  have := Nat.div_add_mod j sz
  rw [Nat.mul_comm] at this
  omega
/-- a row of structures that is owned -/
structure Om {α : Type} (sz : Nat) (enc : α → Nat → Value) (w : World) (lo : Nat) (e : TypeId) (A : Option Addr) (n c : Nat) (xs : List α) : Prop where
  len : xs.length = n
  own : w.ownsRow lo e sz (.slice A n c) n (flat sz enc xs)
section
variable {α : Type} {sz : Nat} {enc : α → Nat → Value} {d : α} {w w' : World} {lo lo' B : Nat} {e : TypeId} {A : Option Addr} {n c : Nat} {xs : List α}
theorem Om.cap (h : Om sz enc w lo e A n c xs) : n ≤ c ∧ c ≤ maxLen := by
  rcases h.own.2 with ⟨hv, h0⟩ | ⟨g, cap, cur, hv, _, _, h1, h2, _⟩
  · simp only [Value.slice.injEq] at hv; obtain ⟨_, rfl, rfl⟩ := hv; exact ⟨Nat.le_refl _, by simp [maxLen]⟩
  · simp only [Value.slice.injEq] at hv; obtain ⟨_, _, rfl⟩ := hv; exact ⟨h1, h2⟩
theorem Om.sm (h : Om sz enc w lo e A n c xs) : Sm sz enc d w lo w.heap.size A n xs := by
  refine ⟨h.len, fun hn => ?_⟩
  obtain ⟨g, cap, hv, hlo, hhi⟩ := h.own.form hn
  simp only [Value.slice.injEq] at hv
  obtain ⟨rfl, _, rfl⟩ := hv
  refine ⟨g, 0, rfl, hlo, hhi, fun k hk j hj => ?_⟩
  have hkj : k * sz + j < n * sz := by
    have : (k + 1) * sz ≤ n * sz := Nat.mul_le_mul_right _ hk
    rw [Nat.succ_mul] at this; omega
  rw [Nat.zero_add, h.own.cellAt _ hkj, flat_get d xs k j (by rw [h.len]; exact hk) hj]
theorem Om.nil (w : World) (lo : Nat) (e : TypeId) : Om sz enc w lo e none 0 0 [] := ⟨rfl, World.ownsRow_nil w lo e sz⟩
theorem Om.below (h : Om sz enc w lo e A n c xs) (hb : Below w.heap.size w w') : Om sz enc w' lo e A n c xs := by
  refine ⟨h.len, h.own.1, ?_⟩
  rcases h.own.2 with hh | ⟨g, cap, cur, hv, hb1, hg, r⟩
  · exact .inl hh
  · exact .inr ⟨g, cap, cur, hv, hb1, (hb.block g (Array.getElem?_eq_some_iff.1 hg).1).trans hg, r⟩
theorem Om.step (h : Om sz enc w lo e A n c xs) (hb : Below w.heap.size w w') : Om sz enc w' lo e A n c xs := h.below hb
theorem Om.mono (h : Om sz enc w lo e A n c xs) (h1 : lo' ≤ lo) : Om sz enc w lo' e A n c xs := by
  refine ⟨h.len, h.own.1, ?_⟩
  rcases h.own.2 with hh | ⟨g, cap, cur, hv, hb1, r⟩
  · exact .inl hh
  · exact .inr ⟨g, cap, cur, hv, by omega, r⟩
theorem Om.alloc (h : Om sz enc w lo e A n c xs) (o : Obj) : Om sz enc (w.alloc o) lo e A n c xs := ⟨h.len, h.own.alloc o⟩
theorem Om.drewN (h : Om sz enc w lo e A n c xs) (k : Nat) : Om sz enc (w.drewN k) lo e A n c xs := ⟨h.len, h.own⟩
theorem Om.drew (h : Om sz enc w lo e A n c xs) : Om sz enc w.drew lo e A n c xs := ⟨h.len, h.own⟩
theorem Om.setCell (h : Om sz enc w lo e A n c xs) {p : Addr} (hp : p.block < lo) (u : Value) : Om sz enc (w.setCell p u) lo e A n c xs := ⟨h.len, ownsRow_setCell_below h.own hp u⟩
theorem Om.row_ge (h : Om sz enc w lo e A n c xs) : ∀ k, (Value.slice A n c).ownBlock = some k → lo ≤ k := fun k hk => (h.own.lt k hk).1
theorem Om.ne_row (h : Om sz enc w lo e A n c xs) {g : Nat} (hg : g < lo) : some g ≠ (Value.slice A n c).ownBlock := fun he => by
  have := h.row_ge g he.symm; omega
end
/-- the run of an append onto an owned row of structures -/
theorem run_appm {P : Program} {α : Type} (sz : Nat) (enc : α → Nat → Value) (d : α) (w : World) (t ty : TypeId)
    (base : Nat) (e : TypeId) (i : TypeInfo) (z : Value) (bytes : Nat) (ht : P.underlying t = some (.slice e)) (hi : P.info? e = some i) (hz : i.zero = some z)
    (hsize : i.size = sz) (hby : i.bytes = bytes) (hzs : z.cells.size = sz) (hsz : 0 < sz)
    (A0 : Option Addr) (n c0 : Nat) (xs : List α) (hown : Om sz enc w base e A0 n c0 xs)
    (lo hi' : Nat) (A : Option Addr) (m c : Nat) (ys : List α) (hr : Sm sz enc d w lo hi' A m ys) (h1 : ∀ y j, j < sz → (enc y j).oneCell' = true)
    (h63 : n + m ≤ maxLen) (hbytes : (n + m) * bytes ≤ 140737488355328) (hbase : base ≤ w.heap.size) :
    ∃ A' c' w', (Builtin.append_ #[t, t] ty #[.slice A0 n c0, .slice A m c]).run P w = .ok (.slice A' (n + m) c') w' ∧ Om sz enc w' base e A' (n + m) c' (xs ++ ys) ∧ w.grownBy w' (Value.slice A0 n c0).ownBlock ∧ ((Value.slice A' (n + m) c').ownBlock = (Value.slice A0 n c0).ownBlock ∨ (Value.slice A' (n + m) c').ownBlock = some w.heap.size) := by
  have hform : ∀ (v' : Value) (w' : World), w'.ownsRow base e sz v' (n + m) (flat sz enc (xs ++ ys)) → ∃ (A' : Option Addr) (c' : Nat), v' = Value.slice A' (n + m) c' := by
    intro v' w' ho
    rcases ho.2 with ⟨rfl, h0⟩ | ⟨g, cap, cur, rfl, _⟩
    · rw [h0]; exact ⟨_, _, rfl⟩
    · exact ⟨_, _, rfl⟩
  by_cases hm : m = 0
  · subst hm
    obtain rfl : ys = [] := List.eq_nil_of_length_eq_zero hr.len
    refine ⟨A0, c0, w, ?_, by simpa using hown, World.grownBy.refl w _, .inl rfl⟩
    rcases hown.own.2 with ⟨hv, h0⟩ | ⟨g, cap, cur, hv, _, _, hnc, _⟩
    · simp only [Value.slice.injEq] at hv
      obtain ⟨rfl, rfl, rfl⟩ := hv
      cases A <;> simp [Builtin.append_, run_underlying ht, sizeOf, typeInfo, hi, Builtin.lenOf, Builtin.firstCells, loadCells, loadCellsFrom]
    · simp only [Value.slice.injEq] at hv
      obtain ⟨rfl, _, rfl⟩ := hv
      cases A <;> simp [Builtin.append_, run_underlying ht, sizeOf, typeInfo, hi, Builtin.lenOf, Builtin.firstCells, hnc, storeCells, loadCells, loadCellsFrom]
  · obtain ⟨b, off, rfl, _, _, hc⟩ := hr.row (by omega)
    have hnews : ∀ j u, (flat sz enc ys)[j]? = some u → w.cell? ((⟨b, off, none⟩ : Addr).add j) = some u := by
      intro j u hu
      have hj : j < m * sz := by have := (List.getElem?_eq_some_iff.1 hu).1; rwa [flat_length, hr.len] at this
      obtain ⟨k, i, hk, hi2, rfl⟩ := flat_idx hj
      rw [flat_get d ys k i (by rw [hr.len]; exact hk) hi2] at hu
      rw [Addr.add_lit, ← hu, ← hc k hk i hi2, Nat.add_assoc]
    obtain ⟨v', w', hrun, h2, h3, _, h5⟩ := run_append_own_at (P := P) w base t ty e i z sz bytes ht hi hz hsize hby hzs hsz (.slice A0 n c0) n (flat sz enc xs) hown.own ⟨b, off, none⟩ m c (flat sz enc ys) (by rw [flat_length, hr.len]) hnews
      (fun u hu => by
        obtain ⟨j, hj, rfl⟩ := List.getElem_of_mem hu
        have hj' : j < m * sz := by rwa [flat_length, hr.len] at hj
        obtain ⟨k, i, hk, hi2, rfl⟩ := flat_idx hj'
        have := flat_get (enc := enc) d ys k i (by rw [hr.len]; exact hk) hi2
        rw [List.getElem?_eq_getElem hj] at this
        rw [Option.some.inj this]
        exact h1 _ _ hi2) h63 hbytes hbase
    rw [← flat_append] at h2
    obtain ⟨A', c', rfl⟩ := hform v' w' h2
    exact ⟨A', c', w', hrun, ⟨by rw [List.length_append, hown.len, hr.len], h2⟩, h3, h5⟩
theorem wpList_appm {P : Program} {α : Type} (sz : Nat) (enc : α → Nat → Value) (d : α) (w : World) {ops : Array Oper} {rest : List Oper} {o : Oper} {a : Act} {Q : Exit → Act → World → Prop} (hgd : o.guard = none) (s x : Operand) (t : TypeId)
    (ho : o.op = .call { callee := .builtin .append, args := #[s, x], argTypes := #[t, t] })
    (base : Nat) (e : TypeId) (i : TypeInfo) (z : Value) (bytes : Nat) (ht : P.underlying t = some (.slice e)) (hi : P.info? e = some i) (hz : i.zero = some z)
    (hsize : i.size = sz) (hby : i.bytes = bytes) (hzs : z.cells.size = sz) (hsz : 0 < sz)
    (A0 : Option Addr) (n c0 : Nat) (xs : List α) (hs : a.eval s = .slice A0 n c0) (hown : Om sz enc w base e A0 n c0 xs)
    (lo hi' : Nat) (A : Option Addr) (m c : Nat) (ys : List α) (hx : a.eval x = .slice A m c) (hr : Sm sz enc d w lo hi' A m ys) (h1 : ∀ y j, j < sz → (enc y j).oneCell' = true)
    (h63 : n + m ≤ maxLen) (hbytes : (n + m) * bytes ≤ 140737488355328) (hbase : base ≤ w.heap.size)
    (h : ∀ A' c' w', Om sz enc w' base e A' (n + m) c' (xs ++ ys) → w.grownBy w' (Value.slice A0 n c0).ownBlock → ((Value.slice A' (n + m) c').ownBlock = (Value.slice A0 n c0).ownBlock ∨ (Value.slice A' (n + m) c').ownBlock = some w.heap.size) →
      wpList P ops Q rest (a.put o.dst (.slice A' (n + m) c')) w') :
    wpList P ops Q (o :: rest) a w := by
  refine wpList_plain hgd fun K hK => ?_
  obtain ⟨A', c', w', hrun, k1, k2, k3⟩ := run_appm sz enc d w t o.type base e i z bytes ht hi hz hsize hby hzs hsz A0 n c0 xs hown lo hi' A m c ys hr h1 h63 hbytes hbase
  unfold Oper.wp
  simp [execOp, ho, resolve, invoke, builtin, hs, hx, hrun, Result.andThen]
  exact hK _ _ (h A' c' w' k1 k2 k3)
end Go.Proofs.Ytnkaajkdjbdpaaa

/- General words: a region that draws its order, whose last operations come one behind the other (stores); ahead of them loads may be taken first. No condition. -/
namespace Go.Proofs.Ytnkaajkdjbdpaaa
open Go.RowKit
section
variable {P : Program} {ops : Array Oper} {Q : Exit → Act → World → Prop} {md : Region.Mode} {S : World → Prop} {n : Nat} {T : Array Bool → Act → World → Prop}
/-- the first operations, in whatever order; behind each S; behind all of them T -/
def wpAnyT (P : Program) (md : Region.Mode) (ops : Array Oper) (Q : Exit → Act → World → Prop) (S : World → Prop) (n : Nat) (T : Array Bool → Act → World → Prop) : Nat → Array Bool → Act → World → Prop
  | 0, listed, a, w => T listed a w
  | f + 1, listed, a, w => Region.ready md ops listed ≠ [] ∧ ∀ i ∈ Region.ready md ops listed, i < n ∧ wpOp P ops Q i (fun a' w' => S w' ∧ wpAnyT P md ops Q S n T f (listed.setIfInBounds i true) a' w') a w
theorem wpAny_of_T {g : Nat} (hT : ∀ listed a w, T listed a w → wpAny P md ops Q g listed a w) : ∀ (f : Nat) (listed : Array Bool) (a : Act) (w : World), wpAnyT P md ops Q S n T f listed a w → wpAny P md ops Q (f + g) listed a w
  | 0, listed, a, w, h => by rw [Nat.zero_add]; exact hT _ _ _ h
  | f + 1, listed, a, w, h => by
    rw [show f + 1 + g = (f + g) + 1 by omega]
    exact ⟨fun h0 => absurd h0 h.1, fun i hi => wpOp_mono (fun a' w' h' => wpAny_of_T hT f _ a' w' h'.2) (h.2 i hi).2⟩
theorem wpAnyT_first {i : Nat} {oi : Oper} {v : Value} (hi : ops[i]? = some oi) (hsel : ∀ (j : Nat) (o : Oper) cs b, ops[j]? = some o → o.op ≠ .select cs b)
    (hQ : ∀ c a w, Q (.panic c) (a.put oi.dst v) w → Q (.panic c) a w)
    (hs : Region.sinkB md ops n = true) (hc : Region.chainB md ops n = true) (hn : n < ops.size) (hin : i < n)
    (hdone : ∀ listed a w, T listed a w → ∀ j ∈ Region.ready md ops listed, n ≤ j) :
    ∀ (f : Nat) (listed : Array Bool) (a : Act) (w : World), HeadInv md ops n listed →
      (∀ j oj, ops[j]? = some oj → j ≠ i → listed.getD j true = false → (∀ e ∈ oj.after, Region.binds md e = true → e.on ≠ i) → oi.apart ops oj = true) →
      i ∈ Region.ready md ops listed → YieldsIf P ops S oi v a → S w →
      wpAnyT P md ops Q S n T f (listed.setIfInBounds i true) (a.put oi.dst v) w → wpAnyT P md ops Q S n T (f + 1) listed a w := by
  intro f
  induction f with
  | zero =>
    intro listed a w inv _ hr hy hS H
    have hun := (mem_ready.1 hr).1
    refine ⟨fun h => (by rw [h] at hr; cases hr), fun j hj => ?_⟩
    have hjn : j < n := by
      rcases Nat.lt_or_ge j n with h | h
      · exact h
      · exact absurd hj (tail_waits hs hc hn inv _ i rfl hin hun j h)
    refine ⟨hjn, ?_⟩
    by_cases hji : j = i
    · subst hji; exact hy.wpOp hi hS ⟨hS, H⟩
    · have := hdone _ _ _ H j (ready_mono hj hji)
      omega
  | succ f ih =>
    intro listed a w inv hfree hr hy hS H
    have hun := (mem_ready.1 hr).1
    refine ⟨fun h => (by rw [h] at hr; cases hr), fun j hj => ?_⟩
    have hjn : j < n := by
      rcases Nat.lt_or_ge j n with h | h
      · exact h
      · exact absurd hj (tail_waits hs hc hn inv _ i rfl hin hun j h)
    refine ⟨hjn, ?_⟩
    by_cases hji : j = i
    · subst hji; exact hy.wpOp hi hS ⟨hS, H⟩
    · have h1 := (H.2 j (ready_mono hj hji)).2
      obtain ⟨hjun, oj, hoj, hall⟩ := mem_ready.1 hj
      have hnot : ∀ e ∈ oj.after, Region.binds md e = true → e.on ≠ i := fun e he hb heq => by
        have h1 := hall e he hb
        rw [heq, getD_both hun] at h1
        cases h1
      have h2 := wpOp_putIf hoj (hfree j oj hoj hji hjun hnot) (fun cs b => hsel i oi cs b hi) (fun cs b => hsel j oj cs b hoj) hQ hy h1
      have hfree' : ∀ k ok, ops[k]? = some ok → k ≠ i → (listed.setIfInBounds j true).getD k true = false →
          (∀ e ∈ ok.after, Region.binds md e = true → e.on ≠ i) → oi.apart ops ok = true := fun k ok hk hki hun hno => by
        refine hfree k ok hk hki ?_ hno
        by_cases hjk : j = k
        · subst hjk; exact hjun
        · rw [getD_set_ne true hjk] at hun; exact hun
      refine wpOp_mono (fun a' w' h3 => ⟨h3.2.1, ih (listed.setIfInBounds j true) a' w' (inv.set hj hjn) hfree' (ready_mono hr (Ne.symm hji)) h3.1 h3.2.1 ?_⟩) h2
      rw [Array.setIfInBounds_comm _ _ hji]
      exact h3.2.2
def headInvB (md : Region.Mode) (ops : Array Oper) (n : Nat) (listed : Array Bool) : Bool :=
  decide (listed.size = ops.size) && ((List.range ops.size).all fun j => !listed.getD j false || ((ops[j]?).map (·.after.all fun e => !Region.binds md e || listed.getD e.on false)).getD true) && ((List.range ops.size).all fun t => decide (t < n) || !listed.getD t true)
theorem headInvB_spec {listed : Array Bool} (h : headInvB md ops n listed = true) : HeadInv md ops n listed := by
  unfold headInvB at h
  simp only [Bool.and_eq_true, decide_eq_true_eq] at h
  obtain ⟨⟨h1, h2⟩, h3⟩ := h
  refine ⟨h1, fun j oj hj hl e he hb => ?_, fun t ht htl => ?_⟩
  · have hjl : j < ops.size := (Array.getElem?_eq_some_iff.1 hj).1
    have := List.all_eq_true.1 h2 j (List.mem_range.2 hjl)
    rw [hl, hj] at this
    simp only [Bool.not_true, Bool.false_or, Option.map_some, Option.getD_some] at this
    have := Array.all_eq_true'.1 this e he
    rw [hb] at this
    simpa using this
  · have := List.all_eq_true.1 h3 t (List.mem_range.2 htl)
    simp only [Bool.or_eq_true, decide_eq_true_eq, Bool.not_eq_true'] at this
    rcases this with h | h
    · omega
    · exact h
/-- what the walk ends at: the last operations, one behind the other -/
def TailOf (P : Program) (Q : Exit → Act → World → Prop) (l : List Oper) (n : Nat) (listed : Array Bool) (a : Act) (w : World) : Prop :=
  Region.seqB .any l.toArray (l.length - n) n listed = true ∧ wpList P l.toArray Q (l.drop n) a w
def tailB (l : List Oper) (n : Nat) : Bool := Region.noSelect l.toArray && decide (n < l.length) && Region.sinkB .any l.toArray n && Region.chainB .any l.toArray n
theorem wpAnyT_take {l : List Oper} {i : Nat} {oi : Oper} {v : Value} {f : Nat} {listed : Array Bool} {a : Act} {w : World} (hB : tailB l n = true) (hi : l.toArray[i]? = some oi)
    (hb : (decide (i < n) && headInvB .any l.toArray n listed && Region.free .any l.toArray listed i && (Region.ready .any l.toArray listed).contains i) = true)
    (hQ : ∀ c a w, Q (.panic c) (a.put oi.dst v) w → Q (.panic c) a w) (hy : YieldsIf P l.toArray S oi v a) (hS : S w)
    (h : wpAnyT P .any l.toArray Q S n (TailOf P Q l n) f (listed.setIfInBounds i true) (a.put oi.dst v) w) : wpAnyT P .any l.toArray Q S n (TailOf P Q l n) (f + 1) listed a w := by
  simp only [tailB, Bool.and_eq_true, decide_eq_true_eq] at hB hb
  obtain ⟨⟨⟨hsel, hn⟩, hs⟩, hc⟩ := hB
  obtain ⟨⟨⟨hin, hinv⟩, hf⟩, hr⟩ := hb
  exact wpAnyT_first hi (Region.noSelect_spec hsel) hQ hs hc (by simpa using hn) hin (fun listed' a' w' hL => seqB_ready hL.1) f listed a w (headInvB_spec hinv) (Region.free_spec hi hf) (by simpa using hr) hy hS h
/-- each of these comes up next -/
def AllReadyT (P : Program) (ops : Array Oper) (Q : Exit → Act → World → Prop) (S : World → Prop) (n : Nat) (T : Array Bool → Act → World → Prop) (f : Nat) (listed : Array Bool) (a : Act) (w : World) (rs : List Nat) : Prop :=
  ∀ i ∈ rs, i < n ∧ wpOp P ops Q i (fun a' w' => S w' ∧ wpAnyT P .any ops Q S n T f (listed.setIfInBounds i true) a' w') a w
theorem AllReadyT.nil {f : Nat} {listed : Array Bool} {a : Act} {w : World} : AllReadyT P ops Q S n T f listed a w [] := fun _ h => by cases h
theorem AllReadyT.cons {f : Nat} {listed : Array Bool} {a : Act} {w : World} {i : Nat} {o : Oper} {rs : List Nat} (ho : ops[i]? = some o) (hin : decide (i < n) = true)
    (h : ∀ K' : Act → World → Prop, Shut (∀ a w, S w → wpAnyT P .any ops Q S n T f (listed.setIfInBounds i true) a w → K' a w) → if Region.wanted o (yielded ops a.tmps) = true then Oper.wp P o a w K' Q else K' (a.put o.dst undef) w)
    (hs : AllReadyT P ops Q S n T f listed a w rs) : AllReadyT P ops Q S n T f listed a w (i :: rs) := fun j hj => by
  rcases List.mem_cons.1 hj with rfl | hj
  · exact ⟨of_decide_eq_true hin, wpOp_step ho (fun K' hK => h K' (fun a w hS hW => hK a w ⟨hS, hW⟩))⟩
  · exact hs j hj
theorem wpAnyT_ready {f : Nat} {listed : Array Bool} {a : Act} {w : World} (rs : List Nat) (hr : Region.ready .any ops listed = rs) (hne : rs ≠ []) (h : AllReadyT P ops Q S n T f listed a w rs) : wpAnyT P .any ops Q S n T (f + 1) listed a w :=
  ⟨by rw [hr]; exact hne, by rw [hr]; exact h⟩
theorem wpAnyT_done {l : List Oper} {listed : Array Bool} {a : Act} {w : World} (hb : Region.seqB .any l.toArray (l.length - n) n listed = true) (h : wpList P l.toArray Q (l.drop n) a w) : wpAnyT P .any l.toArray Q S n (TailOf P Q l n) 0 listed a w := ⟨hb, h⟩
theorem wp_region_held_tail {id : Nat} {l : List Oper} {a : Act} {w : World} (n : Nat) (S : World → Prop) (L0 : Array Bool) (hm : P.follows .mixedOrders = true) (hS : S w.drew)
    (hn : decide (n ≤ l.length) = true) (hL0 : Array.replicate l.length false = L0) (h : S w.drew → wpAnyT P .any l.toArray Q S n (TailOf P Q l n) n L0 a w.drew) : (Code.region id l.toArray true).wp P Q a w := by
  subst hL0
  refine wp_region_any hm ?_
  have hn' := of_decide_eq_true hn
  have := wpAny_of_T (Q := Q) (g := l.length - n) (fun listed a' w' (hL : TailOf P Q l n listed a' w') => by
    have := wpAny_of_seq (md := .any) (Q' := Q) (l.drop n) n listed a' w' (fun j => by simp [List.getElem?_drop]) (by rw [List.length_drop]; exact hL.1) hL.2
    rwa [List.length_drop] at this) _ _ _ _ (h hS)
  rw [show n + (l.length - n) = l.length by omega] at this
  simpa using this
end
end Go.Proofs.Ytnkaajkdjbdpaaa

/- General words: owned rows, and blocks of another type. No condition. -/
namespace Go.Proofs.Ytnkaajkdjbdpaaa
open Go.RowKit
section
variable {α : Type} {enc : α → Value} {w w' : World} {lo : Nat} {e : TypeId} {A : Option Addr} {n c : Nat} {xs : List α}
theorem Ow.blk (h : Ow enc w lo e A n c xs) : ∀ a, A = some a → lo ≤ a.block ∧ ∃ cs, Blk w a.block e cs := by
  intro a ha
  rcases h.own.2 with ⟨hv, h0⟩ | ⟨g, cap, cur, hv, hb1, hg, r⟩
  · simp only [Value.slice.injEq] at hv; obtain ⟨rfl, _⟩ := hv; cases ha
  · simp only [Value.slice.injEq] at hv; obtain ⟨rfl, _⟩ := hv; cases ha; exact ⟨hb1, cur, hg⟩
theorem Ow.ne_blk (h : Ow enc w lo e A n c xs) {g : Nat} {t : TypeId} {cs : Array Value} (hb : Blk w g t cs) (hne : t ≠ e) : ∀ a, A = some a → a.block ≠ g := by
  rintro a ha rfl
  obtain ⟨_, cs', h'⟩ := h.blk a ha
  unfold Blk at hb h'
  rw [hb] at h'
  simp only [Option.some.injEq, Obj.cells.injEq] at h'
  exact hne h'.2.1
/-- the row's block alone matters -/
theorem Ow.same (h : Ow enc w lo e A n c xs) (hs : ∀ a, A = some a → w'.heap[a.block]? = w.heap[a.block]?) : Ow enc w' lo e A n c xs := by
  refine ⟨h.len, h.own.1, ?_⟩
  rcases h.own.2 with hh | ⟨g, cap, cur, hv, hb1, hg, r⟩
  · exact .inl hh
  · refine .inr ⟨g, cap, cur, hv, hb1, ?_, r⟩
    simp only [Value.slice.injEq] at hv
    exact (hs ⟨g, 0, none⟩ hv.1).trans hg
theorem Ow.keptG {row : Option Nat} (h : Ow enc w lo e A n c xs) (hg : w.grownBy w' row) (hr : ∀ a, A = some a → some a.block ≠ row) : Ow enc w' lo e A n c xs :=
  h.same fun a ha => by
    obtain ⟨_, cs, hb⟩ := h.blk a ha
    exact hg.block _ hb.lt (hr a ha)
end
section
variable {α : Type} {sz : Nat} {enc : α → Nat → Value} {w w' : World} {lo : Nat} {e : TypeId} {A : Option Addr} {n c : Nat} {xs : List α}
theorem Om.blk (h : Om sz enc w lo e A n c xs) : ∀ a, A = some a → lo ≤ a.block ∧ ∃ cs, Blk w a.block e cs := by
  intro a ha
  rcases h.own.2 with ⟨hv, h0⟩ | ⟨g, cap, cur, hv, hb1, hg, r⟩
  · simp only [Value.slice.injEq] at hv; obtain ⟨rfl, _⟩ := hv; cases ha
  · simp only [Value.slice.injEq] at hv; obtain ⟨rfl, _⟩ := hv; cases ha; exact ⟨hb1, cur, hg⟩
theorem Om.ne_blk (h : Om sz enc w lo e A n c xs) {g : Nat} {t : TypeId} {cs : Array Value} (hb : Blk w g t cs) (hne : t ≠ e) : ∀ a, A = some a → a.block ≠ g := by
  rintro a ha rfl
  obtain ⟨_, cs', h'⟩ := h.blk a ha
  unfold Blk at hb h'
  rw [hb] at h'
  simp only [Option.some.injEq, Obj.cells.injEq] at h'
  exact hne h'.2.1
theorem Om.same (h : Om sz enc w lo e A n c xs) (hs : ∀ a, A = some a → w'.heap[a.block]? = w.heap[a.block]?) : Om sz enc w' lo e A n c xs := by
  refine ⟨h.len, h.own.1, ?_⟩
  rcases h.own.2 with hh | ⟨g, cap, cur, hv, hb1, hg, r⟩
  · exact .inl hh
  · refine .inr ⟨g, cap, cur, hv, hb1, ?_, r⟩
    simp only [Value.slice.injEq] at hv
    exact (hs ⟨g, 0, none⟩ hv.1).trans hg
theorem Om.keptG {row : Option Nat} (h : Om sz enc w lo e A n c xs) (hg : w.grownBy w' row) (hr : ∀ a, A = some a → some a.block ≠ row) : Om sz enc w' lo e A n c xs :=
  h.same fun a ha => by
    obtain ⟨_, cs, hb⟩ := h.blk a ha
    exact hg.block _ hb.lt (hr a ha)
theorem Om.at_ (h : Om sz enc w lo e A n c xs) (d : α) {k : Nat} (hk : k < n) : ∃ g, A = some ⟨g, 0, none⟩ ∧ lo ≤ g ∧ g < w.heap.size ∧ (∀ j, j < sz → w.cell? ⟨g, k * sz + j, none⟩ = some (enc (xs[k]?.getD d) j)) ∧ ∀ i, w.frozen? ⟨g, i, none⟩ = false := by
  obtain ⟨g, cap, hv, hlo, hhi⟩ := h.own.form (by omega)
  simp only [Value.slice.injEq] at hv
  obtain ⟨rfl, _, rfl⟩ := hv
  refine ⟨g, rfl, hlo, hhi, fun j hj => ?_, fun i => h.own.frozenAt i⟩
  have hkj : k * sz + j < n * sz := by
    have : (k + 1) * sz ≤ n * sz := Nat.mul_le_mul_right _ hk
    rw [Nat.succ_mul] at this; omega
  rw [h.own.cellAt _ hkj, flat_get d xs k j (by rw [h.len]; exact hk) hj]
end
/-- a block that is laid gives the world a name -/
theorem named_alloc {K : World → Prop} {W : World} {t : TypeId} {cs : Array Value} (h : ∀ Wn : World, Blk Wn W.heap.size t cs → Below W.heap.size W Wn → Wn.heap.size = W.heap.size + 1 → K Wn) : K (W.alloc (.cells cs t)) :=
  h _ (Blk.new W t cs) (below_box W _) (by simp)
theorem grown_set {W Wn : World} {g : Nat} (h : W.grownBy Wn (some g)) (k : Nat) (u : Value) : W.grownBy (Wn.setCell ⟨g, k, none⟩ u) (some g) :=
  ⟨h.os, h.tape, h.output, by simpa using h.size, fun i hi hne => (Below.heap_setCell Wn ⟨g, k, none⟩ u i (fun e => hne (by rw [e]))).trans (h.block i hi hne)⟩
theorem named_store2 {K : World → Prop} {W : World} {g : Nat} {t : TypeId} {a0 b0 a b : Value} (hb : Blk W g t #[a0, b0]) (h : ∀ Wn : World, Blk Wn g t #[a, b] → W.grownBy Wn (some g) → Wn.heap.size = W.heap.size → K Wn) : K ((W.setCell ⟨g, 0, none⟩ a).setCell ⟨g, 1, none⟩ b) :=
  h _ ((hb.setCell 0 a).setCell 1 b) (grown_set (grown_set (World.grownBy.refl W (some g)) 0 a) 1 b) (by simp)
theorem named_store3 {K : World → Prop} {W : World} {g : Nat} {t : TypeId} {a0 b0 c0 a b c : Value} (hb : Blk W g t #[a0, b0, c0]) (h : ∀ Wn : World, Blk Wn g t #[a, b, c] → W.grownBy Wn (some g) → Wn.heap.size = W.heap.size → K Wn) : K (((W.setCell ⟨g, 0, none⟩ a).setCell ⟨g, 1, none⟩ b).setCell ⟨g, 2, none⟩ c) :=
  h _ (((hb.setCell 0 a).setCell 1 b).setCell 2 c) (grown_set (grown_set (grown_set (World.grownBy.refl W (some g)) 0 a) 1 b) 2 c) (by simp)
end Go.Proofs.Ytnkaajkdjbdpaaa

/- General words: the cells of greater boxes. No condition. -/
namespace Go.Proofs.Ytnkaajkdjbdpaaa
open Go.RowKit
theorem Blk.cells6 {w : World} {g : Nat} {t : TypeId} {a0 a1 a2 a3 a4 a5 : Value} (h : Blk w g t #[a0, a1, a2, a3, a4, a5]) : w.cell? ⟨g, 0, none⟩ = some a0 ∧ w.cell? ⟨g, 1, none⟩ = some a1 ∧ w.cell? ⟨g, 2, none⟩ = some a2 ∧ w.cell? ⟨g, 3, none⟩ = some a3 ∧ w.cell? ⟨g, 4, none⟩ = some a4 ∧ w.cell? ⟨g, 5, none⟩ = some a5 ∧ ∀ i, w.frozen? ⟨g, i, none⟩ = false := ⟨h.cell 0, h.cell 1, h.cell 2, h.cell 3, h.cell 4, h.cell 5, h.frozen⟩
theorem Blk.cells7 {w : World} {g : Nat} {t : TypeId} {a0 a1 a2 a3 a4 a5 a6 : Value} (h : Blk w g t #[a0, a1, a2, a3, a4, a5, a6]) : w.cell? ⟨g, 0, none⟩ = some a0 ∧ w.cell? ⟨g, 1, none⟩ = some a1 ∧ w.cell? ⟨g, 2, none⟩ = some a2 ∧ w.cell? ⟨g, 3, none⟩ = some a3 ∧ w.cell? ⟨g, 4, none⟩ = some a4 ∧ w.cell? ⟨g, 5, none⟩ = some a5 ∧ w.cell? ⟨g, 6, none⟩ = some a6 ∧ ∀ i, w.frozen? ⟨g, i, none⟩ = false := ⟨h.cell 0, h.cell 1, h.cell 2, h.cell 3, h.cell 4, h.cell 5, h.cell 6, h.frozen⟩
theorem Blk.cells8 {w : World} {g : Nat} {t : TypeId} {a0 a1 a2 a3 a4 a5 a6 a7 : Value} (h : Blk w g t #[a0, a1, a2, a3, a4, a5, a6, a7]) : w.cell? ⟨g, 0, none⟩ = some a0 ∧ w.cell? ⟨g, 1, none⟩ = some a1 ∧ w.cell? ⟨g, 2, none⟩ = some a2 ∧ w.cell? ⟨g, 3, none⟩ = some a3 ∧ w.cell? ⟨g, 4, none⟩ = some a4 ∧ w.cell? ⟨g, 5, none⟩ = some a5 ∧ w.cell? ⟨g, 6, none⟩ = some a6 ∧ w.cell? ⟨g, 7, none⟩ = some a7 ∧ ∀ i, w.frozen? ⟨g, i, none⟩ = false := ⟨h.cell 0, h.cell 1, h.cell 2, h.cell 3, h.cell 4, h.cell 5, h.cell 6, h.cell 7, h.frozen⟩
theorem Blk.cells11 {w : World} {g : Nat} {t : TypeId} {a0 a1 a2 a3 a4 a5 a6 a7 a8 a9 a10 : Value} (h : Blk w g t #[a0, a1, a2, a3, a4, a5, a6, a7, a8, a9, a10]) : w.cell? ⟨g, 0, none⟩ = some a0 ∧ w.cell? ⟨g, 1, none⟩ = some a1 ∧ w.cell? ⟨g, 2, none⟩ = some a2 ∧ w.cell? ⟨g, 3, none⟩ = some a3 ∧ w.cell? ⟨g, 4, none⟩ = some a4 ∧ w.cell? ⟨g, 5, none⟩ = some a5 ∧ w.cell? ⟨g, 6, none⟩ = some a6 ∧ w.cell? ⟨g, 7, none⟩ = some a7 ∧ w.cell? ⟨g, 8, none⟩ = some a8 ∧ w.cell? ⟨g, 9, none⟩ = some a9 ∧ w.cell? ⟨g, 10, none⟩ = some a10 ∧ ∀ i, w.frozen? ⟨g, i, none⟩ = false := ⟨h.cell 0, h.cell 1, h.cell 2, h.cell 3, h.cell 4, h.cell 5, h.cell 6, h.cell 7, h.cell 8, h.cell 9, h.cell 10, h.frozen⟩
end Go.Proofs.Ytnkaajkdjbdpaaa

/- General words: an append onto an owned row as a guarded operation of a region. No condition. -/
namespace Go.Proofs.Ytnkaajkdjbdpaaa
open Go.RowKit
end Go.Proofs.Ytnkaajkdjbdpaaa

/- General words: stores into boxes, the new world named. No condition. -/
namespace Go.Proofs.Ytnkaajkdjbdpaaa
open Go.RowKit
/-- one cell is stored -/
theorem named_cell {K : World → Prop} {W : World} {g : Nat} {t : TypeId} {cs cs' : Array Value} (hb : Blk W g t cs) (k : Nat) (a : Value) (hc : cs.setIfInBounds k a = cs') (h : ∀ Wn : World, Blk Wn g t cs' → W.grownBy Wn (some g) → Wn.heap.size = W.heap.size → K Wn) : K (W.setCell ⟨g, k, none⟩ a) :=
  h _ (hc ▸ hb.setCell k a) (grown_set (World.grownBy.refl W (some g)) k a) (by simp)
theorem named_store_6_6_0 {K : World → Prop} {W : World} {g : Nat} {t : TypeId} {x0 x1 x2 x3 x4 x5 y0 y1 y2 y3 y4 y5 : Value} (hb : Blk W g t #[x0, x1, x2, x3, x4, x5]) (h : ∀ Wn : World, Blk Wn g t #[y0, y1, y2, y3, y4, y5] → W.grownBy Wn (some g) → Wn.heap.size = W.heap.size → K Wn) : K ((((((W.setCell ⟨g, 0, none⟩ y0).setCell ⟨g, 1, none⟩ y1).setCell ⟨g, 2, none⟩ y2).setCell ⟨g, 3, none⟩ y3).setCell ⟨g, 4, none⟩ y4).setCell ⟨g, 5, none⟩ y5) := by
  have b0 : Blk (W.setCell ⟨g, 0, none⟩ y0) g t #[y0, x1, x2, x3, x4, x5] := hb.setCell 0 y0
  have b1 : Blk ((W.setCell ⟨g, 0, none⟩ y0).setCell ⟨g, 1, none⟩ y1) g t #[y0, y1, x2, x3, x4, x5] := b0.setCell 1 y1
  have b2 : Blk (((W.setCell ⟨g, 0, none⟩ y0).setCell ⟨g, 1, none⟩ y1).setCell ⟨g, 2, none⟩ y2) g t #[y0, y1, y2, x3, x4, x5] := b1.setCell 2 y2
  have b3 : Blk ((((W.setCell ⟨g, 0, none⟩ y0).setCell ⟨g, 1, none⟩ y1).setCell ⟨g, 2, none⟩ y2).setCell ⟨g, 3, none⟩ y3) g t #[y0, y1, y2, y3, x4, x5] := b2.setCell 3 y3
  have b4 : Blk (((((W.setCell ⟨g, 0, none⟩ y0).setCell ⟨g, 1, none⟩ y1).setCell ⟨g, 2, none⟩ y2).setCell ⟨g, 3, none⟩ y3).setCell ⟨g, 4, none⟩ y4) g t #[y0, y1, y2, y3, y4, x5] := b3.setCell 4 y4
  have b5 : Blk ((((((W.setCell ⟨g, 0, none⟩ y0).setCell ⟨g, 1, none⟩ y1).setCell ⟨g, 2, none⟩ y2).setCell ⟨g, 3, none⟩ y3).setCell ⟨g, 4, none⟩ y4).setCell ⟨g, 5, none⟩ y5) g t #[y0, y1, y2, y3, y4, y5] := b4.setCell 5 y5
  exact h _ b5 (grown_set (grown_set (grown_set (grown_set (grown_set (grown_set (World.grownBy.refl W (some g)) 0 y0) 1 y1) 2 y2) 3 y3) 4 y4) 5 y5) (by simp)
theorem named_store_7_7_0 {K : World → Prop} {W : World} {g : Nat} {t : TypeId} {x0 x1 x2 x3 x4 x5 x6 y0 y1 y2 y3 y4 y5 y6 : Value} (hb : Blk W g t #[x0, x1, x2, x3, x4, x5, x6]) (h : ∀ Wn : World, Blk Wn g t #[y0, y1, y2, y3, y4, y5, y6] → W.grownBy Wn (some g) → Wn.heap.size = W.heap.size → K Wn) : K (((((((W.setCell ⟨g, 0, none⟩ y0).setCell ⟨g, 1, none⟩ y1).setCell ⟨g, 2, none⟩ y2).setCell ⟨g, 3, none⟩ y3).setCell ⟨g, 4, none⟩ y4).setCell ⟨g, 5, none⟩ y5).setCell ⟨g, 6, none⟩ y6) := by
  have b0 : Blk (W.setCell ⟨g, 0, none⟩ y0) g t #[y0, x1, x2, x3, x4, x5, x6] := hb.setCell 0 y0
  have b1 : Blk ((W.setCell ⟨g, 0, none⟩ y0).setCell ⟨g, 1, none⟩ y1) g t #[y0, y1, x2, x3, x4, x5, x6] := b0.setCell 1 y1
  have b2 : Blk (((W.setCell ⟨g, 0, none⟩ y0).setCell ⟨g, 1, none⟩ y1).setCell ⟨g, 2, none⟩ y2) g t #[y0, y1, y2, x3, x4, x5, x6] := b1.setCell 2 y2
  have b3 : Blk ((((W.setCell ⟨g, 0, none⟩ y0).setCell ⟨g, 1, none⟩ y1).setCell ⟨g, 2, none⟩ y2).setCell ⟨g, 3, none⟩ y3) g t #[y0, y1, y2, y3, x4, x5, x6] := b2.setCell 3 y3
  have b4 : Blk (((((W.setCell ⟨g, 0, none⟩ y0).setCell ⟨g, 1, none⟩ y1).setCell ⟨g, 2, none⟩ y2).setCell ⟨g, 3, none⟩ y3).setCell ⟨g, 4, none⟩ y4) g t #[y0, y1, y2, y3, y4, x5, x6] := b3.setCell 4 y4
  have b5 : Blk ((((((W.setCell ⟨g, 0, none⟩ y0).setCell ⟨g, 1, none⟩ y1).setCell ⟨g, 2, none⟩ y2).setCell ⟨g, 3, none⟩ y3).setCell ⟨g, 4, none⟩ y4).setCell ⟨g, 5, none⟩ y5) g t #[y0, y1, y2, y3, y4, y5, x6] := b4.setCell 5 y5
  have b6 : Blk (((((((W.setCell ⟨g, 0, none⟩ y0).setCell ⟨g, 1, none⟩ y1).setCell ⟨g, 2, none⟩ y2).setCell ⟨g, 3, none⟩ y3).setCell ⟨g, 4, none⟩ y4).setCell ⟨g, 5, none⟩ y5).setCell ⟨g, 6, none⟩ y6) g t #[y0, y1, y2, y3, y4, y5, y6] := b5.setCell 6 y6
  exact h _ b6 (grown_set (grown_set (grown_set (grown_set (grown_set (grown_set (grown_set (World.grownBy.refl W (some g)) 0 y0) 1 y1) 2 y2) 3 y3) 4 y4) 5 y5) 6 y6) (by simp)
theorem named_store_3_4_0 {K : World → Prop} {W : World} {g : Nat} {t : TypeId} {x0 x1 x2 x3 y0 y1 y2 : Value} (hb : Blk W g t #[x0, x1, x2, x3]) (h : ∀ Wn : World, Blk Wn g t #[y0, y1, y2, x3] → W.grownBy Wn (some g) → Wn.heap.size = W.heap.size → K Wn) : K (((W.setCell ⟨g, 0, none⟩ y0).setCell ⟨g, 1, none⟩ y1).setCell ⟨g, 2, none⟩ y2) := by
  have b0 : Blk (W.setCell ⟨g, 0, none⟩ y0) g t #[y0, x1, x2, x3] := hb.setCell 0 y0
  have b1 : Blk ((W.setCell ⟨g, 0, none⟩ y0).setCell ⟨g, 1, none⟩ y1) g t #[y0, y1, x2, x3] := b0.setCell 1 y1
  have b2 : Blk (((W.setCell ⟨g, 0, none⟩ y0).setCell ⟨g, 1, none⟩ y1).setCell ⟨g, 2, none⟩ y2) g t #[y0, y1, y2, x3] := b1.setCell 2 y2
  exact h _ b2 (grown_set (grown_set (grown_set (World.grownBy.refl W (some g)) 0 y0) 1 y1) 2 y2) (by simp)
end Go.Proofs.Ytnkaajkdjbdpaaa

/- A range over a function whose iterator writes one block of cells of its own between the rounds: what its caller owes. No condition. -/
namespace Go.Proofs.Ytnkaajkdjbdpaaa
open Go.RowKit
/-- what the caller says abides a step of the iterator: new blocks, and a turn of block D -/
def StepsD (D : Nat) (J : Nat → World → Prop) : Prop := ∀ k A B, J k A → A.grownBy B (some D) → J k B
/-- what is said abides the law's own book-keeping: new blocks, and a turn of one that is no cells and lies from B0 on -/
def Books {β : Type} (B0 : Nat) (I : β → World → Prop) : Prop := ∀ s A B row, I s A → A.grownBy B row → (∀ r, row = some r → B0 ≤ r ∧ ∃ o : Obj, A.heap[r]? = some o ∧ o.isCells = false) → I s B
theorem Books.put {β : Type} {B0 : Nat} {I : β → World → Prop} (h : Books B0 I) {s : β} {W : World} {l : Nat} {o : Obj} (o' : Obj) (hs : I s W) (hB : B0 ≤ l) (hl : W.heap[l]? = some o) (ho : o.isCells = false) : I s (W.putObj l o') :=
  h s W _ (some l) hs (grownBy_putObj' W l o') fun r e => by cases e; exact ⟨hB, o, hl, ho⟩
theorem Books.alloc {β : Type} {B0 : Nat} {I : β → World → Prop} (h : Books B0 I) {s : β} {W : World} (o : Obj) (hs : I s W) : I s (W.alloc o) :=
  h s W _ none hs (World.grownBy_alloc W o none) fun r e => by cases e
/-- the contract of an iterator with a state: It k: k elements have been handed out; N: how many there are; vs k: what yield is handed -/
def StateSeq (F : Fence) (m : Nat) (P : Program) (gf : Nat) (lb : Array Value) (vs : Nat → Array Value) (N D : Nat) (It : Nat → World → Prop) : Prop :=
  ∀ (l : Nat) (J Jx : Nat → World → Prop) (W : World), StepsD D J →
    (∀ k W1, k < N → J k W1 → It (k + 1) W1 → YieldAt F (m - 1) P l (vs k) W1 fun e W' => (e = .returned (.bool true) ∧ J (k + 1) W' ∧ It (k + 1) W') ∨ (e = .returned (.bool false) ∧ Jx (k + 1) W')) →
    J 0 W → It 0 W → CallsIn F m P gf (#[.func (.yield l) #[] #[]] ++ lb) W fun e W' => (∃ v, e = .returned v) ∧ ((J N W' ∧ It N W') ∨ ∃ k, Jx k W')
/-- how a round may be left -/
def roundEnd (B0 : Nat) (I It : Nat → World → Prop) (Ix : Code → Nat → World → Prop) (k : Nat) (W : World) : Exit → Act → World → Prop
  | .normal, _, W' => KeepsFrom B0 W W' ∧ I k W' ∧ It k W'
  | .ret, _, W' => KeepsFrom B0 W W' ∧ Ix .ret k W'
  | .exit id, _, W' => KeepsFrom B0 W W' ∧ Ix (.exit id) k W'
  | .goto t, _, W' => KeepsFrom B0 W W' ∧ Ix (.goto t) k W'
  | .panic _, _, _ => False
  | .outgrown, _, _ => False
end Go.Proofs.Ytnkaajkdjbdpaaa

/- A range over a function whose iterator writes some blocks of cells of its own between the rounds: what its caller owes. No condition. -/
namespace Go.Proofs.Ytnkaajkdjbdpaaa
open Go.RowKit
/-- new blocks, and turns of the blocks p -/
structure GrownP (p : Nat → Prop) (w w' : World) : Prop where
  os : w'.os = w.os
  tape : w'.tape = w.tape
  output : w'.output = w.output
  size : w.heap.size ≤ w'.heap.size
  block : ∀ i, i < w.heap.size → ¬ p i → w'.heap[i]? = w.heap[i]?
theorem GrownP.refl (p : Nat → Prop) (w : World) : GrownP p w w := ⟨rfl, rfl, rfl, Nat.le_refl _, fun _ _ _ => rfl⟩
theorem GrownP.trans {p : Nat → Prop} {a b c : World} (h : GrownP p a b) (k : GrownP p b c) : GrownP p a c :=
  ⟨k.os.trans h.os, k.tape.trans h.tape, k.output.trans h.output, Nat.le_trans h.size k.size, fun i hi hp => (k.block i (Nat.lt_of_lt_of_le hi h.size) hp).trans (h.block i hi hp)⟩
theorem GrownP.ofBelow {p : Nat → Prop} {w w' : World} (h : Below w.heap.size w w') : GrownP p w w' := ⟨h.os, h.tape, h.output, h.size, fun i hi _ => h.block i hi⟩
theorem GrownP.ofGrown {p : Nat → Prop} {w w' : World} {g : Nat} (h : w.grownBy w' (some g)) (hp : p g) : GrownP p w w' := ⟨h.os, h.tape, h.output, h.size, fun i hi hn => h.block i hi (fun e => by cases e; exact hn hp)⟩
theorem GrownP.below {p : Nat → Prop} {B : Nat} {a w w' : World} (h : Below B a w) (k : GrownP p w w') (hp : ∀ i, p i → B ≤ i) (hB : B ≤ w.heap.size) : Below B a w' :=
  ⟨k.os.trans h.os, k.tape.trans h.tape, k.output.trans h.output, Nat.le_trans h.size k.size, fun i hi => (k.block i (Nat.lt_of_lt_of_le hi hB) (fun e => by have := hp i e; omega)).trans (h.block i hi)⟩
/-- what the caller says abides a step of the iterator: new blocks, and turns of the blocks p -/
def StepsP (p : Nat → Prop) (J : Nat → World → Prop) : Prop := ∀ k A B, J k A → GrownP p A B → J k B
/-- the contract of an iterator with a state: It k: k elements have been handed out; N: how many there are; vs k: what yield is handed -/
def StateSeqP (F : Fence) (m : Nat) (P : Program) (gf : Nat) (lb : Array Value) (vs : Nat → Array Value) (N : Nat) (p : Nat → Prop) (It : Nat → World → Prop) : Prop :=
  ∀ (l : Nat) (J Jx : Nat → World → Prop) (W : World), StepsP p J →
    (∀ k W1, k < N → J k W1 → It (k + 1) W1 → YieldAt F (m - 1) P l (vs k) W1 fun e W' => (e = .returned (.bool true) ∧ J (k + 1) W' ∧ It (k + 1) W') ∨ (e = .returned (.bool false) ∧ Jx (k + 1) W')) →
    J 0 W → It 0 W → CallsIn F m P gf (#[.func (.yield l) #[] #[]] ++ lb) W fun e W' => (∃ v, e = .returned v) ∧ ((J N W' ∧ It N W') ∨ ∃ k, Jx k W')
end Go.Proofs.Ytnkaajkdjbdpaaa

/- General words: an append onto a row that has no room, in a list of operations. No condition. -/
namespace Go.Proofs.Ytnkaajkdjbdpaaa
open Go.RowKit
theorem wpList_appf {P : Program} {α : Type} (enc : α → Value) (d : α) (w : World) {ops : Array Oper} {rest : List Oper} {o : Oper} {a : Act} {Q : Exit → Act → World → Prop} (hgd : o.guard = none) (s x : Operand) (t : TypeId)
    (ho : o.op = .call { callee := .builtin .append, args := #[s, x], argTypes := #[t, t] })
    (e : TypeId) (i : TypeInfo) (z : Value) (bytes : Nat) (ht : P.underlying t = some (.slice e)) (hi : P.info? e = some i) (hz : i.zero = some z)
    (hsize : i.size = 1) (hby : i.bytes = bytes) (hzs : z.cells.size = 1)
    (lo0 hi0 : Nat) (A0 : Option Addr) (n c0 : Nat) (xs : List α) (hs : a.eval s = .slice A0 n c0) (h0 : Sl enc d w lo0 hi0 A0 n xs)
    (lo1 hi1 : Nat) (A : Option Addr) (m c : Nat) (ys : List α) (hx : a.eval x = .slice A m c) (hr : Sl enc d w lo1 hi1 A m ys) (hm : 0 < m) (h1 : ∀ y, (enc y).oneCell' = true)
    (hfull : c0 < n + m) (h63 : n + m ≤ maxLen) (hcap : c0 ≤ n + m) (hbytes : (n + m) * bytes ≤ 70368744177664) (lo : Nat) (hlo : lo ≤ w.heap.size)
    (h : ∀ c' w', Ow enc w' lo e (some ⟨w.heap.size, 0, none⟩) (n + m) c' (xs ++ ys) → Below w.heap.size w w' → w'.heap.size = w.heap.size + 1 → wpList P ops Q rest (a.put o.dst (.slice (some ⟨w.heap.size, 0, none⟩) (n + m) c')) w') :
    wpList P ops Q (o :: rest) a w := by
  refine wpList_plain hgd fun K hK => ?_
  obtain ⟨c', w', hrun, k1, k2, k3⟩ := run_appf enc d w t o.type e i z bytes ht hi hz hsize hby hzs lo0 hi0 A0 n c0 xs h0 lo1 hi1 A m c ys hr hm h1 hfull h63 hcap hbytes lo hlo
  unfold Oper.wp
  simp [execOp, ho, resolve, invoke, builtin, hs, hx, hrun, Result.andThen]
  exact hK _ _ (h c' w' k1 k2 k3)
end Go.Proofs.Ytnkaajkdjbdpaaa

/- General words: maps by int that a function lays and looks into. No condition. -/
namespace Go.Proofs.Ytnkaajkdjbdpaaa
open Go.RowKit
theorem find_ne {k j : Int} (h : ¬ k = j) (v : Value) (b : Nat) (es : List MapEntry) (i : Nat) : Instr.findNow (.int .i64) (.int .i64 k) (⟨.int .i64 j, v, b⟩ :: es) i = Instr.findNow (.int .i64) (.int .i64 k) es (i + 1) := by
  have h' : (k == j) = false := by simpa using h
  simp [Instr.findNow, Instr.sameNow, h']
section
variable {P : Program} {T K E : TypeId}
theorem run_mk_new (t : TypeId) (w : World) : (Instr.makeMap t none).run P w = .ok (.map (some w.heap.size)) (w.alloc (.map #[] 0)) := rfl
theorem alloc_set (W : World) (o o' : Obj) : { W.alloc o with heap := (W.alloc o).heap.setIfInBounds W.heap.size o' } = W.alloc o' := by
  have e : (W.alloc o).heap.setIfInBounds W.heap.size o' = (W.alloc o').heap := by
    show (W.heap.push o).setIfInBounds W.heap.size o' = W.heap.push o'
    apply Array.ext
    · simp
    · intro i h1 h2
      simp only [Array.size_push, Array.size_setIfInBounds] at h1 h2
      by_cases hi : i = W.heap.size
      · subst hi; simp
      · rw [Array.getElem_setIfInBounds_ne (by simpa using h1) (Ne.symm hi), Array.getElem_push_lt (by omega), Array.getElem_push_lt (by omega)]
  rw [e]
  rfl
theorem run_upd_new (hT : P.underlying T = some (.map K E)) (hK : P.underlying K = some (.int .i64)) (W : World) (es : Array MapEntry) (c : Nat) (k : Int) (v : Value) (hno : Instr.findNow (.int .i64) (.int .i64 k) es.toList 0 = some none) :
    (Instr.mapUpdate T (.map (some W.heap.size)) (.int .i64 k) v).run P (W.alloc (.map es c)) = .ok () (W.alloc (.map (es.push ⟨.int .i64 k, v, c⟩) (c + 1))) := by
  have hb : (W.alloc (.map es c)).heap[W.heap.size]? = some (.map es c) := (MapKept.heap_alloc W _).1
  have hk : MapKept.IsKey (.int .i64) (.int .i64 k) := by simp [MapKept.IsKey]
  simp only [Instr.mapUpdate, Sem.run_bind, run_underlying hT, MapKept.run_getObj_map hb, MapKept.run_checkKey hK hk, MapKept.run_findKey hK hno, MapKept.run_setObj_map _ hb, Result.andThen]
  rw [alloc_set]
theorem run_look_yes (hT : P.underlying T = some (.map K E)) (hK : P.underlying K = some (.int .i64)) {w : World} {g : Nat} {es : Array MapEntry} {c : Nat} (hb : w.heap[g]? = some (.map es c)) (k : Int) {i : Nat} {v : Value} (h : Instr.findNow (.int .i64) (.int .i64 k) es.toList 0 = some (some (i, v))) :
    (Instr.lookup T (.map (some g)) (.int .i64 k) true).run P w = .ok (.tuple #[v, .bool true]) w := by
  have hk : MapKept.IsKey (.int .i64) (.int .i64 k) := by simp [MapKept.IsKey]
  simp [Instr.lookup, Sem.run_bind, run_underlying hT, MapKept.run_getObj_map hb, MapKept.run_checkKey hK hk, MapKept.run_findKey hK h, Result.andThen]
theorem run_look_no (hT : P.underlying T = some (.map K E)) (hK : P.underlying K = some (.int .i64)) {w : World} {g : Nat} {es : Array MapEntry} {c : Nat} (hb : w.heap[g]? = some (.map es c)) (k : Int) {z : Value} (hz : (zeroValue E).run P w = .ok z w) (h : Instr.findNow (.int .i64) (.int .i64 k) es.toList 0 = some none) :
    (Instr.lookup T (.map (some g)) (.int .i64 k) true).run P w = .ok (.tuple #[z, .bool false]) w := by
  have hk : MapKept.IsKey (.int .i64) (.int .i64 k) := by simp [MapKept.IsKey]
  simp [Instr.lookup, Sem.run_bind, run_underlying hT, MapKept.run_getObj_map hb, MapKept.run_checkKey hK hk, MapKept.run_findKey hK h, hz, Result.andThen]
end
end Go.Proofs.Ytnkaajkdjbdpaaa

/- General words: rows of structures that are cloned. No condition. -/
namespace Go.Proofs.Ytnkaajkdjbdpaaa
open Go.RowKit
section
variable {α : Type} {sz : Nat} {enc : α → Nat → Value} {d : α} {w w' : World} {lo hi : Nat} {e : TypeId} {A : Option Addr} {n c : Nat} {xs : List α}
theorem Sm.none_ (h : Sm sz enc d w lo hi none n xs) : n = 0 ∧ xs = [] := by
  have hn : n = 0 := by
    rcases Nat.eq_zero_or_pos n with h0 | h0
    · exact h0
    · obtain ⟨b, off, e, _⟩ := h.row h0
      cases e
  exact ⟨hn, List.eq_nil_of_length_eq_zero (h.len.trans hn)⟩
theorem Sm.alloc (h : Sm sz enc d w lo hi A n xs) (hB : hi ≤ w.heap.size) (o : Obj) : Sm sz enc d (w.alloc o) lo hi A n xs :=
  h.keep fun b i _ h2 => World.cell?_alloc_lt w o ⟨b, i, none⟩ (Nat.lt_of_lt_of_le h2 hB)
theorem Om.empty (w : World) (lo : Nat) (e : TypeId) (hlo : lo ≤ w.heap.size) : Om sz enc (w.alloc (.cells #[] e)) lo e (some ⟨w.heap.size, 0, none⟩) 0 0 [] :=
  ⟨rfl, World.ownsRow_made w #[] 0 hlo (by simp [maxLen]) (by simp)⟩
end
end Go.Proofs.Ytnkaajkdjbdpaaa

/- General words: an element of a row of structs is stored. No condition. -/
namespace Go.Proofs.Ytnkaajkdjbdpaaa
open Go.RowKit
theorem flat_set6 {α : Type} (enc : α → Nat → Value) : ∀ (xs : List α) (i : Nat) (s : α), flat 6 enc (xs.set i s) = if i < xs.length then ((((((flat 6 enc xs).set (i * 6) (enc s 0)).set (i * 6 + 1) (enc s 1)).set (i * 6 + 2) (enc s 2)).set (i * 6 + 3) (enc s 3)).set (i * 6 + 4) (enc s 4)).set (i * 6 + 5) (enc s 5) else flat 6 enc xs
  | [], i, s => by simp [flat]
  | x :: xs, 0, s => by simp [flat, cellsOf, List.range_succ]
  | x :: xs, i + 1, s => by
    have ih := flat_set6 enc xs i s
    rw [List.set_cons_succ, flat_cons, flat_cons, ih]
    have hc : cellsOf 6 enc x = [enc x 0, enc x 1, enc x 2, enc x 3, enc x 4, enc x 5] := rfl
    rw [hc, show (i + 1) * 6 = i * 6 + 1 + 1 + 1 + 1 + 1 + 1 by omega, show i * 6 + 1 + 1 + 1 + 1 + 1 + 1 + 1 = (i * 6 + 1) + 1 + 1 + 1 + 1 + 1 + 1 by omega, show i * 6 + 1 + 1 + 1 + 1 + 1 + 1 + 2 = (i * 6 + 2) + 1 + 1 + 1 + 1 + 1 + 1 by omega, show i * 6 + 1 + 1 + 1 + 1 + 1 + 1 + 3 = (i * 6 + 3) + 1 + 1 + 1 + 1 + 1 + 1 by omega, show i * 6 + 1 + 1 + 1 + 1 + 1 + 1 + 4 = (i * 6 + 4) + 1 + 1 + 1 + 1 + 1 + 1 by omega, show i * 6 + 1 + 1 + 1 + 1 + 1 + 1 + 5 = (i * 6 + 5) + 1 + 1 + 1 + 1 + 1 + 1 by omega]
    by_cases h : i < xs.length
    · rw [if_pos h, if_pos (by simp; omega)]
      rfl
    · rw [if_neg h, if_neg (by simp; omega)]
theorem Om.stored6 {α : Type} {enc : α → Nat → Value} {w : World} {lo : Nat} {e : TypeId} {g n c : Nat} {xs : List α} (h : Om 6 enc w lo e (some ⟨g, 0, none⟩) n c xs) (i : Nat) (s : α) (hi : i < n) :
    Om 6 enc ((((((w.setCell ⟨g, i * 6, none⟩ (enc s 0)).setCell ⟨g, i * 6 + 1, none⟩ (enc s 1)).setCell ⟨g, i * 6 + 2, none⟩ (enc s 2)).setCell ⟨g, i * 6 + 3, none⟩ (enc s 3)).setCell ⟨g, i * 6 + 4, none⟩ (enc s 4)).setCell ⟨g, i * 6 + 5, none⟩ (enc s 5)) lo e (some ⟨g, 0, none⟩) n c (xs.set i s) := by
  refine ⟨by rw [List.length_set, h.len], ?_⟩
  rw [flat_set6, if_pos (by rw [h.len]; exact hi)]
  exact ((((((h.own.stored (i * 6) (enc s 0)).1.stored (i * 6 + 1) (enc s 1)).1.stored (i * 6 + 2) (enc s 2)).1.stored (i * 6 + 3) (enc s 3)).1.stored (i * 6 + 4) (enc s 4)).1.stored (i * 6 + 5) (enc s 5)).1
theorem named_row6 {α : Type} {enc : α → Nat → Value} {K : World → Prop} {W : World} {lo : Nat} {e : TypeId} {g n c : Nat} {xs : List α} (hm : Om 6 enc W lo e (some ⟨g, 0, none⟩) n c xs) (i : Nat) (s : α) (hi : i < n)
    (h : ∀ Wn : World, Om 6 enc Wn lo e (some ⟨g, 0, none⟩) n c (xs.set i s) → W.grownBy Wn (some g) → Wn.heap.size = W.heap.size → K Wn) : K ((((((W.setCell ⟨g, i * 6, none⟩ (enc s 0)).setCell ⟨g, i * 6 + 1, none⟩ (enc s 1)).setCell ⟨g, i * 6 + 2, none⟩ (enc s 2)).setCell ⟨g, i * 6 + 3, none⟩ (enc s 3)).setCell ⟨g, i * 6 + 4, none⟩ (enc s 4)).setCell ⟨g, i * 6 + 5, none⟩ (enc s 5)) :=
  h _ (hm.stored6 i s hi) (grown_set (grown_set (grown_set (grown_set (grown_set (grown_set (World.grownBy.refl W (some g)) _ _) _ _) _ _) _ _) _ _) _ _) (by simp)
end Go.Proofs.Ytnkaajkdjbdpaaa

/- General words: a function with a label to which it jumps back: its rounds are walked once. No condition. -/
namespace Go.Proofs.Ytnkaajkdjbdpaaa
open Go.RowKit
section
variable {P : Program} {a : Act} {w : World} {Q : Exit → Act → World → Prop}
theorem wp_scope_label {c X : Code} (l : Nat) (J : Act → World → Prop) (μ : Act → World → Nat) (hf : findLabel c l = some (Code.skip.seq X))
    (first : Hid (∀ a w, J a w → X.wp P (Exit.jump l J Q) a w) → c.wp P (Exit.jump l J Q) a w)
    (pass : ∀ a w, J a w → X.wp P (Exit.jump l (fun a' w' => J a' w' ∧ μ a' w' < μ a w) Q) a w) : (Code.scope c).wp P Q a w :=
  wp_scope_jumps l J μ hf (first (hid fun a w h => wp_mono (pass a w h) (fun e a' w' hq => by
    cases e with
    | goto l' => exact ⟨hq.1, hq.2.1⟩
    | _ => exact hq))) (fun a w h => wp_seq (wp_skip (pass a w h)))
end
end Go.Proofs.Ytnkaajkdjbdpaaa

/- General words: a copy of cells onto cells that hold the same; rows of structures that are made. No condition. -/
namespace Go.Proofs.Ytnkaajkdjbdpaaa
open Go.RowKit
/-! ### what an append onto an owned row leaves as it was -/
theorem own_addr {A : Option Addr} {n c k : Nat} (h : (Value.slice A n c).ownBlock = some k) : ∃ a, A = some a ∧ a.block = k := by
  cases A with
  | none => simp [Value.ownBlock] at h
  | some a => exact ⟨a, rfl, by simpa [Value.ownBlock] using h⟩
section
variable {α β : Type} {sz : Nat} {encM : α → Nat → Value} {enc : α → Value} {encB : β → Value} {w w' : World} {lo lo2 : Nat} {e e2 : TypeId} {A A2 : Option Addr} {n c n2 c2 : Nat} {xs : List α} {ys : List β}
theorem Blk.keptM {g : Nat} {t : TypeId} {cs : Array Value} (hb : Blk w g t cs) (h : Om sz encM w lo e A n c xs) (hne : t ≠ e) (hg : w.grownBy w' (Value.slice A n c).ownBlock) : Blk w' g t cs :=
  hb.grown hg fun he => by obtain ⟨a, ha, hk⟩ := own_addr he.symm; exact h.ne_blk hb hne a ha hk
theorem Ow.keptM (h2 : Ow encB w lo2 e2 A2 n2 c2 ys) (h : Om sz encM w lo e A n c xs) (hne : e2 ≠ e) (hg : w.grownBy w' (Value.slice A n c).ownBlock) : Ow encB w' lo2 e2 A2 n2 c2 ys :=
  h2.keptG hg fun a ha he => by
    obtain ⟨_, cs, hb⟩ := h2.blk a ha
    obtain ⟨a', ha', hk⟩ := own_addr he.symm
    exact h.ne_blk hb hne a' ha' hk
theorem Om.keptM {encN : β → Nat → Value} {sz2 : Nat} (h2 : Om sz2 encN w lo2 e2 A2 n2 c2 ys) (h : Om sz encM w lo e A n c xs) (hne : e2 ≠ e) (hg : w.grownBy w' (Value.slice A n c).ownBlock) : Om sz2 encN w' lo2 e2 A2 n2 c2 ys :=
  h2.keptG hg fun a ha he => by
    obtain ⟨_, cs, hb⟩ := h2.blk a ha
    obtain ⟨a', ha', hk⟩ := own_addr he.symm
    exact h.ne_blk hb hne a' ha' hk
end
end Go.Proofs.Ytnkaajkdjbdpaaa

/- Short words for the steps of a region that draws. No condition. -/
namespace Go.Proofs.Ytnkaajkdjbdpaaa
open Go.RowKit
/-- what many ways come to, proved once -/
structure KeyH (T : Prop) : Prop where
  out : T
theorem merge_by {T G : Prop} (h : KeyH T → G) (pf : T) : G := h ⟨pf⟩
section
variable {P : Program} {ops : Array Oper} {Q : Exit → Act → World → Prop} {S : World → Prop}
theorem tk1 {i : Nat} {oi : Oper} {v : Value} {fuel : Nat} {listed : Array Bool} {a : Act} {w : World} (hi : ops[i]? = some oi := by simp only [List.getElem?_toArray, List.getElem?_cons_succ, List.getElem?_cons_zero]; rfl)
    (hs : Region.noSelect ops = true := by kernel_rfl) (hf : Region.free .any ops listed i = true := by kernel_rfl) (hr : (Region.ready .any ops listed).contains i = true := by kernel_rfl)
    (hQ : ∀ c a w, Q (.panic c) (a.put oi.dst v) w → Q (.panic c) a w := by exact fun _ _ _ h => h) (hy : YieldsIf P ops S oi v a) (hS : S w)
    (h : wpAnyH P .any ops Q S fuel (listed.setIfInBounds i true) (a.put oi.dst v) w) : wpAnyH P .any ops Q S (fuel + 1) listed a w :=
  wpAnyH_take hi hs hf hr hQ hy hS h
theorem rd1 {rs : List Nat} {fuel : Nat} {listed : Array Bool} {a : Act} {w : World} (hr : Region.ready .any ops listed = rs := by kernel_rfl) (hne : rs ≠ [] := by simp)
    (h : AllReadyH P .any ops Q S fuel listed a w rs) : wpAnyH P .any ops Q S (fuel + 1) listed a w := wpAnyH_ready hr hne h
theorem cs1 {fuel : Nat} {listed : Array Bool} {a : Act} {w : World} {i : Nat} {o : Oper} {rs : List Nat} (ho : ops[i]? = some o := by simp only [List.getElem?_toArray, List.getElem?_cons_succ, List.getElem?_cons_zero]; rfl)
    (h : ∀ K' : Act → World → Prop, Shut (∀ a w, S w → (S w → wpAnyH P .any ops Q S fuel (listed.setIfInBounds i true) a w) → K' a w) → if Region.wanted o (yielded ops a.tmps) = true then Oper.wp P o a w K' Q else K' (a.put o.dst undef) w)
    (hs : AllReadyH P .any ops Q S fuel listed a w rs) : AllReadyH P .any ops Q S fuel listed a w (i :: rs) := AllReadyH.cons ho h hs
end
end Go.Proofs.Ytnkaajkdjbdpaaa
