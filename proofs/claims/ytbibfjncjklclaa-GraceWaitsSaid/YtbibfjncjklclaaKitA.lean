/- General words and laws for the walks of this seat, all together. No condition. -/
import Derived.WalkKit
import Derived.WalkSpells
import Derived.WalkLawsBesides
import Derived.Maps.AppendAt
import Derived.Deep.AppendLies
import Derived.Deep.Draws
import Derived.BigQuiet
import Derived.Deep.QuietTactic
import Derived.RangeFuncNested
import Derived.RangeFuncBound
import Derived.RangeFuncCalls
import Derived.RangeFuncLeaves
import Derived.RangeFuncWrites
import Derived.RangeFuncBox
import Derived.Shelf.Abstract
import Derived.OwnWalkIn
import Derived.TacticsInMore
import Derived.LoopNIn
import Derived.LoopIn
import Derived.Maps.OwnIn
import Derived.ControlIn
import Derived.Laws.MakeOwn
import Derived.Laws.OwnMore
import Derived.Deep.RegionHeld3
import Derived.Deep.AppendSrc
import Derived.Laws.CopyRow
import Derived.StillTail
import Derived.Deep.RegionHeld
import Derived.Laws.CopyOwn
import Derived.Below
import Derived.MapKept
import Derived.Carry
import Derived.Maps.RangeRun
/- General words and laws for the walks of this seat: rows that are read, rows that are owned, blocks known whole, whole arrays loaded and stored. No condition. -/
namespace Go.Proofs.Ytbibfjncjklclaa
open Go.RowKit

theorem hid {p : Prop} (h : p) : Hid p := h
theorem ret_bool {a b : Bool} (h : a = b) : Ending.returned (.bool a) = .returned (.bool b) := by rw [h]
theorem ret_int {k : IntKind} {a b : Int} (h : a = b) : Ending.returned (.int k a) = .returned (.int k b) := by rw [h]

/-! ### blocks known whole -/
def Blk (w : World) (g : Nat) (t : TypeId) (cs : Array Value) : Prop := w.heap[g]? = some (.cells cs t (0, 0))
section
variable {w w' : World} {g : Nat} {t : TypeId} {cs cs' : Array Value}
theorem Blk.lt (h : Blk w g t cs) : g < w.heap.size := by unfold Blk at h; exact (Array.getElem?_eq_some_iff.1 h).1
theorem Blk.new (w : World) (t : TypeId) (cs : Array Value) : Blk (w.alloc (.cells cs t)) w.heap.size t cs := heap_alloc_new w _
theorem Blk.at (hg : g = w.heap.size) : Blk (w.alloc (.cells cs t)) g t cs := hg ▸ Blk.new w t cs
theorem Blk.new2 (w : World) (t : TypeId) (cs : Array Value) (a : Obj) : Blk ((w.alloc a).alloc (.cells cs t)) (w.heap.size + 1) t cs := Blk.at (by simp)
theorem Blk.new3 (w : World) (t : TypeId) (cs : Array Value) (a b : Obj) : Blk (((w.alloc a).alloc b).alloc (.cells cs t)) (w.heap.size + 1 + 1) t cs := Blk.at (by simp)
theorem Blk.new4 (w : World) (t : TypeId) (cs : Array Value) (a b c : Obj) : Blk ((((w.alloc a).alloc b).alloc c).alloc (.cells cs t)) (w.heap.size + 1 + 1 + 1) t cs := Blk.at (by simp)
theorem Blk.new5 (w : World) (t : TypeId) (cs : Array Value) (a b c d : Obj) : Blk (((((w.alloc a).alloc b).alloc c).alloc d).alloc (.cells cs t)) (w.heap.size + 1 + 1 + 1 + 1) t cs := Blk.at (by simp)
theorem Blk.alloc (h : Blk w g t cs) (o : Obj) : Blk (w.alloc o) g t cs := (Below.heap_alloc w o g h.lt).trans h
theorem Blk.drew (h : Blk w g t cs) : Blk w.drew g t cs := h
theorem Blk.drewN (h : Blk w g t cs) (n : Nat) : Blk (w.drewN n) g t cs := h
theorem Blk.setRow (h : Blk w g t cs) : Blk (w.setRow g cs') g t cs' := setRow_heap w g cs cs' t _ h
theorem Blk.farRow {k : Nat} (h : Blk w g t cs) (hk : g ≠ k) : Blk (w.setRow k cs') g t cs := (setRow_other w k g cs' hk).trans h
theorem Blk.cell (h : Blk w g t cs) (i : Nat) : w.cell? ⟨g, i, none⟩ = cs[i]? := cell_of_row w g i cs t (0, 0) h
theorem Blk.frozen (h : Blk w g t cs) (i : Nat) : w.frozen? ⟨g, i, none⟩ = false := frozen_of_row w g i cs t h
theorem Blk.setCell (h : Blk w g t cs) (i : Nat) (u : Value) : Blk (w.setCell ⟨g, i, none⟩ u) g t (cs.setIfInBounds i u) := heap_setCell_same w g i cs t u h
theorem Blk.far (h : Blk w g t cs) {p : Addr} (hp : g ≠ p.block) (u : Value) : Blk (w.setCell p u) g t cs := (Below.heap_setCell w p u g hp).trans h
theorem Blk.below {B : Nat} (h : Blk w g t cs) (hb : Below B w w') (hg : g < B) : Blk w' g t cs := (hb.block g hg).trans h
theorem Blk.grown {row : Option Nat} (h : Blk w g t cs) (hb : w.grownBy w' row) (hg : some g ≠ row) : Blk w' g t cs := (hb.block g h.lt hg).trans h
end
theorem Blk.cells1 {w : World} {g : Nat} {t : TypeId} {a : Value} (h : Blk w g t #[a]) : w.cell? ⟨g, 0, none⟩ = some a ∧ w.frozen? ⟨g, 0, none⟩ = false := ⟨h.cell 0, h.frozen 0⟩
theorem Blk.cells2 {w : World} {g : Nat} {t : TypeId} {a b : Value} (h : Blk w g t #[a, b]) : w.cell? ⟨g, 0, none⟩ = some a ∧ w.cell? ⟨g, 1, none⟩ = some b ∧ ∀ i, w.frozen? ⟨g, i, none⟩ = false := ⟨h.cell 0, h.cell 1, h.frozen⟩
theorem Blk.cells3 {w : World} {g : Nat} {t : TypeId} {a b c : Value} (h : Blk w g t #[a, b, c]) : w.cell? ⟨g, 0, none⟩ = some a ∧ w.cell? ⟨g, 1, none⟩ = some b ∧ w.cell? ⟨g, 2, none⟩ = some c ∧ ∀ i, w.frozen? ⟨g, i, none⟩ = false := ⟨h.cell 0, h.cell 1, h.cell 2, h.frozen⟩
theorem Blk.cells4 {w : World} {g : Nat} {t : TypeId} {a b c d : Value} (h : Blk w g t #[a, b, c, d]) : w.cell? ⟨g, 0, none⟩ = some a ∧ w.cell? ⟨g, 1, none⟩ = some b ∧ w.cell? ⟨g, 2, none⟩ = some c ∧ w.cell? ⟨g, 3, none⟩ = some d ∧ ∀ i, w.frozen? ⟨g, i, none⟩ = false := ⟨h.cell 0, h.cell 1, h.cell 2, h.cell 3, h.frozen⟩
theorem below_setRow {B : Nat} {a w : World} (h : Below B a w) {g : Nat} (hg : B ≤ g) (cs : Array Value) : Below B a (w.setRow g cs) :=
  h.trans ⟨rfl, rfl, rfl, by simp, fun k hk => setRow_other w g k cs (by omega)⟩
theorem below_of_grown {w w' : World} (h : w.grownBy w' none) : Below w.heap.size w w' := ⟨h.os, h.tape, h.output, h.size, fun k hk => h.block k hk (by simp)⟩
/-- all old cells and marks read as before -/
theorem bcell {W w1 : World} (hb : Below W.heap.size W w1) : (∀ b o, b < W.heap.size → w1.cell? ⟨b, o, none⟩ = W.cell? ⟨b, o, none⟩) ∧ (∀ b o, b < W.heap.size → w1.frozen? ⟨b, o, none⟩ = W.frozen? ⟨b, o, none⟩) :=
  ⟨fun b o h => hb.cell (p := ⟨b, o, none⟩) h, fun b o h => hb.frozen (p := ⟨b, o, none⟩) h⟩

/-! ### a row of one-cell elements that is read -/
structure Sl {α : Type} (enc : α → Value) (d : α) (w : World) (lo hi : Nat) (A : Option Addr) (n : Nat) (xs : List α) : Prop where
  len : xs.length = n
  row : 0 < n → ∃ b off, A = some ⟨b, off, none⟩ ∧ lo ≤ b ∧ b < hi ∧ ∀ k, k < n → w.cell? ⟨b, off + k, none⟩ = some (enc (xs[k]?.getD d))
section
variable {α : Type} {enc : α → Value} {d : α} {w w' : World} {lo hi lo' hi' B : Nat} {A : Option Addr} {n : Nat} {xs : List α}
theorem Sl.nil (w : World) (lo hi : Nat) (A : Option Addr) : Sl enc d w lo hi A 0 [] := ⟨rfl, fun h => absurd h (by omega)⟩
theorem Sl.keep (h : Sl enc d w lo hi A n xs) (hk : ∀ b o, lo ≤ b → b < hi → w'.cell? ⟨b, o, none⟩ = w.cell? ⟨b, o, none⟩) : Sl enc d w' lo hi A n xs :=
  ⟨h.len, fun hn => by
    obtain ⟨b, off, e, h1, h2, h3⟩ := h.row hn
    exact ⟨b, off, e, h1, h2, fun k hkn => (hk b _ h1 h2).trans (h3 k hkn)⟩⟩
theorem Sl.below (h : Sl enc d w lo hi A n xs) (hb : Below B w w') (hB : hi ≤ B) : Sl enc d w' lo hi A n xs := h.keep fun b o _ h2 => hb.cell (p := ⟨b, o, none⟩) (Nat.lt_of_lt_of_le h2 hB)
theorem Sl.alloc (h : Sl enc d w lo hi A n xs) (hB : hi ≤ w.heap.size) (o : Obj) : Sl enc d (w.alloc o) lo hi A n xs :=
  h.keep fun b i _ h2 => World.cell?_alloc_lt w o ⟨b, i, none⟩ (Nat.lt_of_lt_of_le h2 hB)
theorem Sl.drew (h : Sl enc d w lo hi A n xs) : Sl enc d w.drew lo hi A n xs := ⟨h.len, h.row⟩
theorem Sl.drewN (h : Sl enc d w lo hi A n xs) (k : Nat) : Sl enc d (w.drewN k) lo hi A n xs := ⟨h.len, h.row⟩
theorem Sl.setCell (h : Sl enc d w lo hi A n xs) {p : Addr} (hp : p.block < lo ∨ hi ≤ p.block) (u : Value) : Sl enc d (w.setCell p u) lo hi A n xs :=
  h.keep fun b i h1 h2 => World.cell?_setCell_other w p ⟨b, i, none⟩ u (fun e => by subst e; simp at hp; omega)
theorem Sl.setRow (h : Sl enc d w lo hi A n xs) {g : Nat} (hp : g < lo ∨ hi ≤ g) (cs : Array Value) : Sl enc d (w.setRow g cs) lo hi A n xs :=
  h.keep fun b i h1 h2 => cell_setRow_other w g cs ⟨b, i, none⟩ (by simp; omega)
theorem Sl.mono (h : Sl enc d w lo hi A n xs) (h1 : lo' ≤ lo) (h2 : hi ≤ hi') : Sl enc d w lo' hi' A n xs :=
  ⟨h.len, fun hn => by
    obtain ⟨b, off, e, g1, g2, g3⟩ := h.row hn
    exact ⟨b, off, e, by omega, by omega, g3⟩⟩
theorem Sl.take (h : Sl enc d w lo hi A n xs) {k : Nat} (hk : k ≤ n) : Sl enc d w lo hi A k (xs.take k) :=
  ⟨by rw [List.length_take, h.len]; omega, fun hn => by
    obtain ⟨b, off, e, h1, h2, h3⟩ := h.row (by omega)
    refine ⟨b, off, e, h1, h2, fun j hj => ?_⟩
    rw [h3 j (by omega), List.getElem?_take, if_pos hj]⟩
theorem Sl.drop (h : Sl enc d w lo hi A n xs) {k cap : Nat} (hk : k ≤ n) (hc : n ≤ cap) : Sl enc d w lo hi (if cap = k then A else A.map (·.add k)) (n - k) (xs.drop k) :=
  ⟨by rw [List.length_drop, h.len], fun hn => by
    obtain ⟨b, off, rfl, h1, h2, h3⟩ := h.row (by omega)
    rw [if_neg (by omega)]
    refine ⟨b, off + k, by simp [Addr.add_lit], h1, h2, fun j hj => ?_⟩
    rw [Nat.add_assoc, h3 (k + j) (by omega), List.getElem?_drop]⟩
theorem Sl.none_ (h : Sl enc d w lo hi none n xs) : n = 0 ∧ xs = [] := by
  have hn : n = 0 := by
    rcases Nat.eq_zero_or_pos n with h0 | h0
    · exact h0
    · obtain ⟨b, off, e, _⟩ := h.row h0
      cases e
  exact ⟨hn, List.eq_nil_of_length_eq_zero (h.len.trans hn)⟩
end

/-! ### a row of one-cell elements that is owned -/
structure Ow {α : Type} (enc : α → Value) (w : World) (lo : Nat) (e : TypeId) (A : Option Addr) (n c : Nat) (xs : List α) : Prop where
  len : xs.length = n
  own : w.ownsRow lo e 1 (.slice A n c) n (xs.map enc)
section
variable {α : Type} {enc : α → Value} {d : α} {w w' : World} {lo lo' B : Nat} {e : TypeId} {A : Option Addr} {n c : Nat} {xs : List α}
theorem Ow.cap (h : Ow enc w lo e A n c xs) : n ≤ c ∧ c ≤ maxLen := by
  rcases h.own.2 with ⟨hv, h0⟩ | ⟨g, cap, cur, hv, _, _, h1, h2, _⟩
  · simp only [Value.slice.injEq] at hv; obtain ⟨_, rfl, rfl⟩ := hv; exact ⟨Nat.le_refl _, by simp [maxLen]⟩
  · simp only [Value.slice.injEq] at hv; obtain ⟨_, _, rfl⟩ := hv; exact ⟨h1, h2⟩
theorem Ow.sl (h : Ow enc w lo e A n c xs) : Sl enc d w lo w.heap.size A n xs := by
  refine ⟨h.len, fun hn => ?_⟩
  obtain ⟨g, cap, hv, hlo, hhi⟩ := h.own.form hn
  simp only [Value.slice.injEq] at hv
  obtain ⟨rfl, _, rfl⟩ := hv
  refine ⟨g, 0, rfl, hlo, hhi, fun k hk => ?_⟩
  rw [Nat.zero_add, h.own.cellAt k (by omega), List.getElem?_map, List.getElem?_eq_getElem (by rw [h.len]; exact hk)]
  rfl
theorem Ow.empty (w : World) (lo : Nat) (e : TypeId) (hlo : lo ≤ w.heap.size) : Ow enc (w.alloc (.cells #[] e)) lo e (some ⟨w.heap.size, 0, none⟩) 0 0 [] :=
  ⟨rfl, World.ownsRow_made w #[] 0 hlo (by simp [maxLen]) rfl⟩
theorem Ow.empty' {w : World} {lo g : Nat} {e : TypeId} (hlo : lo ≤ w.heap.size) (hg : g = w.heap.size) : Ow enc (w.alloc (.cells #[] e)) lo e (some ⟨g, 0, none⟩) 0 0 [] := by
  subst hg; exact Ow.empty w lo e hlo
theorem Ow.nil (w : World) (lo : Nat) (e : TypeId) : Ow enc w lo e none 0 0 [] := ⟨rfl, World.ownsRow_nil w lo e 1⟩
theorem Ow.below (h : Ow enc w lo e A n c xs) (hb : Below w.heap.size w w') : Ow enc w' lo e A n c xs := by
  refine ⟨h.len, h.own.1, ?_⟩
  rcases h.own.2 with hh | ⟨g, cap, cur, hv, hb1, hg, r⟩
  · exact .inl hh
  · exact .inr ⟨g, cap, cur, hv, hb1, (hb.block g (Array.getElem?_eq_some_iff.1 hg).1).trans hg, r⟩
theorem Ow.mono (h : Ow enc w lo e A n c xs) (h1 : lo' ≤ lo) : Ow enc w lo' e A n c xs := by
  refine ⟨h.len, h.own.1, ?_⟩
  rcases h.own.2 with hh | ⟨g, cap, cur, hv, hb1, r⟩
  · exact .inl hh
  · exact .inr ⟨g, cap, cur, hv, by omega, r⟩
theorem Ow.alloc (h : Ow enc w lo e A n c xs) (o : Obj) : Ow enc (w.alloc o) lo e A n c xs := ⟨h.len, h.own.alloc o⟩
theorem Ow.drewN (h : Ow enc w lo e A n c xs) (k : Nat) : Ow enc (w.drewN k) lo e A n c xs := ⟨h.len, h.own⟩
theorem Ow.setCell (h : Ow enc w lo e A n c xs) {p : Addr} (hp : p.block < lo) (u : Value) : Ow enc (w.setCell p u) lo e A n c xs := ⟨h.len, ownsRow_setCell_below h.own hp u⟩
end

section
variable {α : Type} {enc : α → Value} {d : α} {w w' : World} {lo lo' B : Nat} {e : TypeId} {A : Option Addr} {n c : Nat} {xs : List α}
theorem Ow.row_ge (h : Ow enc w lo e A n c xs) : ∀ k, (Value.slice A n c).ownBlock = some k → lo ≤ k := fun k hk => (h.own.lt k hk).1
/-- a block below an owned row is no part of it -/
theorem Ow.ne_row (h : Ow enc w lo e A n c xs) {g : Nat} (hg : g < lo) : some g ≠ (Value.slice A n c).ownBlock := fun he => by
  have := h.row_ge g he.symm; omega
theorem Sl.one (w : World) (e : TypeId) (x : α) : Sl enc d (w.alloc (.cells #[enc x] e)) w.heap.size (w.heap.size + 1) (some ⟨w.heap.size, 0, none⟩) 1 [x] :=
  ⟨rfl, fun _ => ⟨w.heap.size, 0, rfl, Nat.le_refl _, by omega, fun k hk => by
    obtain rfl : k = 0 := by omega
    simp⟩⟩
end

theorem Sl.one' {α : Type} {enc : α → Value} {d : α} {w : World} {e : TypeId} {x : α} {g : Nat} (hg : g = w.heap.size) : Sl enc d (w.alloc (.cells #[enc x] e)) g (g + 1) (some ⟨g, 0, none⟩) 1 [x] := by
  subst hg; exact Sl.one w e x

/-! ### whole arrays -/
theorem wpList_alloc_as {P : Program} {ops : Array Oper} {rest : List Oper} {o : Oper} {a : Act} {w : World} {Q : Exit → Act → World → Prop} (hgd : o.guard = none) (t : TypeId) (ho : o.op = .alloc t)
    (F : Array Value) (hz : ∀ w, (zeroValue t).run P w = .ok (.agg F) w)
    (h : wpList P ops Q rest (a.put o.dst (.pointer (some ⟨w.heap.size, 0, none⟩))) (w.alloc (.cells F t))) : wpList P ops Q (o :: rest) a w :=
  wpList_plain hgd fun _ hK => by
    unfold Oper.wp execOp
    simp only [ho]
    have hz' := hz w
    have : (Instr.alloc t true (.tuple #[])).run P w = .ok (.pointer (some ⟨w.heap.size, 0, none⟩)) (w.alloc (.cells F t)) := by
      simp [Instr.alloc, Sem.run_bind, hz', newVar, newRow, Value.cells, go_sem]
    simp only [Sem.run_bind, this, Result.andThen_ok]
    exact hK _ _ h
theorem wpList_load_blk {P : Program} {ops : Array Oper} {rest : List Oper} {o : Oper} {a : Act} {w : World} {Q : Exit → Act → World → Prop} (hgd : o.guard = none) (ty : TypeId) (x : Operand) (ho : o.op = .load ty x)
    (g : Nat) (hx : a.eval x = .pointer (some ⟨g, 0, none⟩)) (t : TypeId) (cs : Array Value) (k : Nat) (d : TypeDesc) (hg : Blk w g t cs) (hk : cs.size = k)
    (hu : P.underlying ty = some d) (hd : (match d with | .struct _ | .array _ _ => true | _ => false) = true) (hi : (P.info? ty).map (·.size) = some k)
    (h : wpList P ops Q rest (a.put o.dst (.agg cs)) w) : wpList P ops Q (o :: rest) a w :=
  wpList_load_row hgd ty x ho g hx t cs (0, 0) d hg hu hd (by rw [hi, hk]) h
theorem wpList_store_blk {P : Program} {ops : Array Oper} {rest : List Oper} {o : Oper} {a : Act} {w : World} {Q : Exit → Act → World → Prop} (hgd : o.guard = none) (ty : TypeId) (x y : Operand) (ho : o.op = .store ty x y)
    (g : Nat) (cells : Array Value) (hx : a.eval x = .pointer (some ⟨g, 0, none⟩)) (hy : a.eval y = .agg cells)
    (t : TypeId) (old : Array Value) (k : Nat) (hg : Blk w g t old) (hk : old.size = k) (hk' : cells.size = k) (hi : (P.info? ty).map (·.size) = some k) (h1 : cells.all (·.oneCell') = true)
    (h : wpList P ops Q rest (a.put o.dst undef) (w.setRow g cells)) : wpList P ops Q (o :: rest) a w :=
  wpList_store_row hgd ty x y ho g cells hx hy t old hg (by rw [hi, hk']) (by rw [hk, hk']) h1 h
theorem results_blk_tmp {P : Program} {fn : Func} {p u : Tmp} {ty : TypeId} (h : fn.results = #[.cell p ty, .tmp u]) (tmps : Array Value) (w : World) (g : Nat) (t : TypeId) (cs : Array Value) (k : Nat) (d : TypeDesc)
    (hp : tmps.getD p undef = .pointer (some ⟨g, 0, none⟩)) (hg : Blk w g t cs) (hk : cs.size = k) (hu : P.underlying ty = some d) (hd : (match d with | .struct _ | .array _ _ => true | _ => false) = true) (hi : (P.info? ty).map (·.size) = some k) :
    (results fn tmps).run P w = .ok (.tuple #[.agg cs, tmps.getD u undef]) w := by
  have h1 := run_loadVar_row (P := P) w g t ty cs (0, 0) d hg hu hd (by rw [hi, hk])
  rw [results_cell_tmp h, hp]
  simp [asAddr, h1, Result.andThen]

/-! ### a slice against nil -/
theorem run_eqnil {P : Program} {t e : TypeId} (ht : P.underlying t = some (.slice e)) (w : World) (a : Option Addr) (n c : Nat) :
    (binOp .eql t (.slice a n c) (.slice none 0 0)).run P w = .ok (.bool a.isNone) w := by
  have h : ∀ d : Nat, (Op.equalIn (d + 1) t (.slice a n c) (.slice none 0 0)).run P w = .ok a.isNone w := fun d => by
    cases a <;> simp [Op.equalIn, run_underlying ht]
  simp only [binOp]
  simp [Op.equal, Op.maxDepth, h 9999]

/-! ### append onto an owned row -/
/-- what an append leaves -/
def AppPost {α : Type} (enc : α → Value) (w : World) (base : Nat) (e : TypeId) (v : Value) (n : Nat) (xs : List α) (v' : Value) (w' : World) : Prop :=
  ∃ A c, v' = .slice A n c ∧ Ow enc w' base e A n c xs ∧ w.grownBy w' v.ownBlock ∧ (v'.ownBlock = v.ownBlock ∨ v'.ownBlock = some w.heap.size)
theorem wpList_app {P : Program} {α : Type} (enc : α → Value) (d : α) (w : World) {ops : Array Oper} {rest : List Oper} {o : Oper} {a : Act} {Q : Exit → Act → World → Prop} (hgd : o.guard = none) (s x : Operand) (t : TypeId)
    (ho : o.op = .call { callee := .builtin .append, args := #[s, x], argTypes := #[t, t] })
    (base : Nat) (e : TypeId) (i : TypeInfo) (z : Value) (bytes : Nat) (ht : P.underlying t = some (.slice e)) (hi : P.info? e = some i) (hz : i.zero = some z)
    (hsize : i.size = 1) (hby : i.bytes = bytes) (hzs : z.cells.size = 1)
    (A0 : Option Addr) (n c0 : Nat) (xs : List α) (hs : a.eval s = .slice A0 n c0) (hown : Ow enc w base e A0 n c0 xs)
    (lo hi' : Nat) (A : Option Addr) (m c : Nat) (ys : List α) (hx : a.eval x = .slice A m c) (hr : Sl enc d w lo hi' A m ys) (h1 : ∀ y, (enc y).oneCell' = true)
    (h63 : n + m ≤ maxLen) (hbytes : (n + m) * bytes ≤ 140737488355328) (hbase : base ≤ w.heap.size)
    (h : ∀ A' c' w', Ow enc w' base e A' (n + m) c' (xs ++ ys) → w.grownBy w' (Value.slice A0 n c0).ownBlock → ((Value.slice A' (n + m) c').ownBlock = (Value.slice A0 n c0).ownBlock ∨ (Value.slice A' (n + m) c').ownBlock = some w.heap.size) →
      wpList P ops Q rest (a.put o.dst (.slice A' (n + m) c')) w') :
    wpList P ops Q (o :: rest) a w := by
  have hform : ∀ (v' : Value) (w' : World), w'.ownsRow base e 1 v' (n + m) ((xs ++ ys).map enc) → ∃ (A' : Option Addr) (c' : Nat), v' = Value.slice A' (n + m) c' := by
    intro v' w' ho
    rcases ho.2 with ⟨rfl, h0⟩ | ⟨g, cap, cur, rfl, _⟩
    · rw [h0]; exact ⟨_, _, rfl⟩
    · exact ⟨_, _, rfl⟩
  refine wpList_plain hgd fun K hK => ?_
  rcases A with _ | ad
  · obtain ⟨rfl, rfl⟩ := hr.none_
    have hrun : (Builtin.append_ #[t, t] o.type #[.slice A0 n c0, .slice none 0 c]).run P w = .ok (.slice A0 n c0) w := by
      rcases hown.own.2 with ⟨hv, h0⟩ | ⟨g, cap, cur, hv, _, _, hnc, _⟩
      · simp only [Value.slice.injEq] at hv
        obtain ⟨rfl, rfl, rfl⟩ := hv
        simp [Builtin.append_, run_underlying ht, sizeOf, typeInfo, hi, Builtin.lenOf, Builtin.firstCells]
      · simp only [Value.slice.injEq] at hv
        obtain ⟨rfl, _, rfl⟩ := hv
        simp [Builtin.append_, run_underlying ht, sizeOf, typeInfo, hi, Builtin.lenOf, Builtin.firstCells, hnc, storeCells]
    unfold Oper.wp execOp
    simp only [ho, resolve, invoke, builtin, Sem.run_bind, Sem.run_pure, Result.andThen_ok, List.map_toArray, List.map_cons, List.map_nil, hs, hx, hrun]
    exact hK _ _ (h A0 c0 w (by simpa using hown) (World.grownBy.refl w _) (.inl rfl))
  · have hnews : ∀ j u, (ys.map enc)[j]? = some u → w.cell? (ad.add j) = some u := by
      intro j u hu
      have hj : j < m := by have := (List.getElem?_eq_some_iff.1 hu).1; rw [List.length_map, hr.len] at this; exact this
      obtain ⟨b, off, he, _, _, hc⟩ := hr.row (by omega)
      obtain rfl := Option.some.inj he
      rw [Addr.add_lit, hc j hj, ← hu, List.getElem?_map, List.getElem?_eq_getElem (by rw [hr.len]; exact hj)]
      rfl
    obtain ⟨v', w', hrun, h2, h3, _, h5⟩ := run_append_own_at (P := P) w base t o.type e i z 1 bytes ht hi hz hsize hby hzs (by omega) (.slice A0 n c0) n (xs.map enc) hown.own ad m c (ys.map enc) (by rw [List.length_map, hr.len, Nat.mul_one]) hnews
      (fun u hu => by obtain ⟨y, _, rfl⟩ := List.mem_map.1 hu; exact h1 y) h63 hbytes hbase
    rw [← List.map_append] at h2
    obtain ⟨A', c', rfl⟩ := hform v' w' h2
    unfold Oper.wp execOp
    simp only [ho, resolve, invoke, builtin, Sem.run_bind, Sem.run_pure, Result.andThen_ok, List.map_toArray, List.map_cons, List.map_nil, hs, hx, hrun]
    exact hK _ _ (h A' c' w' ⟨by rw [List.length_append, hown.len, hr.len], h2⟩ h3 h5)
end Go.Proofs.Ytbibfjncjklclaa

/- General words, second part: facts carried over a step that turns nothing old. No condition. -/
namespace Go.Proofs.Ytbibfjncjklclaa
open Go.RowKit
theorem below_box (w : World) (o : Obj) : Below w.heap.size w (w.alloc o) := (Below.refl _ w).alloc (Nat.le_refl _) o
theorem Blk.step {w w' : World} {g : Nat} {t : TypeId} {cs : Array Value} (h : Blk w g t cs) (hb : Below w.heap.size w w') : Blk w' g t cs := h.below hb h.lt
theorem Sl.step {α : Type} {enc : α → Value} {d : α} {w w' : World} {lo : Nat} {A : Option Addr} {n : Nat} {xs : List α} (h : Sl enc d w lo w.heap.size A n xs) (hb : Below w.heap.size w w') : Sl enc d w' lo w'.heap.size A n xs :=
  (h.below hb (Nat.le_refl _)).mono (Nat.le_refl _) hb.size
theorem below_then {w a b : World} (h : Below w.heap.size w a) (h' : Below a.heap.size a b) : Below w.heap.size w b := h.trans (h'.mono h.size)
theorem Ow.step {α : Type} {enc : α → Value} {w w' : World} {lo : Nat} {e : TypeId} {A : Option Addr} {n c : Nat} {xs : List α} (h : Ow enc w lo e A n c xs) (hb : Below w.heap.size w w') : Ow enc w' lo e A n c xs := h.below hb
/-- a literal row, as it was laid -/
theorem Sl.lit {α : Type} {enc : α → Value} {d : α} {w : World} {e : TypeId} {g : Nat} (xs : List α) (cs : Array Value) (hg : g = w.heap.size) (hc : cs = (xs.map enc).toArray) :
    Sl enc d (w.alloc (.cells cs e)) 0 (w.alloc (.cells cs e)).heap.size (some ⟨g, 0, none⟩) xs.length xs := by
  subst hg hc
  refine ⟨rfl, fun _ => ⟨w.heap.size, 0, rfl, Nat.zero_le _, by simp, fun k hk => ?_⟩⟩
  rw [Nat.zero_add, (Blk.new w e _).cell]
  simp [hk]
end Go.Proofs.Ytbibfjncjklclaa

/- General words, third part: stores into an owned row. No condition. -/
namespace Go.Proofs.Ytbibfjncjklclaa
open Go.RowKit
section
variable {α : Type} {enc : α → Value} {d : α} {w : World} {lo : Nat} {e : TypeId} {A : Option Addr} {n c : Nat} {xs : List α}
theorem Ow.at_ (h : Ow enc w lo e A n c xs) (d : α) {k : Nat} (hk : k < n) : ∃ g, A = some ⟨g, 0, none⟩ ∧ lo ≤ g ∧ g < w.heap.size ∧ w.cell? ⟨g, k, none⟩ = some (enc (xs[k]?.getD d)) ∧ w.frozen? ⟨g, k, none⟩ = false := by
  obtain ⟨g, cap, hv, hlo, hhi⟩ := h.own.form (by omega)
  simp only [Value.slice.injEq] at hv
  obtain ⟨rfl, _, rfl⟩ := hv
  refine ⟨g, rfl, hlo, hhi, ?_, h.own.frozenAt k⟩
  rw [h.own.cellAt k (by omega), List.getElem?_map, List.getElem?_eq_getElem (by rw [h.len]; exact hk)]
  rfl
theorem Ow.stored {g : Nat} (h : Ow enc w lo e (some ⟨g, 0, none⟩) n c xs) (k : Nat) (v : α) : Ow enc (w.setCell ⟨g, k, none⟩ (enc v)) lo e (some ⟨g, 0, none⟩) n c (xs.set k v) := by
  refine ⟨by rw [List.length_set, h.len], ?_⟩
  rw [List.map_set]
  exact (h.own.stored k (enc v)).1
theorem Ow.setFar (h : Ow enc w lo e A n c xs) {p : Addr} (hp : p.block < lo ∨ w.heap.size ≤ p.block) (u : Value) : Ow enc (w.setCell p u) lo e A n c xs := by
  refine ⟨h.len, h.own.1, ?_⟩
  rcases h.own.2 with hh | ⟨g, cap, cur, hv, hb1, hg, r⟩
  · exact .inl hh
  · refine .inr ⟨g, cap, cur, hv, hb1, ?_, r⟩
    have := (Array.getElem?_eq_some_iff.1 hg).1
    exact (Below.heap_setCell w p u g (by omega)).trans hg
end
end Go.Proofs.Ytbibfjncjklclaa

/- General words, fourth part: what abides the turn of a block that is no cells (loops over functions, maps). No condition. -/
namespace Go.Proofs.Ytbibfjncjklclaa
open Go.RowKit Go.Shelf
theorem Blk.abides {W W' : World} {g : Nat} {t : TypeId} {cs : Array Value} {row : Option Nat} (h : Blk W g t cs) (hg : W.grownBy W' row) (hr : ∀ r, row = some r → ∃ o : Obj, W.heap[r]? = some o ∧ o.isCells = false) : Blk W' g t cs :=
  h.grown hg (fun e => by
    obtain ⟨o, ho, hc⟩ := hr g e.symm
    unfold Blk at h
    rw [h] at ho
    cases ho
    cases hc)
theorem Ow.abides {α : Type} {enc : α → Value} {W W' : World} {lo : Nat} {e : TypeId} {A : Option Addr} {n c : Nat} {xs : List α} {row : Option Nat} (h : Ow enc W lo e A n c xs) (hg : W.grownBy W' row) (hr : ∀ r, row = some r → ∃ o : Obj, W.heap[r]? = some o ∧ o.isCells = false) : Ow enc W' lo e A n c xs := by
  refine ⟨h.len, h.own.1, ?_⟩
  rcases h.own.2 with hh | ⟨g, cap, cur, hv, hb1, hgg, r⟩
  · exact .inl hh
  · refine .inr ⟨g, cap, cur, hv, hb1, ?_, r⟩
    exact Blk.abides (t := e) (cs := cur) hgg hg hr
end Go.Proofs.Ytbibfjncjklclaa

/- General words, fifth part: rows of structures, whose elements lie in so many cells each. No condition. -/
namespace Go.Proofs.Ytbibfjncjklclaa
open Go.RowKit
/-- a row of elements of sz cells each reads as xs; enc x j: the j-th cell of x -/
structure Sm {α : Type} (sz : Nat) (enc : α → Nat → Value) (d : α) (w : World) (lo hi : Nat) (A : Option Addr) (n : Nat) (xs : List α) : Prop where
  len : xs.length = n
  row : 0 < n → ∃ b off, A = some ⟨b, off, none⟩ ∧ lo ≤ b ∧ b < hi ∧ ∀ k, k < n → ∀ j, j < sz → w.cell? ⟨b, off + k * sz + j, none⟩ = some (enc (xs[k]?.getD d) j)
section
variable {α : Type} {sz : Nat} {enc : α → Nat → Value} {d : α} {w w' : World} {lo hi lo' hi' B : Nat} {A : Option Addr} {n : Nat} {xs : List α}
theorem Sm.nil (w : World) (lo hi : Nat) (A : Option Addr) : Sm sz enc d w lo hi A 0 [] := ⟨rfl, fun h => absurd h (by omega)⟩
theorem Sm.keep (h : Sm sz enc d w lo hi A n xs) (hk : ∀ b o, lo ≤ b → b < hi → w'.cell? ⟨b, o, none⟩ = w.cell? ⟨b, o, none⟩) : Sm sz enc d w' lo hi A n xs :=
  ⟨h.len, fun hn => by
    obtain ⟨b, off, e, h1, h2, h3⟩ := h.row hn
    exact ⟨b, off, e, h1, h2, fun k hkn j hj => (hk b _ h1 h2).trans (h3 k hkn j hj)⟩⟩
theorem Sm.below (h : Sm sz enc d w lo hi A n xs) (hb : Below B w w') (hB : hi ≤ B) : Sm sz enc d w' lo hi A n xs := h.keep fun b o _ h2 => hb.cell (p := ⟨b, o, none⟩) (Nat.lt_of_lt_of_le h2 hB)
theorem Sm.mono (h : Sm sz enc d w lo hi A n xs) (h1 : lo' ≤ lo) (h2 : hi ≤ hi') : Sm sz enc d w lo' hi' A n xs :=
  ⟨h.len, fun hn => by
    obtain ⟨b, off, e, g1, g2, g3⟩ := h.row hn
    exact ⟨b, off, e, by omega, by omega, g3⟩⟩
theorem Sm.step (h : Sm sz enc d w lo w.heap.size A n xs) (hb : Below w.heap.size w w') : Sm sz enc d w' lo w'.heap.size A n xs := (h.below hb (Nat.le_refl _)).mono (Nat.le_refl _) hb.size
theorem Sm.take (h : Sm sz enc d w lo hi A n xs) {k : Nat} (hk : k ≤ n) : Sm sz enc d w lo hi A k (xs.take k) :=
  ⟨by rw [List.length_take, h.len]; omega, fun hn => by
    obtain ⟨b, off, e, h1, h2, h3⟩ := h.row (by omega)
    refine ⟨b, off, e, h1, h2, fun j hj i hi => ?_⟩
    rw [h3 j (by omega) i hi, List.getElem?_take, if_pos hj]⟩
/-- one element, as it was laid -/
theorem Sm.one {e : TypeId} {cs : Array Value} {g : Nat} (x : α) (hg : g = w.heap.size) (hc : ∀ j, j < sz → cs[j]? = some (enc x j)) : Sm sz enc d (w.alloc (.cells cs e)) 0 (w.alloc (.cells cs e)).heap.size (some ⟨g, 0, none⟩) 1 [x] := by
  subst hg
  refine ⟨rfl, fun _ => ⟨w.heap.size, 0, rfl, Nat.zero_le _, by simp, fun k hk j hj => ?_⟩⟩
  obtain rfl : k = 0 := by omega
  have h0 : 0 + 0 * sz + j = j := by omega
  rw [h0, (Blk.new w e cs).cell, hc j hj]
  rfl
end
end Go.Proofs.Ytbibfjncjklclaa

/- General words, sixth part: rows that are made. No condition but sizes. -/
namespace Go.Proofs.Ytbibfjncjklclaa
open Go.RowKit
/-- so many cells that hold one value -/
def zrow (v : Value) (n : Nat) : Array Value := (List.replicate n v).toArray
theorem zrow_size (v : Value) (n : Nat) : (zrow v n).size = n := by simp [zrow]
theorem made_zrow (v : Value) (hv : v.cells = #[v]) (n : Nat) : madeCells v.cells (n * 1) = zrow v n := by
  rw [hv]
  apply Array.ext
  · simp [madeCells, zrow]
  · intro i h1 h2
    simp [madeCells, zrow, Nat.mod_one]
theorem Ow.made {α : Type} {enc : α → Value} {w : World} {lo g : Nat} {e : TypeId} {n : Nat} (x : α) (hlo : lo ≤ w.heap.size) (hn : n ≤ maxLen) (hg : g = w.heap.size) : Ow enc (w.alloc (.cells (zrow (enc x) n) e)) lo e (some ⟨g, 0, none⟩) n n (List.replicate n x) := by
  subst hg
  refine ⟨by simp, ?_⟩
  have := World.ownsRow_lit (e := e) (size := 1) (base := lo) w (zrow (enc x) n) n hlo hn (by rw [zrow_size, Nat.mul_one])
  simpa [zrow] using this
theorem run_make1 {P : Program} {t e : TypeId} {i : TypeInfo} {z : Value} (ht : P.underlying t = some (.slice e)) (hi : P.info? e = some i) (hz : i.zero = some z) (hs : i.size = 1) (hzc : z.cells = #[z]) (n : Nat) (hn : i.bytes * n ≤ 281474976710656) (hm : n ≤ 1000000) (w : World) :
    (Instr.makeSlice t (.int .i64 n) (.int .i64 n)).run P w = .ok (.slice (some ⟨w.heap.size, 0, none⟩) n n) (w.alloc (.cells (zrow z n) e)) := by
  have hb : (i.bytes : Int) * (n : Int) ≤ 281474976710656 := by
    have h' : ((i.bytes * n : Nat) : Int) ≤ 281474976710656 := by omega
    rwa [Int.natCast_mul] at h'
  have h := run_make (P := P) w t e i z ht hi hz .i64 .i64 n n (by omega) (Int.le_refl _) hb (by omega)
  rw [Int.toNat_natCast, hs, made_zrow z hzc] at h
  exact h
end Go.Proofs.Ytbibfjncjklclaa

/- General words, seventh part: an append onto an owned row as one step of a region that draws its order. No condition. -/
namespace Go.Proofs.Ytbibfjncjklclaa
open Go.RowKit
/-- the run of an append onto an owned row -/
theorem run_app {P : Program} {α : Type} (enc : α → Value) (d : α) (w : World) (t ty : TypeId)
    (base : Nat) (e : TypeId) (i : TypeInfo) (z : Value) (bytes : Nat) (ht : P.underlying t = some (.slice e)) (hi : P.info? e = some i) (hz : i.zero = some z)
    (hsize : i.size = 1) (hby : i.bytes = bytes) (hzs : z.cells.size = 1)
    (A0 : Option Addr) (n c0 : Nat) (xs : List α) (hown : Ow enc w base e A0 n c0 xs)
    (lo hi' : Nat) (A : Option Addr) (m c : Nat) (ys : List α) (hr : Sl enc d w lo hi' A m ys) (h1 : ∀ y, (enc y).oneCell' = true)
    (h63 : n + m ≤ maxLen) (hbytes : (n + m) * bytes ≤ 140737488355328) (hbase : base ≤ w.heap.size) :
    ∃ A' c' w', (Builtin.append_ #[t, t] ty #[.slice A0 n c0, .slice A m c]).run P w = .ok (.slice A' (n + m) c') w' ∧ Ow enc w' base e A' (n + m) c' (xs ++ ys) ∧ w.grownBy w' (Value.slice A0 n c0).ownBlock ∧ ((Value.slice A' (n + m) c').ownBlock = (Value.slice A0 n c0).ownBlock ∨ (Value.slice A' (n + m) c').ownBlock = some w.heap.size) := by
  have hform : ∀ (v' : Value) (w' : World), w'.ownsRow base e 1 v' (n + m) ((xs ++ ys).map enc) → ∃ (A' : Option Addr) (c' : Nat), v' = Value.slice A' (n + m) c' := by
    intro v' w' ho
    rcases ho.2 with ⟨rfl, h0⟩ | ⟨g, cap, cur, rfl, _⟩
    · rw [h0]; exact ⟨_, _, rfl⟩
    · exact ⟨_, _, rfl⟩
  rcases A with _ | ad
  · obtain ⟨rfl, rfl⟩ := hr.none_
    refine ⟨A0, c0, w, ?_, by simpa using hown, World.grownBy.refl w _, .inl rfl⟩
    rcases hown.own.2 with ⟨hv, h0⟩ | ⟨g, cap, cur, hv, _, _, hnc, _⟩
    · simp only [Value.slice.injEq] at hv
      obtain ⟨rfl, rfl, rfl⟩ := hv
      simp [Builtin.append_, run_underlying ht, sizeOf, typeInfo, hi, Builtin.lenOf, Builtin.firstCells]
    · simp only [Value.slice.injEq] at hv
      obtain ⟨rfl, _, rfl⟩ := hv
      simp [Builtin.append_, run_underlying ht, sizeOf, typeInfo, hi, Builtin.lenOf, Builtin.firstCells, hnc, storeCells]
  · have hnews : ∀ j u, (ys.map enc)[j]? = some u → w.cell? (ad.add j) = some u := by
      intro j u hu
      have hj : j < m := by have := (List.getElem?_eq_some_iff.1 hu).1; rw [List.length_map, hr.len] at this; exact this
      obtain ⟨b, off, he, _, _, hc⟩ := hr.row (by omega)
      obtain rfl := Option.some.inj he
      rw [Addr.add_lit, hc j hj, ← hu, List.getElem?_map, List.getElem?_eq_getElem (by rw [hr.len]; exact hj)]
      rfl
    obtain ⟨v', w', hrun, h2, h3, _, h5⟩ := run_append_own_at (P := P) w base t ty e i z 1 bytes ht hi hz hsize hby hzs (by omega) (.slice A0 n c0) n (xs.map enc) hown.own ad m c (ys.map enc) (by rw [List.length_map, hr.len, Nat.mul_one]) hnews
      (fun u hu => by obtain ⟨y, _, rfl⟩ := List.mem_map.1 hu; exact h1 y) h63 hbytes hbase
    rw [← List.map_append] at h2
    obtain ⟨A', c', rfl⟩ := hform v' w' h2
    exact ⟨A', c', w', hrun, ⟨by rw [List.length_append, hown.len, hr.len], h2⟩, h3, h5⟩
/-- as one step of a region that draws: go_region_held3's arms take it -/
theorem step_app {P : Program} {α : Type} (enc : α → Value) (d : α) (w : World) {ops : Array Oper} {o : Oper} {a : Act} {K : Act → World → Prop} {Q : Exit → Act → World → Prop} {E : Prop} (hg : o.guard = none) (s x : Operand) (t : TypeId)
    (hop : o.op = .call { callee := .builtin .append, args := #[s, x], argTypes := #[t, t] })
    (base : Nat) (e : TypeId) (i : TypeInfo) (z : Value) (bytes : Nat) (ht : P.underlying t = some (.slice e)) (hi : P.info? e = some i) (hz : i.zero = some z)
    (hsize : i.size = 1) (hby : i.bytes = bytes) (hzs : z.cells.size = 1)
    (A0 : Option Addr) (n c0 : Nat) (xs : List α) (hs : a.eval s = .slice A0 n c0) (hown : Ow enc w base e A0 n c0 xs)
    (lo hi' : Nat) (A : Option Addr) (m c : Nat) (ys : List α) (hx : a.eval x = .slice A m c) (hr : Sl enc d w lo hi' A m ys) (h1 : ∀ y, (enc y).oneCell' = true)
    (h63 : n + m ≤ maxLen) (hbytes : (n + m) * bytes ≤ 140737488355328) (hbase : base ≤ w.heap.size)
    (hK : ∀ A' c' w', Ow enc w' base e A' (n + m) c' (xs ++ ys) → w.grownBy w' (Value.slice A0 n c0).ownBlock → ((Value.slice A' (n + m) c').ownBlock = (Value.slice A0 n c0).ownBlock ∨ (Value.slice A' (n + m) c').ownBlock = some w.heap.size) →
      K (a.put o.dst (.slice A' (n + m) c')) w') :
    if Region.wanted o (yielded ops a.tmps) = true then Oper.wp P o a w K Q else E := by
  have hw : Region.wanted o (yielded ops a.tmps) = true := by simp [Region.wanted, hg]
  rw [if_pos hw]
  obtain ⟨A', c', w', hrun, k1, k2, k3⟩ := run_app enc d w t o.type base e i z bytes ht hi hz hsize hby hzs A0 n c0 xs hown lo hi' A m c ys hr h1 h63 hbytes hbase
  unfold Oper.wp
  simp [execOp, hop, resolve, invoke, builtin, hs, hx, hrun, Result.andThen]
  exact hK A' c' w' k1 k2 k3

/-- an append onto a row that has no room: a new row, whoever owns the old one -/
theorem run_appf {P : Program} {α : Type} (enc : α → Value) (d : α) (w : World) (t ty : TypeId)
    (e : TypeId) (i : TypeInfo) (z : Value) (bytes : Nat) (ht : P.underlying t = some (.slice e)) (hi : P.info? e = some i) (hz : i.zero = some z)
    (hsize : i.size = 1) (hby : i.bytes = bytes) (hzs : z.cells.size = 1)
    (lo0 hi0 : Nat) (A0 : Option Addr) (n c0 : Nat) (xs : List α) (h0 : Sl enc d w lo0 hi0 A0 n xs)
    (lo1 hi1 : Nat) (A : Option Addr) (m c : Nat) (ys : List α) (hr : Sl enc d w lo1 hi1 A m ys) (hm : 0 < m) (h1 : ∀ y, (enc y).oneCell' = true)
    (hfull : c0 < n + m) (h63 : n + m ≤ maxLen) (hcap : c0 ≤ n + m) (hbytes : (n + m) * bytes ≤ 70368744177664) (lo : Nat) (hlo : lo ≤ w.heap.size) :
    ∃ c' w', (Builtin.append_ #[t, t] ty #[.slice A0 n c0, .slice A m c]).run P w = .ok (.slice (some ⟨w.heap.size, 0, none⟩) (n + m) c') w' ∧ Ow enc w' lo e (some ⟨w.heap.size, 0, none⟩) (n + m) c' (xs ++ ys) ∧ Below w.heap.size w w' ∧ w'.heap.size = w.heap.size + 1 := by
  have hsize' : i.size = 1 := hsize
  subst hby
  obtain ⟨b, off, rfl, _, _, hc⟩ := hr.row hm
  have hold : (Builtin.firstCells i.size n (.slice A0 n c0)).run P w.drew = .ok (xs.map enc).toArray w.drew := by
    rcases Nat.eq_zero_or_pos n with hn | hn
    · subst hn
      have hx : xs = [] := List.eq_nil_of_length_eq_zero h0.len
      subst hx
      cases A0 <;> simp [Builtin.firstCells, loadCells, loadCellsFrom]
    · obtain ⟨b0, off0, rfl, _, _, hc0⟩ := h0.row hn
      refine run_firstCells_some w.drew i.size n _ n c0 (xs.map enc) (by rw [List.length_map, h0.len, hsize', Nat.mul_one]) ?_
      intro j u hu
      have hj : j < n := by have := (List.getElem?_eq_some_iff.1 hu).1; rw [List.length_map, h0.len] at this; exact this
      rw [Addr.add_lit]
      show w.cell? _ = _
      rw [hc0 j hj, ← hu, List.getElem?_map, List.getElem?_eq_getElem (by rw [h0.len]; exact hj)]
      rfl
  have hs : Src P i.size t (.slice (some ⟨b, off, none⟩) m c) m (ys.map enc) w := by
    refine Src.ofSlice w ht ⟨b, off, none⟩ m c (ys.map enc) (by rw [List.length_map, hr.len, hsize', Nat.mul_one]) ?_ (fun u hu => by obtain ⟨y, _, rfl⟩ := List.mem_map.1 hu; exact h1 y)
    intro j u hu
    have hj : j < m := by have := (List.getElem?_eq_some_iff.1 hu).1; rw [List.length_map, hr.len] at this; exact this
    rw [Addr.add_lit, hc j hj, ← hu, List.getElem?_map, List.getElem?_eq_getElem (by rw [hr.len]; exact hj)]
    rfl
  have hnc : Builtin.nextslicecap (n + m) c0 ≤ 2 * (n + m) := by
    unfold Builtin.nextslicecap
    split
    · omega
    split
    · omega
    · have : ∀ r k, k ≤ 2 * (n + m) → (k < n + m → k + (k + 768) / 4 ≤ 2 * (n + m)) → 256 ≤ k → Builtin.growBy (n + m) r k ≤ 2 * (n + m) := by
        intro r
        induction r with
        | zero => intro k h _ _; exact h
        | succ r ih =>
          intro k h h' h256
          unfold Builtin.growBy
          split
          · exact h
          · exact ih _ (h' (by omega)) (by omega) (by omega)
      exact this 4 c0 (by omega) (by omega) (by omega)
  have hrun := run_append_grow_src (P := P) (w := w) t t ty e i z ht hi hz A0 n c0 (xs.map enc) hold (.slice (some ⟨b, off, none⟩) m c) m (ys.map enc) hs hfull (by have := h63; simp only [maxLen] at this; omega)
    (Nat.le_trans (Nat.mul_le_mul_right _ hnc) (by rw [Nat.mul_assoc]; omega))
  have hge := grownCap_ge w (n + m) c0 e
  have hcm : grownCap w (n + m) c0 e ≤ maxLen := grownCap_le_maxLen w (n + m) c0 e h63
  have hlen : (xs.map enc ++ ys.map enc).length = n + m := by simp [h0.len, hr.len]
  refine ⟨_, _, hrun, ⟨by rw [List.length_append, h0.len, hr.len], ?_⟩, ?_, by simp⟩
  · refine ⟨by rw [List.length_map, List.length_append, h0.len, hr.len, Nat.mul_one], .inr ⟨w.heap.size, _, _, rfl, hlo, heap_alloc_new w.drew _, hge, hcm, ?_, ?_⟩⟩
    · simp only [Array.size_append, List.size_toArray, size_zeroCells, hzs, hlen]
      omega
    · simp only [Array.toList_append, List.map_append, Nat.mul_one]
      rw [← hlen]
      exact List.take_left
  · exact ((Below.refl _ w).drew).alloc (by simp) _
theorem step_appf {P : Program} {α : Type} (enc : α → Value) (d : α) (w : World) {ops : Array Oper} {o : Oper} {a : Act} {K : Act → World → Prop} {Q : Exit → Act → World → Prop} {E : Prop} (hg : o.guard = none) (s x : Operand) (t : TypeId)
    (hop : o.op = .call { callee := .builtin .append, args := #[s, x], argTypes := #[t, t] })
    (e : TypeId) (i : TypeInfo) (z : Value) (bytes : Nat) (ht : P.underlying t = some (.slice e)) (hi : P.info? e = some i) (hz : i.zero = some z)
    (hsize : i.size = 1) (hby : i.bytes = bytes) (hzs : z.cells.size = 1)
    (lo0 hi0 : Nat) (A0 : Option Addr) (n c0 : Nat) (xs : List α) (hs : a.eval s = .slice A0 n c0) (h0 : Sl enc d w lo0 hi0 A0 n xs)
    (lo1 hi1 : Nat) (A : Option Addr) (m c : Nat) (ys : List α) (hx : a.eval x = .slice A m c) (hr : Sl enc d w lo1 hi1 A m ys) (hm : 0 < m) (h1 : ∀ y, (enc y).oneCell' = true)
    (hfull : c0 < n + m) (h63 : n + m ≤ maxLen) (hcap : c0 ≤ n + m) (hbytes : (n + m) * bytes ≤ 70368744177664) (lo : Nat) (hlo : lo ≤ w.heap.size)
    (hK : ∀ c' w', Ow enc w' lo e (some ⟨w.heap.size, 0, none⟩) (n + m) c' (xs ++ ys) → Below w.heap.size w w' → w'.heap.size = w.heap.size + 1 → K (a.put o.dst (.slice (some ⟨w.heap.size, 0, none⟩) (n + m) c')) w') :
    if Region.wanted o (yielded ops a.tmps) = true then Oper.wp P o a w K Q else E := by
  have hw : Region.wanted o (yielded ops a.tmps) = true := by simp [Region.wanted, hg]
  rw [if_pos hw]
  obtain ⟨c', w', hrun, k1, k2, k3⟩ := run_appf enc d w t o.type e i z bytes ht hi hz hsize hby hzs lo0 hi0 A0 n c0 xs h0 lo1 hi1 A m c ys hr hm h1 hfull h63 hcap hbytes lo hlo
  unfold Oper.wp
  simp [execOp, hop, resolve, invoke, builtin, hs, hx, hrun, Result.andThen]
  exact hK c' w' k1 k2 k3
end Go.Proofs.Ytbibfjncjklclaa

/- General words: rows of structures that are owned; appends onto them. No condition. -/
namespace Go.Proofs.Ytbibfjncjklclaa
open Go.RowKit
def cellsOf {α : Type} (sz : Nat) (enc : α → Nat → Value) (x : α) : List Value := (List.range sz).map (enc x)
def flat {α : Type} (sz : Nat) (enc : α → Nat → Value) (xs : List α) : List Value := xs.flatMap (cellsOf sz enc)
theorem cellsOf_length {α : Type} (sz : Nat) (enc : α → Nat → Value) (x : α) : (cellsOf sz enc x).length = sz := by simp [cellsOf]
theorem flat_append {α : Type} (sz : Nat) (enc : α → Nat → Value) (xs ys : List α) : flat sz enc (xs ++ ys) = flat sz enc xs ++ flat sz enc ys := by simp [flat]
theorem flat_cons {α : Type} (sz : Nat) (enc : α → Nat → Value) (x : α) (xs : List α) : flat sz enc (x :: xs) = cellsOf sz enc x ++ flat sz enc xs := rfl
theorem flat_length {α : Type} (sz : Nat) (enc : α → Nat → Value) (xs : List α) : (flat sz enc xs).length = xs.length * sz := by
  induction xs with
  | nil => simp [flat]
  | cons x xs ih => rw [flat_cons, List.length_append, ih, cellsOf_length, List.length_cons, Nat.succ_mul, Nat.add_comm]
theorem flat_get {α : Type} {sz : Nat} {enc : α → Nat → Value} (d : α) : ∀ (xs : List α) (k j : Nat), k < xs.length → j < sz → (flat sz enc xs)[k * sz + j]? = some (enc (xs[k]?.getD d) j)
  | [], _, _, hk, _ => by simp at hk
  | x :: xs, 0, j, _, hj => by
    rw [flat_cons, List.getElem?_append_left (by rw [cellsOf_length]; omega)]
    simp [cellsOf, hj]
  | x :: xs, k + 1, j, hk, hj => by
    have e : (k + 1) * sz + j = sz + (k * sz + j) := by rw [Nat.succ_mul]; omega
    rw [flat_cons, e, List.getElem?_append_right (by rw [cellsOf_length]; omega), cellsOf_length, Nat.add_sub_cancel_left, flat_get d xs k j (by simpa using hk) hj]
    rfl
theorem flat_idx {sz n j : Nat} (hj : j < n * sz) : ∃ k i, k < n ∧ i < sz ∧ j = k * sz + i := by
  have hsz : 0 < sz := by
    rcases Nat.eq_zero_or_pos sz with h | h
    · subst h; simp at hj
    · exact h
  refine ⟨j / sz, j % sz, Nat.div_lt_of_lt_mul (by rwa [Nat.mul_comm]), Nat.mod_lt _ hsz, ?_⟩
  have := Nat.div_add_mod j sz
  rw [Nat.mul_comm] at this
  omega
/-- a row of structures that is owned -/
structure Om {α : Type} (sz : Nat) (enc : α → Nat → Value) (w : World) (lo : Nat) (e : TypeId) (A : Option Addr) (n c : Nat) (xs : List α) : Prop where
  len : xs.length = n
  own : w.ownsRow lo e sz (.slice A n c) n (flat sz enc xs)
section
variable {α : Type} {sz : Nat} {enc : α → Nat → Value} {d : α} {w w' : World} {lo lo' B : Nat} {e : TypeId} {A : Option Addr} {n c : Nat} {xs : List α}
theorem Om.cap (h : Om sz enc w lo e A n c xs) : n ≤ c ∧ c ≤ maxLen := by
  rcases h.own.2 with ⟨hv, h0⟩ | ⟨g, cap, cur, hv, _, _, h1, h2, _⟩
  · simp only [Value.slice.injEq] at hv; obtain ⟨_, rfl, rfl⟩ := hv; exact ⟨Nat.le_refl _, by simp [maxLen]⟩
  · simp only [Value.slice.injEq] at hv; obtain ⟨_, _, rfl⟩ := hv; exact ⟨h1, h2⟩
theorem Om.sm (h : Om sz enc w lo e A n c xs) : Sm sz enc d w lo w.heap.size A n xs := by
  refine ⟨h.len, fun hn => ?_⟩
  obtain ⟨g, cap, hv, hlo, hhi⟩ := h.own.form hn
  simp only [Value.slice.injEq] at hv
  obtain ⟨rfl, _, rfl⟩ := hv
  refine ⟨g, 0, rfl, hlo, hhi, fun k hk j hj => ?_⟩
  have hkj : k * sz + j < n * sz := by
    have : (k + 1) * sz ≤ n * sz := Nat.mul_le_mul_right _ hk
    rw [Nat.succ_mul] at this; omega
  rw [Nat.zero_add, h.own.cellAt _ hkj, flat_get d xs k j (by rw [h.len]; exact hk) hj]
theorem Om.nil (w : World) (lo : Nat) (e : TypeId) : Om sz enc w lo e none 0 0 [] := ⟨rfl, World.ownsRow_nil w lo e sz⟩
theorem Om.below (h : Om sz enc w lo e A n c xs) (hb : Below w.heap.size w w') : Om sz enc w' lo e A n c xs := by
  refine ⟨h.len, h.own.1, ?_⟩
  rcases h.own.2 with hh | ⟨g, cap, cur, hv, hb1, hg, r⟩
  · exact .inl hh
  · exact .inr ⟨g, cap, cur, hv, hb1, (hb.block g (Array.getElem?_eq_some_iff.1 hg).1).trans hg, r⟩
theorem Om.step (h : Om sz enc w lo e A n c xs) (hb : Below w.heap.size w w') : Om sz enc w' lo e A n c xs := h.below hb
theorem Om.mono (h : Om sz enc w lo e A n c xs) (h1 : lo' ≤ lo) : Om sz enc w lo' e A n c xs := by
  refine ⟨h.len, h.own.1, ?_⟩
  rcases h.own.2 with hh | ⟨g, cap, cur, hv, hb1, r⟩
  · exact .inl hh
  · exact .inr ⟨g, cap, cur, hv, by omega, r⟩
theorem Om.alloc (h : Om sz enc w lo e A n c xs) (o : Obj) : Om sz enc (w.alloc o) lo e A n c xs := ⟨h.len, h.own.alloc o⟩
theorem Om.drewN (h : Om sz enc w lo e A n c xs) (k : Nat) : Om sz enc (w.drewN k) lo e A n c xs := ⟨h.len, h.own⟩
theorem Om.drew (h : Om sz enc w lo e A n c xs) : Om sz enc w.drew lo e A n c xs := ⟨h.len, h.own⟩
theorem Om.setCell (h : Om sz enc w lo e A n c xs) {p : Addr} (hp : p.block < lo) (u : Value) : Om sz enc (w.setCell p u) lo e A n c xs := ⟨h.len, ownsRow_setCell_below h.own hp u⟩
theorem Om.row_ge (h : Om sz enc w lo e A n c xs) : ∀ k, (Value.slice A n c).ownBlock = some k → lo ≤ k := fun k hk => (h.own.lt k hk).1
theorem Om.ne_row (h : Om sz enc w lo e A n c xs) {g : Nat} (hg : g < lo) : some g ≠ (Value.slice A n c).ownBlock := fun he => by
  have := h.row_ge g he.symm; omega
end
/-- the run of an append onto an owned row of structures -/
theorem run_appm {P : Program} {α : Type} (sz : Nat) (enc : α → Nat → Value) (d : α) (w : World) (t ty : TypeId)
    (base : Nat) (e : TypeId) (i : TypeInfo) (z : Value) (bytes : Nat) (ht : P.underlying t = some (.slice e)) (hi : P.info? e = some i) (hz : i.zero = some z)
    (hsize : i.size = sz) (hby : i.bytes = bytes) (hzs : z.cells.size = sz) (hsz : 0 < sz)
    (A0 : Option Addr) (n c0 : Nat) (xs : List α) (hown : Om sz enc w base e A0 n c0 xs)
    (lo hi' : Nat) (A : Option Addr) (m c : Nat) (ys : List α) (hr : Sm sz enc d w lo hi' A m ys) (h1 : ∀ y j, j < sz → (enc y j).oneCell' = true)
    (h63 : n + m ≤ maxLen) (hbytes : (n + m) * bytes ≤ 140737488355328) (hbase : base ≤ w.heap.size) :
    ∃ A' c' w', (Builtin.append_ #[t, t] ty #[.slice A0 n c0, .slice A m c]).run P w = .ok (.slice A' (n + m) c') w' ∧ Om sz enc w' base e A' (n + m) c' (xs ++ ys) ∧ w.grownBy w' (Value.slice A0 n c0).ownBlock ∧ ((Value.slice A' (n + m) c').ownBlock = (Value.slice A0 n c0).ownBlock ∨ (Value.slice A' (n + m) c').ownBlock = some w.heap.size) := by
  have hform : ∀ (v' : Value) (w' : World), w'.ownsRow base e sz v' (n + m) (flat sz enc (xs ++ ys)) → ∃ (A' : Option Addr) (c' : Nat), v' = Value.slice A' (n + m) c' := by
    intro v' w' ho
    rcases ho.2 with ⟨rfl, h0⟩ | ⟨g, cap, cur, rfl, _⟩
    · rw [h0]; exact ⟨_, _, rfl⟩
    · exact ⟨_, _, rfl⟩
  by_cases hm : m = 0
  · subst hm
    obtain rfl : ys = [] := List.eq_nil_of_length_eq_zero hr.len
    refine ⟨A0, c0, w, ?_, by simpa using hown, World.grownBy.refl w _, .inl rfl⟩
    rcases hown.own.2 with ⟨hv, h0⟩ | ⟨g, cap, cur, hv, _, _, hnc, _⟩
    · simp only [Value.slice.injEq] at hv
      obtain ⟨rfl, rfl, rfl⟩ := hv
      cases A <;> simp [Builtin.append_, run_underlying ht, sizeOf, typeInfo, hi, Builtin.lenOf, Builtin.firstCells, loadCells, loadCellsFrom]
    · simp only [Value.slice.injEq] at hv
      obtain ⟨rfl, _, rfl⟩ := hv
      cases A <;> simp [Builtin.append_, run_underlying ht, sizeOf, typeInfo, hi, Builtin.lenOf, Builtin.firstCells, hnc, storeCells, loadCells, loadCellsFrom]
  · obtain ⟨b, off, rfl, _, _, hc⟩ := hr.row (by omega)
    have hnews : ∀ j u, (flat sz enc ys)[j]? = some u → w.cell? ((⟨b, off, none⟩ : Addr).add j) = some u := by
      intro j u hu
      have hj : j < m * sz := by have := (List.getElem?_eq_some_iff.1 hu).1; rwa [flat_length, hr.len] at this
      obtain ⟨k, i, hk, hi2, rfl⟩ := flat_idx hj
      rw [flat_get d ys k i (by rw [hr.len]; exact hk) hi2] at hu
      rw [Addr.add_lit, ← hu, ← hc k hk i hi2, Nat.add_assoc]
    obtain ⟨v', w', hrun, h2, h3, _, h5⟩ := run_append_own_at (P := P) w base t ty e i z sz bytes ht hi hz hsize hby hzs hsz (.slice A0 n c0) n (flat sz enc xs) hown.own ⟨b, off, none⟩ m c (flat sz enc ys) (by rw [flat_length, hr.len]) hnews
      (fun u hu => by
        obtain ⟨j, hj, rfl⟩ := List.getElem_of_mem hu
        have hj' : j < m * sz := by rwa [flat_length, hr.len] at hj
        obtain ⟨k, i, hk, hi2, rfl⟩ := flat_idx hj'
        have := flat_get (enc := enc) d ys k i (by rw [hr.len]; exact hk) hi2
        rw [List.getElem?_eq_getElem hj] at this
        rw [Option.some.inj this]
        exact h1 _ _ hi2) h63 hbytes hbase
    rw [← flat_append] at h2
    obtain ⟨A', c', rfl⟩ := hform v' w' h2
    exact ⟨A', c', w', hrun, ⟨by rw [List.length_append, hown.len, hr.len], h2⟩, h3, h5⟩
theorem step_appm {P : Program} {α : Type} (sz : Nat) (enc : α → Nat → Value) (d : α) (w : World) {ops : Array Oper} {o : Oper} {a : Act} {K : Act → World → Prop} {Q : Exit → Act → World → Prop} {E : Prop} (hg : o.guard = none) (s x : Operand) (t : TypeId)
    (hop : o.op = .call { callee := .builtin .append, args := #[s, x], argTypes := #[t, t] })
    (base : Nat) (e : TypeId) (i : TypeInfo) (z : Value) (bytes : Nat) (ht : P.underlying t = some (.slice e)) (hi : P.info? e = some i) (hz : i.zero = some z)
    (hsize : i.size = sz) (hby : i.bytes = bytes) (hzs : z.cells.size = sz) (hsz : 0 < sz)
    (A0 : Option Addr) (n c0 : Nat) (xs : List α) (hs : a.eval s = .slice A0 n c0) (hown : Om sz enc w base e A0 n c0 xs)
    (lo hi' : Nat) (A : Option Addr) (m c : Nat) (ys : List α) (hx : a.eval x = .slice A m c) (hr : Sm sz enc d w lo hi' A m ys) (h1 : ∀ y j, j < sz → (enc y j).oneCell' = true)
    (h63 : n + m ≤ maxLen) (hbytes : (n + m) * bytes ≤ 140737488355328) (hbase : base ≤ w.heap.size)
    (hK : ∀ A' c' w', Om sz enc w' base e A' (n + m) c' (xs ++ ys) → w.grownBy w' (Value.slice A0 n c0).ownBlock → ((Value.slice A' (n + m) c').ownBlock = (Value.slice A0 n c0).ownBlock ∨ (Value.slice A' (n + m) c').ownBlock = some w.heap.size) →
      K (a.put o.dst (.slice A' (n + m) c')) w') :
    if Region.wanted o (yielded ops a.tmps) = true then Oper.wp P o a w K Q else E := by
  have hw : Region.wanted o (yielded ops a.tmps) = true := by simp [Region.wanted, hg]
  rw [if_pos hw]
  obtain ⟨A', c', w', hrun, k1, k2, k3⟩ := run_appm sz enc d w t o.type base e i z bytes ht hi hz hsize hby hzs hsz A0 n c0 xs hown lo hi' A m c ys hr h1 h63 hbytes hbase
  unfold Oper.wp
  simp [execOp, hop, resolve, invoke, builtin, hs, hx, hrun, Result.andThen]
  exact hK A' c' w' k1 k2 k3
theorem wpList_appm {P : Program} {α : Type} (sz : Nat) (enc : α → Nat → Value) (d : α) (w : World) {ops : Array Oper} {rest : List Oper} {o : Oper} {a : Act} {Q : Exit → Act → World → Prop} (hgd : o.guard = none) (s x : Operand) (t : TypeId)
    (ho : o.op = .call { callee := .builtin .append, args := #[s, x], argTypes := #[t, t] })
    (base : Nat) (e : TypeId) (i : TypeInfo) (z : Value) (bytes : Nat) (ht : P.underlying t = some (.slice e)) (hi : P.info? e = some i) (hz : i.zero = some z)
    (hsize : i.size = sz) (hby : i.bytes = bytes) (hzs : z.cells.size = sz) (hsz : 0 < sz)
    (A0 : Option Addr) (n c0 : Nat) (xs : List α) (hs : a.eval s = .slice A0 n c0) (hown : Om sz enc w base e A0 n c0 xs)
    (lo hi' : Nat) (A : Option Addr) (m c : Nat) (ys : List α) (hx : a.eval x = .slice A m c) (hr : Sm sz enc d w lo hi' A m ys) (h1 : ∀ y j, j < sz → (enc y j).oneCell' = true)
    (h63 : n + m ≤ maxLen) (hbytes : (n + m) * bytes ≤ 140737488355328) (hbase : base ≤ w.heap.size)
    (h : ∀ A' c' w', Om sz enc w' base e A' (n + m) c' (xs ++ ys) → w.grownBy w' (Value.slice A0 n c0).ownBlock → ((Value.slice A' (n + m) c').ownBlock = (Value.slice A0 n c0).ownBlock ∨ (Value.slice A' (n + m) c').ownBlock = some w.heap.size) →
      wpList P ops Q rest (a.put o.dst (.slice A' (n + m) c')) w') :
    wpList P ops Q (o :: rest) a w := by
  refine wpList_plain hgd fun K hK => ?_
  obtain ⟨A', c', w', hrun, k1, k2, k3⟩ := run_appm sz enc d w t o.type base e i z bytes ht hi hz hsize hby hzs hsz A0 n c0 xs hown lo hi' A m c ys hr h1 h63 hbytes hbase
  unfold Oper.wp
  simp [execOp, ho, resolve, invoke, builtin, hs, hx, hrun, Result.andThen]
  exact hK _ _ (h A' c' w' k1 k2 k3)
end Go.Proofs.Ytbibfjncjklclaa

/- General words: owned rows, and blocks of another type. No condition. -/
namespace Go.Proofs.Ytbibfjncjklclaa
open Go.RowKit
section
variable {α : Type} {enc : α → Value} {w w' : World} {lo : Nat} {e : TypeId} {A : Option Addr} {n c : Nat} {xs : List α}
theorem Ow.blk (h : Ow enc w lo e A n c xs) : ∀ a, A = some a → lo ≤ a.block ∧ ∃ cs, Blk w a.block e cs := by
  intro a ha
  rcases h.own.2 with ⟨hv, h0⟩ | ⟨g, cap, cur, hv, hb1, hg, r⟩
  · simp only [Value.slice.injEq] at hv; obtain ⟨rfl, _⟩ := hv; cases ha
  · simp only [Value.slice.injEq] at hv; obtain ⟨rfl, _⟩ := hv; cases ha; exact ⟨hb1, cur, hg⟩
theorem Ow.ne_blk (h : Ow enc w lo e A n c xs) {g : Nat} {t : TypeId} {cs : Array Value} (hb : Blk w g t cs) (hne : t ≠ e) : ∀ a, A = some a → a.block ≠ g := by
  rintro a ha rfl
  obtain ⟨_, cs', h'⟩ := h.blk a ha
  unfold Blk at hb h'
  rw [hb] at h'
  simp only [Option.some.injEq, Obj.cells.injEq] at h'
  exact hne h'.2.1
/-- the row's block alone matters -/
theorem Ow.same (h : Ow enc w lo e A n c xs) (hs : ∀ a, A = some a → w'.heap[a.block]? = w.heap[a.block]?) : Ow enc w' lo e A n c xs := by
  refine ⟨h.len, h.own.1, ?_⟩
  rcases h.own.2 with hh | ⟨g, cap, cur, hv, hb1, hg, r⟩
  · exact .inl hh
  · refine .inr ⟨g, cap, cur, hv, hb1, ?_, r⟩
    simp only [Value.slice.injEq] at hv
    exact (hs ⟨g, 0, none⟩ hv.1).trans hg
theorem Ow.farB (h : Ow enc w lo e A n c xs) {p : Addr} (hp : ∀ a, A = some a → a.block ≠ p.block) (u : Value) : Ow enc (w.setCell p u) lo e A n c xs :=
  h.same fun a ha => Below.heap_setCell w p u a.block (hp a ha)
theorem Ow.farT (h : Ow enc w lo e A n c xs) {g : Nat} {t : TypeId} {cs : Array Value} (hb : Blk w g t cs) (hne : t ≠ e) (o : Nat) (u : Value) : Ow enc (w.setCell ⟨g, o, none⟩ u) lo e A n c xs :=
  h.farB (h.ne_blk hb hne) u
theorem Ow.keptG {row : Option Nat} (h : Ow enc w lo e A n c xs) (hg : w.grownBy w' row) (hr : ∀ a, A = some a → some a.block ≠ row) : Ow enc w' lo e A n c xs :=
  h.same fun a ha => by
    obtain ⟨_, cs, hb⟩ := h.blk a ha
    exact hg.block _ hb.lt (hr a ha)
end
section
variable {α : Type} {sz : Nat} {enc : α → Nat → Value} {w w' : World} {lo : Nat} {e : TypeId} {A : Option Addr} {n c : Nat} {xs : List α}
theorem Om.blk (h : Om sz enc w lo e A n c xs) : ∀ a, A = some a → lo ≤ a.block ∧ ∃ cs, Blk w a.block e cs := by
  intro a ha
  rcases h.own.2 with ⟨hv, h0⟩ | ⟨g, cap, cur, hv, hb1, hg, r⟩
  · simp only [Value.slice.injEq] at hv; obtain ⟨rfl, _⟩ := hv; cases ha
  · simp only [Value.slice.injEq] at hv; obtain ⟨rfl, _⟩ := hv; cases ha; exact ⟨hb1, cur, hg⟩
theorem Om.ne_blk (h : Om sz enc w lo e A n c xs) {g : Nat} {t : TypeId} {cs : Array Value} (hb : Blk w g t cs) (hne : t ≠ e) : ∀ a, A = some a → a.block ≠ g := by
  rintro a ha rfl
  obtain ⟨_, cs', h'⟩ := h.blk a ha
  unfold Blk at hb h'
  rw [hb] at h'
  simp only [Option.some.injEq, Obj.cells.injEq] at h'
  exact hne h'.2.1
theorem Om.same (h : Om sz enc w lo e A n c xs) (hs : ∀ a, A = some a → w'.heap[a.block]? = w.heap[a.block]?) : Om sz enc w' lo e A n c xs := by
  refine ⟨h.len, h.own.1, ?_⟩
  rcases h.own.2 with hh | ⟨g, cap, cur, hv, hb1, hg, r⟩
  · exact .inl hh
  · refine .inr ⟨g, cap, cur, hv, hb1, ?_, r⟩
    simp only [Value.slice.injEq] at hv
    exact (hs ⟨g, 0, none⟩ hv.1).trans hg
theorem Om.farB (h : Om sz enc w lo e A n c xs) {p : Addr} (hp : ∀ a, A = some a → a.block ≠ p.block) (u : Value) : Om sz enc (w.setCell p u) lo e A n c xs :=
  h.same fun a ha => Below.heap_setCell w p u a.block (hp a ha)
theorem Om.farT (h : Om sz enc w lo e A n c xs) {g : Nat} {t : TypeId} {cs : Array Value} (hb : Blk w g t cs) (hne : t ≠ e) (o : Nat) (u : Value) : Om sz enc (w.setCell ⟨g, o, none⟩ u) lo e A n c xs :=
  h.farB (h.ne_blk hb hne) u
theorem Om.keptG {row : Option Nat} (h : Om sz enc w lo e A n c xs) (hg : w.grownBy w' row) (hr : ∀ a, A = some a → some a.block ≠ row) : Om sz enc w' lo e A n c xs :=
  h.same fun a ha => by
    obtain ⟨_, cs, hb⟩ := h.blk a ha
    exact hg.block _ hb.lt (hr a ha)
theorem Om.at_ (h : Om sz enc w lo e A n c xs) (d : α) {k : Nat} (hk : k < n) : ∃ g, A = some ⟨g, 0, none⟩ ∧ lo ≤ g ∧ g < w.heap.size ∧ (∀ j, j < sz → w.cell? ⟨g, k * sz + j, none⟩ = some (enc (xs[k]?.getD d) j)) ∧ ∀ i, w.frozen? ⟨g, i, none⟩ = false := by
  obtain ⟨g, cap, hv, hlo, hhi⟩ := h.own.form (by omega)
  simp only [Value.slice.injEq] at hv
  obtain ⟨rfl, _, rfl⟩ := hv
  refine ⟨g, rfl, hlo, hhi, fun j hj => ?_, fun i => h.own.frozenAt i⟩
  have hkj : k * sz + j < n * sz := by
    have : (k + 1) * sz ≤ n * sz := Nat.mul_le_mul_right _ hk
    rw [Nat.succ_mul] at this; omega
  rw [h.own.cellAt _ hkj, flat_get d xs k j (by rw [h.len]; exact hk) hj]
end
theorem flat_set3 {α : Type} (enc : α → Nat → Value) : ∀ (xs : List α) (i : Nat) (s : α), flat 3 enc (xs.set i s) = if i < xs.length then (((flat 3 enc xs).set (i * 3) (enc s 0)).set (i * 3 + 1) (enc s 1)).set (i * 3 + 2) (enc s 2) else flat 3 enc xs
  | [], i, s => by simp [flat]
  | x :: xs, 0, s => by simp [flat, cellsOf, List.range_succ]
  | x :: xs, i + 1, s => by
    have ih := flat_set3 enc xs i s
    rw [List.set_cons_succ, flat_cons, flat_cons, ih]
    have hc : cellsOf 3 enc x = [enc x 0, enc x 1, enc x 2] := rfl
    rw [hc, show (i + 1) * 3 = i * 3 + 1 + 1 + 1 by omega, show i * 3 + 1 + 1 + 1 + 1 = (i * 3 + 1) + 1 + 1 + 1 by omega, show i * 3 + 1 + 1 + 1 + 2 = (i * 3 + 2) + 1 + 1 + 1 by omega]
    by_cases h : i < xs.length
    · rw [if_pos h, if_pos (by simp; omega)]
      rfl
    · rw [if_neg h, if_neg (by simp; omega)]
theorem flat_set2 {α : Type} (enc : α → Nat → Value) : ∀ (xs : List α) (i : Nat) (s : α), flat 2 enc (xs.set i s) = if i < xs.length then ((flat 2 enc xs).set (i * 2) (enc s 0)).set (i * 2 + 1) (enc s 1) else flat 2 enc xs
  | [], i, s => by simp [flat]
  | x :: xs, 0, s => by simp [flat, cellsOf, List.range_succ]
  | x :: xs, i + 1, s => by
    have ih := flat_set2 enc xs i s
    rw [List.set_cons_succ, flat_cons, flat_cons, ih]
    have hc : cellsOf 2 enc x = [enc x 0, enc x 1] := rfl
    rw [hc, show (i + 1) * 2 = i * 2 + 1 + 1 by omega, show i * 2 + 1 + 1 + 1 = (i * 2 + 1) + 1 + 1 by omega]
    by_cases h : i < xs.length
    · rw [if_pos h, if_pos (by simp; omega)]
      rfl
    · rw [if_neg h, if_neg (by simp; omega)]
/-- an element of three cells is stored -/
theorem Om.stored3 {α : Type} {enc : α → Nat → Value} {w : World} {lo : Nat} {e : TypeId} {g n c : Nat} {xs : List α} (h : Om 3 enc w lo e (some ⟨g, 0, none⟩) n c xs) (i : Nat) (s : α) (hi : i < n) :
    Om 3 enc (((w.setCell ⟨g, i * 3, none⟩ (enc s 0)).setCell ⟨g, i * 3 + 1, none⟩ (enc s 1)).setCell ⟨g, i * 3 + 2, none⟩ (enc s 2)) lo e (some ⟨g, 0, none⟩) n c (xs.set i s) := by
  refine ⟨by rw [List.length_set, h.len], ?_⟩
  rw [flat_set3, if_pos (by rw [h.len]; exact hi)]
  exact (((h.own.stored (i * 3) (enc s 0)).1.stored (i * 3 + 1) (enc s 1)).1.stored (i * 3 + 2) (enc s 2)).1
/-- a block that is laid gives the world a name -/
theorem named_alloc {K : World → Prop} {W : World} {t : TypeId} {cs : Array Value} (h : ∀ Wn : World, Blk Wn W.heap.size t cs → Below W.heap.size W Wn → Wn.heap.size = W.heap.size + 1 → K Wn) : K (W.alloc (.cells cs t)) :=
  h _ (Blk.new W t cs) (below_box W _) (by simp)
theorem grown_set {W Wn : World} {g : Nat} (h : W.grownBy Wn (some g)) (k : Nat) (u : Value) : W.grownBy (Wn.setCell ⟨g, k, none⟩ u) (some g) :=
  ⟨h.os, h.tape, h.output, by simpa using h.size, fun i hi hne => (Below.heap_setCell Wn ⟨g, k, none⟩ u i (fun e => hne (by rw [e]))).trans (h.block i hi hne)⟩
theorem named_store1 {K : World → Prop} {W : World} {g : Nat} {t : TypeId} {a0 a : Value} (hb : Blk W g t #[a0]) (h : ∀ Wn : World, Blk Wn g t #[a] → W.grownBy Wn (some g) → Wn.heap.size = W.heap.size → K Wn) : K (W.setCell ⟨g, 0, none⟩ a) :=
  h _ (hb.setCell 0 a) (grown_set (World.grownBy.refl W (some g)) 0 a) (by simp)
theorem named_store2 {K : World → Prop} {W : World} {g : Nat} {t : TypeId} {a0 b0 a b : Value} (hb : Blk W g t #[a0, b0]) (h : ∀ Wn : World, Blk Wn g t #[a, b] → W.grownBy Wn (some g) → Wn.heap.size = W.heap.size → K Wn) : K ((W.setCell ⟨g, 0, none⟩ a).setCell ⟨g, 1, none⟩ b) :=
  h _ ((hb.setCell 0 a).setCell 1 b) (grown_set (grown_set (World.grownBy.refl W (some g)) 0 a) 1 b) (by simp)
theorem named_store3 {K : World → Prop} {W : World} {g : Nat} {t : TypeId} {a0 b0 c0 a b c : Value} (hb : Blk W g t #[a0, b0, c0]) (h : ∀ Wn : World, Blk Wn g t #[a, b, c] → W.grownBy Wn (some g) → Wn.heap.size = W.heap.size → K Wn) : K (((W.setCell ⟨g, 0, none⟩ a).setCell ⟨g, 1, none⟩ b).setCell ⟨g, 2, none⟩ c) :=
  h _ (((hb.setCell 0 a).setCell 1 b).setCell 2 c) (grown_set (grown_set (grown_set (World.grownBy.refl W (some g)) 0 a) 1 b) 2 c) (by simp)
theorem named_store4 {K : World → Prop} {W : World} {g : Nat} {t : TypeId} {a0 b0 c0 d0 a b c d : Value} (hb : Blk W g t #[a0, b0, c0, d0]) (h : ∀ Wn : World, Blk Wn g t #[a, b, c, d] → W.grownBy Wn (some g) → Wn.heap.size = W.heap.size → K Wn) : K ((((W.setCell ⟨g, 0, none⟩ a).setCell ⟨g, 1, none⟩ b).setCell ⟨g, 2, none⟩ c).setCell ⟨g, 3, none⟩ d) :=
  h _ ((((hb.setCell 0 a).setCell 1 b).setCell 2 c).setCell 3 d) (grown_set (grown_set (grown_set (grown_set (World.grownBy.refl W (some g)) 0 a) 1 b) 2 c) 3 d) (by simp)
theorem named_store34 {K : World → Prop} {W : World} {g : Nat} {t : TypeId} {a0 b0 c0 d a b c : Value} (hb : Blk W g t #[a0, b0, c0, d]) (h : ∀ Wn : World, Blk Wn g t #[a, b, c, d] → W.grownBy Wn (some g) → Wn.heap.size = W.heap.size → K Wn) : K (((W.setCell ⟨g, 0, none⟩ a).setCell ⟨g, 1, none⟩ b).setCell ⟨g, 2, none⟩ c) :=
  h _ (((hb.setCell 0 a).setCell 1 b).setCell 2 c) (grown_set (grown_set (grown_set (World.grownBy.refl W (some g)) 0 a) 1 b) 2 c) (by simp)
/-- an element of three cells is stored -/
theorem named_row3 {α : Type} {enc : α → Nat → Value} {K : World → Prop} {W : World} {lo : Nat} {e : TypeId} {g n c : Nat} {xs : List α} (hm : Om 3 enc W lo e (some ⟨g, 0, none⟩) n c xs) (i : Nat) (s : α) (hi : i < n)
    (h : ∀ Wn : World, Om 3 enc Wn lo e (some ⟨g, 0, none⟩) n c (xs.set i s) → W.grownBy Wn (some g) → Wn.heap.size = W.heap.size → K Wn) : K (((W.setCell ⟨g, i * 3, none⟩ (enc s 0)).setCell ⟨g, i * 3 + 1, none⟩ (enc s 1)).setCell ⟨g, i * 3 + 2, none⟩ (enc s 2)) :=
  h _ (hm.stored3 i s hi) (grown_set (grown_set (grown_set (World.grownBy.refl W (some g)) _ _) _ _) _ _) (by simp)
end Go.Proofs.Ytbibfjncjklclaa

/- General words: a copy of cells onto cells that hold the same; rows of structures that are made. No condition. -/
namespace Go.Proofs.Ytbibfjncjklclaa
open Go.RowKit
/-- a copy that writes what is there already -/
theorem run_copy_idle {P : Program} (w : World) (dT sT ty elem : TypeId) (sz g o dLen dCap : Nat) (a : Addr) (sLen sCap m : Nat) (cur : Array Value) (t : TypeId) (cs : List Value)
    (hu : P.underlying dT = some (.slice elem)) (hs : (P.info? elem).map (·.size) = some sz)
    (hg : w.heap[g]? = some (.cells cur t (0, 0))) (hm : Nat.min sLen dLen = m) (hn : cs.length = m * sz)
    (hsrc : ∀ j v, cs[j]? = some v → w.cell? (a.add j) = some v) (hfit : o + cs.length ≤ cur.size) (h1 : ∀ v ∈ cs, v.oneCell' = true) (hsame : ∀ j, j < cs.length → cs[j]? = cur[o + j]?) :
    (Builtin.copy_ #[dT, sT] ty #[.slice (some ⟨g, o, none⟩) dLen dCap, .slice (some a) sLen sCap]).run P w = .ok (.int .i64 m) w := by
  have hl := run_loadCells_list (P := P) w a cs hsrc
  have hst := run_storeCells_at P g o t cs 0 cur w hg (by simpa using hfit) h1
  have hrow : (cur.toList.take o ++ cs ++ cur.toList.drop (o + cs.length)).toArray = cur := by
    apply Array.ext_getElem?
    intro j
    simp only [List.getElem?_toArray, List.getElem?_append, List.length_append, List.length_take, Array.length_toList, List.getElem?_take, List.getElem?_drop, Array.getElem?_toList]
    have ho : min o cur.size = o := by omega
    rw [ho]
    by_cases h1 : j < o + cs.length
    · rw [if_pos h1]
      by_cases h2 : j < o
      · rw [if_pos h2, if_pos h2]
      · rw [if_neg h2, hsame (j - o) (by omega), show o + (j - o) = j by omega]
    · rw [if_neg h1, show o + cs.length + (j - (o + cs.length)) = j by omega]
  rw [Nat.add_zero, hrow, setRow_self w g cur t (0, 0) hg] at hst
  subst hm
  cases hq : P.info? elem with
  | none => simp [hq] at hs
  | some i =>
    have hi : i.size = sz := by simpa [hq] using hs
    simp [Builtin.copy_, run_underlying hu, Builtin.lenOf, Builtin.firstCells, sizeOf, typeInfo, hq, hi, ← hn, hl, hst, goInt]
/-! ### what an append onto an owned row leaves as it was -/
theorem own_addr {A : Option Addr} {n c k : Nat} (h : (Value.slice A n c).ownBlock = some k) : ∃ a, A = some a ∧ a.block = k := by
  cases A with
  | none => simp [Value.ownBlock] at h
  | some a => exact ⟨a, rfl, by simpa [Value.ownBlock] using h⟩
section
variable {α β : Type} {sz : Nat} {encM : α → Nat → Value} {enc : α → Value} {encB : β → Value} {w w' : World} {lo lo2 : Nat} {e e2 : TypeId} {A A2 : Option Addr} {n c n2 c2 : Nat} {xs : List α} {ys : List β}
theorem Blk.keptM {g : Nat} {t : TypeId} {cs : Array Value} (hb : Blk w g t cs) (h : Om sz encM w lo e A n c xs) (hne : t ≠ e) (hg : w.grownBy w' (Value.slice A n c).ownBlock) : Blk w' g t cs :=
  hb.grown hg fun he => by obtain ⟨a, ha, hk⟩ := own_addr he.symm; exact h.ne_blk hb hne a ha hk
theorem Blk.keptO {g : Nat} {t : TypeId} {cs : Array Value} (hb : Blk w g t cs) (h : Ow enc w lo e A n c xs) (hne : t ≠ e) (hg : w.grownBy w' (Value.slice A n c).ownBlock) : Blk w' g t cs :=
  hb.grown hg fun he => by obtain ⟨a, ha, hk⟩ := own_addr he.symm; exact h.ne_blk hb hne a ha hk
theorem Ow.keptM (h2 : Ow encB w lo2 e2 A2 n2 c2 ys) (h : Om sz encM w lo e A n c xs) (hne : e2 ≠ e) (hg : w.grownBy w' (Value.slice A n c).ownBlock) : Ow encB w' lo2 e2 A2 n2 c2 ys :=
  h2.keptG hg fun a ha he => by
    obtain ⟨_, cs, hb⟩ := h2.blk a ha
    obtain ⟨a', ha', hk⟩ := own_addr he.symm
    exact h.ne_blk hb hne a' ha' hk
theorem Ow.keptO (h2 : Ow encB w lo2 e2 A2 n2 c2 ys) (h : Ow enc w lo e A n c xs) (hne : e2 ≠ e) (hg : w.grownBy w' (Value.slice A n c).ownBlock) : Ow encB w' lo2 e2 A2 n2 c2 ys :=
  h2.keptG hg fun a ha he => by
    obtain ⟨_, cs, hb⟩ := h2.blk a ha
    obtain ⟨a', ha', hk⟩ := own_addr he.symm
    exact h.ne_blk hb hne a' ha' hk
theorem Om.keptO {encN : β → Nat → Value} {sz2 : Nat} (h2 : Om sz2 encN w lo2 e2 A2 n2 c2 ys) (h : Ow enc w lo e A n c xs) (hne : e2 ≠ e) (hg : w.grownBy w' (Value.slice A n c).ownBlock) : Om sz2 encN w' lo2 e2 A2 n2 c2 ys :=
  h2.keptG hg fun a ha he => by
    obtain ⟨_, cs, hb⟩ := h2.blk a ha
    obtain ⟨a', ha', hk⟩ := own_addr he.symm
    exact h.ne_blk hb hne a' ha' hk
theorem Om.keptM {encN : β → Nat → Value} {sz2 : Nat} (h2 : Om sz2 encN w lo2 e2 A2 n2 c2 ys) (h : Om sz encM w lo e A n c xs) (hne : e2 ≠ e) (hg : w.grownBy w' (Value.slice A n c).ownBlock) : Om sz2 encN w' lo2 e2 A2 n2 c2 ys :=
  h2.keptG hg fun a ha he => by
    obtain ⟨_, cs, hb⟩ := h2.blk a ha
    obtain ⟨a', ha', hk⟩ := own_addr he.symm
    exact h.ne_blk hb hne a' ha' hk
end
end Go.Proofs.Ytbibfjncjklclaa

/- General words: a region that draws its order, whose last operations come one behind the other (stores); ahead of them loads may be taken first. No condition. -/
namespace Go.Proofs.Ytbibfjncjklclaa
open Go.RowKit
section
variable {P : Program} {ops : Array Oper} {Q : Exit → Act → World → Prop} {md : Region.Mode} {S : World → Prop} {n : Nat} {T : Array Bool → Act → World → Prop}
/-- the first operations, in whatever order; behind each S; behind all of them T -/
def wpAnyT (P : Program) (md : Region.Mode) (ops : Array Oper) (Q : Exit → Act → World → Prop) (S : World → Prop) (n : Nat) (T : Array Bool → Act → World → Prop) : Nat → Array Bool → Act → World → Prop
  | 0, listed, a, w => T listed a w
  | f + 1, listed, a, w => Region.ready md ops listed ≠ [] ∧ ∀ i ∈ Region.ready md ops listed, i < n ∧ wpOp P ops Q i (fun a' w' => S w' ∧ wpAnyT P md ops Q S n T f (listed.setIfInBounds i true) a' w') a w
theorem wpAny_of_T {g : Nat} (hT : ∀ listed a w, T listed a w → wpAny P md ops Q g listed a w) : ∀ (f : Nat) (listed : Array Bool) (a : Act) (w : World), wpAnyT P md ops Q S n T f listed a w → wpAny P md ops Q (f + g) listed a w
  | 0, listed, a, w, h => by rw [Nat.zero_add]; exact hT _ _ _ h
  | f + 1, listed, a, w, h => by
    rw [show f + 1 + g = (f + g) + 1 by omega]
    exact ⟨fun h0 => absurd h0 h.1, fun i hi => wpOp_mono (fun a' w' h' => wpAny_of_T hT f _ a' w' h'.2) (h.2 i hi).2⟩
theorem wpAnyT_first {i : Nat} {oi : Oper} {v : Value} (hi : ops[i]? = some oi) (hsel : ∀ (j : Nat) (o : Oper) cs b, ops[j]? = some o → o.op ≠ .select cs b)
    (hQ : ∀ c a w, Q (.panic c) (a.put oi.dst v) w → Q (.panic c) a w)
    (hs : Region.sinkB md ops n = true) (hc : Region.chainB md ops n = true) (hn : n < ops.size) (hin : i < n)
    (hdone : ∀ listed a w, T listed a w → ∀ j ∈ Region.ready md ops listed, n ≤ j) :
    ∀ (f : Nat) (listed : Array Bool) (a : Act) (w : World), HeadInv md ops n listed →
      (∀ j oj, ops[j]? = some oj → j ≠ i → listed.getD j true = false → (∀ e ∈ oj.after, Region.binds md e = true → e.on ≠ i) → oi.apart ops oj = true) →
      i ∈ Region.ready md ops listed → YieldsIf P ops S oi v a → S w →
      wpAnyT P md ops Q S n T f (listed.setIfInBounds i true) (a.put oi.dst v) w → wpAnyT P md ops Q S n T (f + 1) listed a w := by
  intro f
  induction f with
  | zero =>
    intro listed a w inv _ hr hy hS H
    have hun := (mem_ready.1 hr).1
    refine ⟨fun h => (by rw [h] at hr; cases hr), fun j hj => ?_⟩
    have hjn : j < n := by
      rcases Nat.lt_or_ge j n with h | h
      · exact h
      · exact absurd hj (tail_waits hs hc hn inv _ i rfl hin hun j h)
    refine ⟨hjn, ?_⟩
    by_cases hji : j = i
    · subst hji; exact hy.wpOp hi hS ⟨hS, H⟩
    · have := hdone _ _ _ H j (ready_mono hj hji)
      omega
  | succ f ih =>
    intro listed a w inv hfree hr hy hS H
    have hun := (mem_ready.1 hr).1
    refine ⟨fun h => (by rw [h] at hr; cases hr), fun j hj => ?_⟩
    have hjn : j < n := by
      rcases Nat.lt_or_ge j n with h | h
      · exact h
      · exact absurd hj (tail_waits hs hc hn inv _ i rfl hin hun j h)
    refine ⟨hjn, ?_⟩
    by_cases hji : j = i
    · subst hji; exact hy.wpOp hi hS ⟨hS, H⟩
    · have h1 := (H.2 j (ready_mono hj hji)).2
      obtain ⟨hjun, oj, hoj, hall⟩ := mem_ready.1 hj
      have hnot : ∀ e ∈ oj.after, Region.binds md e = true → e.on ≠ i := fun e he hb heq => by
        have h1 := hall e he hb
        rw [heq, getD_both hun] at h1
        cases h1
      have h2 := wpOp_putIf hoj (hfree j oj hoj hji hjun hnot) (fun cs b => hsel i oi cs b hi) (fun cs b => hsel j oj cs b hoj) hQ hy h1
      have hfree' : ∀ k ok, ops[k]? = some ok → k ≠ i → (listed.setIfInBounds j true).getD k true = false →
          (∀ e ∈ ok.after, Region.binds md e = true → e.on ≠ i) → oi.apart ops ok = true := fun k ok hk hki hun hno => by
        refine hfree k ok hk hki ?_ hno
        by_cases hjk : j = k
        · subst hjk; exact hjun
        · rw [getD_set_ne true hjk] at hun; exact hun
      refine wpOp_mono (fun a' w' h3 => ⟨h3.2.1, ih (listed.setIfInBounds j true) a' w' (inv.set hj hjn) hfree' (ready_mono hr (Ne.symm hji)) h3.1 h3.2.1 ?_⟩) h2
      rw [Array.setIfInBounds_comm _ _ hji]
      exact h3.2.2
def headInvB (md : Region.Mode) (ops : Array Oper) (n : Nat) (listed : Array Bool) : Bool :=
  decide (listed.size = ops.size) && ((List.range ops.size).all fun j => !listed.getD j false || ((ops[j]?).map (·.after.all fun e => !Region.binds md e || listed.getD e.on false)).getD true) && ((List.range ops.size).all fun t => decide (t < n) || !listed.getD t true)
theorem headInvB_spec {listed : Array Bool} (h : headInvB md ops n listed = true) : HeadInv md ops n listed := by
  unfold headInvB at h
  simp only [Bool.and_eq_true, decide_eq_true_eq] at h
  obtain ⟨⟨h1, h2⟩, h3⟩ := h
  refine ⟨h1, fun j oj hj hl e he hb => ?_, fun t ht htl => ?_⟩
  · have hjl : j < ops.size := (Array.getElem?_eq_some_iff.1 hj).1
    have := List.all_eq_true.1 h2 j (List.mem_range.2 hjl)
    rw [hl, hj] at this
    simp only [Bool.not_true, Bool.false_or, Option.map_some, Option.getD_some] at this
    have := Array.all_eq_true'.1 this e he
    rw [hb] at this
    simpa using this
  · have := List.all_eq_true.1 h3 t (List.mem_range.2 htl)
    simp only [Bool.or_eq_true, decide_eq_true_eq, Bool.not_eq_true'] at this
    rcases this with h | h
    · omega
    · exact h
/-- what the walk ends at: the last operations, one behind the other -/
def TailOf (P : Program) (Q : Exit → Act → World → Prop) (l : List Oper) (n : Nat) (listed : Array Bool) (a : Act) (w : World) : Prop :=
  Region.seqB .any l.toArray (l.length - n) n listed = true ∧ wpList P l.toArray Q (l.drop n) a w
def tailB (l : List Oper) (n : Nat) : Bool := Region.noSelect l.toArray && decide (n < l.length) && Region.sinkB .any l.toArray n && Region.chainB .any l.toArray n
theorem wpAnyT_take {l : List Oper} {i : Nat} {oi : Oper} {v : Value} {f : Nat} {listed : Array Bool} {a : Act} {w : World} (hB : tailB l n = true) (hi : l.toArray[i]? = some oi)
    (hb : (decide (i < n) && headInvB .any l.toArray n listed && Region.free .any l.toArray listed i && (Region.ready .any l.toArray listed).contains i) = true)
    (hQ : ∀ c a w, Q (.panic c) (a.put oi.dst v) w → Q (.panic c) a w) (hy : YieldsIf P l.toArray S oi v a) (hS : S w)
    (h : wpAnyT P .any l.toArray Q S n (TailOf P Q l n) f (listed.setIfInBounds i true) (a.put oi.dst v) w) : wpAnyT P .any l.toArray Q S n (TailOf P Q l n) (f + 1) listed a w := by
  simp only [tailB, Bool.and_eq_true, decide_eq_true_eq] at hB hb
  obtain ⟨⟨⟨hsel, hn⟩, hs⟩, hc⟩ := hB
  obtain ⟨⟨⟨hin, hinv⟩, hf⟩, hr⟩ := hb
  exact wpAnyT_first hi (Region.noSelect_spec hsel) hQ hs hc (by simpa using hn) hin (fun listed' a' w' hL => seqB_ready hL.1) f listed a w (headInvB_spec hinv) (Region.free_spec hi hf) (by simpa using hr) hy hS h
/-- each of these comes up next -/
def AllReadyT (P : Program) (ops : Array Oper) (Q : Exit → Act → World → Prop) (S : World → Prop) (n : Nat) (T : Array Bool → Act → World → Prop) (f : Nat) (listed : Array Bool) (a : Act) (w : World) (rs : List Nat) : Prop :=
  ∀ i ∈ rs, i < n ∧ wpOp P ops Q i (fun a' w' => S w' ∧ wpAnyT P .any ops Q S n T f (listed.setIfInBounds i true) a' w') a w
theorem AllReadyT.nil {f : Nat} {listed : Array Bool} {a : Act} {w : World} : AllReadyT P ops Q S n T f listed a w [] := fun _ h => by cases h
theorem AllReadyT.cons {f : Nat} {listed : Array Bool} {a : Act} {w : World} {i : Nat} {o : Oper} {rs : List Nat} (ho : ops[i]? = some o) (hin : decide (i < n) = true)
    (h : ∀ K' : Act → World → Prop, Shut (∀ a w, S w → wpAnyT P .any ops Q S n T f (listed.setIfInBounds i true) a w → K' a w) → if Region.wanted o (yielded ops a.tmps) = true then Oper.wp P o a w K' Q else K' (a.put o.dst undef) w)
    (hs : AllReadyT P ops Q S n T f listed a w rs) : AllReadyT P ops Q S n T f listed a w (i :: rs) := fun j hj => by
  rcases List.mem_cons.1 hj with rfl | hj
  · exact ⟨of_decide_eq_true hin, wpOp_step ho (fun K' hK => h K' (fun a w hS hW => hK a w ⟨hS, hW⟩))⟩
  · exact hs j hj
theorem wpAnyT_ready {f : Nat} {listed : Array Bool} {a : Act} {w : World} (rs : List Nat) (hr : Region.ready .any ops listed = rs) (hne : rs ≠ []) (h : AllReadyT P ops Q S n T f listed a w rs) : wpAnyT P .any ops Q S n T (f + 1) listed a w :=
  ⟨by rw [hr]; exact hne, by rw [hr]; exact h⟩
theorem wpAnyT_done {l : List Oper} {listed : Array Bool} {a : Act} {w : World} (hb : Region.seqB .any l.toArray (l.length - n) n listed = true) (h : wpList P l.toArray Q (l.drop n) a w) : wpAnyT P .any l.toArray Q S n (TailOf P Q l n) 0 listed a w := ⟨hb, h⟩
theorem wp_region_held_tail {id : Nat} {l : List Oper} {a : Act} {w : World} (n : Nat) (S : World → Prop) (L0 : Array Bool) (hm : P.follows .mixedOrders = true) (hS : S w.drew)
    (hn : decide (n ≤ l.length) = true) (hL0 : Array.replicate l.length false = L0) (h : S w.drew → wpAnyT P .any l.toArray Q S n (TailOf P Q l n) n L0 a w.drew) : (Code.region id l.toArray true).wp P Q a w := by
  subst hL0
  refine wp_region_any hm ?_
  have hn' := of_decide_eq_true hn
  have := wpAny_of_T (Q := Q) (g := l.length - n) (fun listed a' w' (hL : TailOf P Q l n listed a' w') => by
    have := wpAny_of_seq (md := .any) (Q' := Q) (l.drop n) n listed a' w' (fun j => by simp [List.getElem?_drop]) (by rw [List.length_drop]; exact hL.1) hL.2
    rwa [List.length_drop] at this) _ _ _ _ (h hS)
  rw [show n + (l.length - n) = l.length by omega] at this
  simpa using this
end
end Go.Proofs.Ytbibfjncjklclaa

/- Short words for the steps of a region that draws. No condition. -/
namespace Go.Proofs.Ytbibfjncjklclaa
open Go.RowKit
/-- what many ways come to, proved once -/
structure KeyH (T : Prop) : Prop where
  out : T
theorem merge_by {T G : Prop} (h : KeyH T → G) (pf : T) : G := h ⟨pf⟩
section
variable {P : Program} {ops : Array Oper} {Q : Exit → Act → World → Prop} {S : World → Prop}
theorem tk1 {i : Nat} {oi : Oper} {v : Value} {fuel : Nat} {listed : Array Bool} {a : Act} {w : World} (hi : ops[i]? = some oi := by simp only [List.getElem?_toArray, List.getElem?_cons_succ, List.getElem?_cons_zero]; rfl)
    (hs : Region.noSelect ops = true := by kernel_rfl) (hf : Region.free .any ops listed i = true := by kernel_rfl) (hr : (Region.ready .any ops listed).contains i = true := by kernel_rfl)
    (hQ : ∀ c a w, Q (.panic c) (a.put oi.dst v) w → Q (.panic c) a w := by exact fun _ _ _ h => h) (hy : YieldsIf P ops S oi v a) (hS : S w)
    (h : wpAnyH P .any ops Q S fuel (listed.setIfInBounds i true) (a.put oi.dst v) w) : wpAnyH P .any ops Q S (fuel + 1) listed a w :=
  wpAnyH_take hi hs hf hr hQ hy hS h
theorem rd1 {rs : List Nat} {fuel : Nat} {listed : Array Bool} {a : Act} {w : World} (hr : Region.ready .any ops listed = rs := by kernel_rfl) (hne : rs ≠ [] := by simp)
    (h : AllReadyH P .any ops Q S fuel listed a w rs) : wpAnyH P .any ops Q S (fuel + 1) listed a w := wpAnyH_ready hr hne h
theorem cs1 {fuel : Nat} {listed : Array Bool} {a : Act} {w : World} {i : Nat} {o : Oper} {rs : List Nat} (ho : ops[i]? = some o := by simp only [List.getElem?_toArray, List.getElem?_cons_succ, List.getElem?_cons_zero]; rfl)
    (h : ∀ K' : Act → World → Prop, Shut (∀ a w, S w → (S w → wpAnyH P .any ops Q S fuel (listed.setIfInBounds i true) a w) → K' a w) → if Region.wanted o (yielded ops a.tmps) = true then Oper.wp P o a w K' Q else K' (a.put o.dst undef) w)
    (hs : AllReadyH P .any ops Q S fuel listed a w rs) : AllReadyH P .any ops Q S fuel listed a w (i :: rs) := AllReadyH.cons ho h hs
end
end Go.Proofs.Ytbibfjncjklclaa

/- General words, eighth part: copy onto a whole new row; rows out of blocks. No condition. -/
namespace Go.Proofs.Ytbibfjncjklclaa
open Go.RowKit
/-- the run of a copy over the whole of a row -/
theorem run_copy_full {P : Program} {w : World} {α : Type} (enc : α → Value) (dd : α) (dT sT ty elem : TypeId) (hu : P.underlying dT = some (.slice elem)) (hsz : (P.info? elem).map (·.size) = some 1)
    (g n c sc : Nat) (A : Option Addr) (cur : Array Value) (t : TypeId) (hg : Blk w g t cur) (hcur : cur.size = n) (lo hi : Nat) (xs : List α) (hr : Sl enc dd w lo hi A n xs) (h1 : ∀ y, (enc y).oneCell' = true) :
    (Builtin.copy_ #[dT, sT] ty #[.slice (some ⟨g, 0, none⟩) n c, .slice A n sc]).run P w = .ok (.int .i64 n) (w.setRow g (xs.map enc).toArray) := by
  have hl := hr.len
  by_cases h0 : n = 0
  · subst h0
    obtain rfl : xs = [] := List.eq_nil_of_length_eq_zero hl
    obtain rfl : cur = #[] := Array.eq_empty_of_size_eq_zero hcur
    have e : w.setRow g (List.map enc []).toArray = w := setRow_self w g #[] t (0, 0) hg
    rw [e]
    exact run_copy_none w dT sT ty elem _ _ 0 c 0 sc hu hsz rfl
  · obtain ⟨b, off, rfl, _, _, hc⟩ := hr.row (by omega)
    have hrun := run_copy_row (P := P) w dT sT ty elem g 0 n c ⟨b, off, none⟩ n sc cur t (xs.map enc) hu hsz hg (by simp [hl, Nat.min_def])
      (fun j v hj => by
        have hj' : j < n := by have := (List.getElem?_eq_some_iff.1 hj).1; rwa [List.length_map, hl] at this
        rw [Addr.add_lit, hc j hj', ← hj, List.getElem?_map, List.getElem?_eq_getElem (by rw [hl]; exact hj')]
        rfl) (by simp [hl, hcur]) (fun v hv => by obtain ⟨y, _, rfl⟩ := List.mem_map.1 hv; exact h1 y)
    have e : (cur.toList.take 0 ++ (xs.map enc ++ cur.toList.drop (0 + (xs.map enc).length))) = xs.map enc := by
      have : cur.toList.drop (0 + (xs.map enc).length) = [] := List.drop_eq_nil_of_le (by simp [hl, hcur])
      rw [this]; simp
    rw [hrun]
    simp only [← List.append_assoc] at e ⊢
    simp only [List.append_assoc] at e ⊢
    rw [e, List.length_map, hl]
    rfl
/-- a block known whole is an owned row -/
theorem Blk.ow {α : Type} {enc : α → Value} {w : World} {g : Nat} {e : TypeId} {cs : Array Value} {xs : List α} {n lo : Nat} (h : Blk w g e cs) (hcs : cs = (xs.map enc).toArray) (hn : xs.length = n) (hlo : lo ≤ g) (hm : n ≤ maxLen) : Ow enc w lo e (some ⟨g, 0, none⟩) n n xs := by
  subst hcs
  refine ⟨hn, by simp [hn], .inr ⟨g, n, (xs.map enc).toArray, rfl, hlo, h, Nat.le_refl _, hm, by simp [hn], ?_⟩⟩
  simp [hn, List.take_of_length_le]
theorem below_setRow' {B : Nat} {a w : World} (h : Below B a w) {g : Nat} (hg : B ≤ g) (cs : Array Value) : Below B a (w.setRow g cs) := below_setRow h hg cs
theorem Sl.setRow' {α : Type} {enc : α → Value} {d : α} {w : World} {lo hi : Nat} {A : Option Addr} {n : Nat} {xs : List α} (h : Sl enc d w lo hi A n xs) {g : Nat} (hg : hi ≤ g) (cs : Array Value) : Sl enc d (w.setRow g cs) lo hi A n xs := h.setRow (.inr hg) cs
theorem Sl.sub {α : Type} {enc : α → Value} {d : α} {w : World} {lo hi b off n : Nat} {xs : List α} (h : Sl enc d w lo hi (some ⟨b, off, none⟩) n xs) {i k : Nat} (hik : i + k ≤ n) : Sl enc d w lo hi (some ⟨b, off + i, none⟩) k ((xs.drop i).take k) := by
  refine ⟨by have := h.len; simp; omega, fun hn => ?_⟩
  obtain ⟨b', off', e, h1, h2, h3⟩ := h.row (by omega)
  obtain ⟨rfl, rfl⟩ : b = b' ∧ off = off' := by simpa using e
  refine ⟨b, off + i, rfl, h1, h2, fun j hj => ?_⟩
  rw [Nat.add_assoc, h3 (i + j) (by omega), List.getElem?_take, if_pos hj, List.getElem?_drop]
/-- a row whose places i .. i+k-1 hold v -/
def setR {α : Type} (xs : List α) (i : Nat) (v : α) : Nat → List α
  | 0 => xs
  | k + 1 => (setR xs i v k).set (i + k) v
theorem setR_length {α : Type} (xs : List α) (i : Nat) (v : α) (k : Nat) : (setR xs i v k).length = xs.length := by
  induction k with
  | zero => rfl
  | succ k ih => simp [setR, ih]
theorem setR_get {α : Type} (xs : List α) (i : Nat) (v : α) (k j : Nat) (d : α) (hk : i + k ≤ xs.length) : (setR xs i v k)[j]?.getD d = if i ≤ j ∧ j < i + k then v else xs[j]?.getD d := by
  induction k with
  | zero => rw [if_neg (by omega)]; rfl
  | succ k ih =>
    rw [setR, List.getElem?_set]
    by_cases e : i + k = j
    · subst e
      rw [if_pos rfl, if_pos (by rw [setR_length]; omega), if_pos (by omega)]
      rfl
    · rw [if_neg e, ih (by omega)]
      by_cases h : i ≤ j ∧ j < i + k
      · rw [if_pos h, if_pos (by omega)]
      · rw [if_neg h, if_neg (by omega)]
theorem Ow.far {α : Type} {enc : α → Value} {W : World} {lo : Nat} {e : TypeId} {ga n c : Nat} {xs : List α} (h : Ow enc W lo e (some ⟨ga, 0, none⟩) n c xs) {p : Addr} (hp : ga ≠ p.block) (u : Value) : Ow enc (W.setCell p u) lo e (some ⟨ga, 0, none⟩) n c xs := by
  refine ⟨h.len, h.own.1, ?_⟩
  rcases h.own.2 with ⟨hv, _⟩ | ⟨g, cap, cur, hv, hb1, hgg, r⟩
  · simp at hv
  · simp only [Value.slice.injEq, Option.some.injEq, Addr.mk.injEq] at hv
    obtain ⟨⟨rfl, _⟩, _⟩ := hv
    exact .inr ⟨ga, cap, cur, by simp_all, hb1, (Below.heap_setCell W p u ga hp).trans hgg, r⟩
end Go.Proofs.Ytbibfjncjklclaa

/- A range over a function whose iterator writes one block of cells of its own between the rounds: what its caller owes. No condition. -/
namespace Go.Proofs.Ytbibfjncjklclaa
open Go.RowKit
/-- what the caller says abides a step of the iterator: new blocks, and a turn of block D -/
def StepsD (D : Nat) (J : Nat → World → Prop) : Prop := ∀ k A B, J k A → A.grownBy B (some D) → J k B
/-- what is said abides the law's own book-keeping: new blocks, and a turn of one that is no cells and lies from B0 on -/
def Books {β : Type} (B0 : Nat) (I : β → World → Prop) : Prop := ∀ s A B row, I s A → A.grownBy B row → (∀ r, row = some r → B0 ≤ r ∧ ∃ o : Obj, A.heap[r]? = some o ∧ o.isCells = false) → I s B
theorem Books.put {β : Type} {B0 : Nat} {I : β → World → Prop} (h : Books B0 I) {s : β} {W : World} {l : Nat} {o : Obj} (o' : Obj) (hs : I s W) (hB : B0 ≤ l) (hl : W.heap[l]? = some o) (ho : o.isCells = false) : I s (W.putObj l o') :=
  h s W _ (some l) hs (grownBy_putObj' W l o') fun r e => by cases e; exact ⟨hB, o, hl, ho⟩
theorem Books.alloc {β : Type} {B0 : Nat} {I : β → World → Prop} (h : Books B0 I) {s : β} {W : World} (o : Obj) (hs : I s W) : I s (W.alloc o) :=
  h s W _ none hs (World.grownBy_alloc W o none) fun r e => by cases e
/-- the contract of an iterator with a state: It k: k elements have been handed out; N: how many there are; vs k: what yield is handed -/
def StateSeq (F : Fence) (m : Nat) (P : Program) (gf : Nat) (lb : Array Value) (vs : Nat → Array Value) (N D : Nat) (It : Nat → World → Prop) : Prop :=
  ∀ (l : Nat) (J Jx : Nat → World → Prop) (W : World), StepsD D J →
    (∀ k W1, k < N → J k W1 → It (k + 1) W1 → YieldAt F (m - 1) P l (vs k) W1 fun e W' => (e = .returned (.bool true) ∧ J (k + 1) W' ∧ It (k + 1) W') ∨ (e = .returned (.bool false) ∧ Jx (k + 1) W')) →
    J 0 W → It 0 W → CallsIn F m P gf (#[.func (.yield l) #[] #[]] ++ lb) W fun e W' => (∃ v, e = .returned v) ∧ ((J N W' ∧ It N W') ∨ ∃ k, Jx k W')
/-- how a round may be left -/
def roundEnd (B0 : Nat) (I It : Nat → World → Prop) (Ix : Code → Nat → World → Prop) (k : Nat) (W : World) : Exit → Act → World → Prop
  | .normal, _, W' => KeepsFrom B0 W W' ∧ I k W' ∧ It k W'
  | .ret, _, W' => KeepsFrom B0 W W' ∧ Ix .ret k W'
  | .exit id, _, W' => KeepsFrom B0 W W' ∧ Ix (.exit id) k W'
  | .goto t, _, W' => KeepsFrom B0 W W' ∧ Ix (.goto t) k W'
  | .panic _, _, _ => False
  | .outgrown, _, _ => False
set_option maxHeartbeats 2000000 in
theorem wpIn_rangeFunc_state {F : Fence} {n : Nat} {P : Program} {g : Operand} {ps : Array Tmp} {assign body : Code} {Q : Exit → Act → World → Prop} {a : Act} {w : World} (hround : F.round = none) (h1 : 1 ≤ n)
    {gf : Nat} {lb : Array Value} (hg : a.eval g = .func (.func gf) #[] lb) (hin : F.fn gf) (eg : ∀ args w, (callFunc gf args).run P w = .ok (.enter gf args) w)
    {vs : Nat → Array Value} {N D : Nat} {It : Nat → World → Prop} (hseq : StateSeq F (n - 1) P gf lb vs N D It) (hvs : ∀ k, (vs k).size = ps.size) (hD : D < w.heap.size)
    (I : Nat → World → Prop) (Ix : Code → Nat → World → Prop) (hI : Books w.heap.size I) (hT : Books w.heap.size It) (hX : ∀ c, Books w.heap.size (Ix c)) (hID : StepsD D I) (h0 : I 0 w) (t0 : It 0 w) (after : Nat → Act)
    (hassign : ∀ (l k : Nat) (W : World) (K : Act → World → Prop), K (after k) W → assign.wpIn (F.inRound l) (n - 1 - 1) P (Exit.then K (fun _ _ _ => False)) { tmps := (ps.zip (vs k)).foldl (fun t (p, v) => t.setIfInBounds p v) a.tmps, defers := [] } W)
    (hbody : ∀ (l k : Nat) (W : World), k < N → I k W → It (k + 1) W → body.wpIn (F.inRound l) (n - 1 - 1) P (roundEnd w.heap.size I It Ix (k + 1) W) (after k) W)
    (hdone : ∀ (b : Nat) (W : World), w.heap.size ≤ b → I N W → It N W → W.heap[b]? = some (.deferred (some [])) → Q .normal { a with defers := { target := .collected b, args := #[] } :: a.defers } W)
    (hstop : ∀ (b k : Nat) (c : Code) (W : World), w.heap.size ≤ b → Ix c k W → W.heap[b]? = some (.deferred (some [])) → c.wpIn F n P Q { a with defers := { target := .collected b, args := #[] } :: a.defers } W) :
    (Code.rangeFunc g ps assign body).wpIn F n P Q a w := by
  refine wpIn_rangeFunc fun fn hfn => ?_
  rw [hround]
  -- the record, by its state and the jump that is pending
  let mk : LoopState → Option Code → Obj := fun st pe => .loop { state := st, pending := pe, fn, tmps := a.tmps, params := ps, assign, body, defers := w.heap.size }
  have hmk : ∀ st pe, (mk st pe).isCells = false := fun _ _ => rfl
  generalize hW1 : (w.alloc (.deferred (some []))).alloc (mk .ready none) = W1
  have rec1 : W1.heap[w.heap.size + 1]? = some (mk .ready none) := by
    have := World.alloc_heap_new (w.alloc (.deferred (some []))) (mk .ready none)
    rw [World.size_alloc] at this
    rw [← hW1]; exact this
  have def1 : W1.heap[w.heap.size]? = some (.deferred (some [])) := by
    rw [← hW1]; exact (Below.heap_alloc _ _ _ (by simp)).trans (World.alloc_heap_new w _)
  have keepD : ∀ {A B : World} {k : Nat} {o : Obj}, A.grownBy B (some D) → A.heap[k]? = some o → w.heap.size ≤ k → B.heap[k]? = some o := fun hg hk hle =>
    (hg.block _ (Array.getElem?_eq_some_iff.1 hk).1 (fun e => by cases e; omega)).trans hk
  refine ⟨w.heap.size + 1, [{ target := .collected w.heap.size, args := #[] }], W1, { target := .fn (.func gf) lb, args := #[.func (.yield (w.heap.size + 1)) #[] #[]] }, W1, gf, #[.func (.yield (w.heap.size + 1)) #[] #[]] ++ lb, W1,
    by rw [← hW1]; exact run_enterLoop_outer _ _ _ _ _, by simp only [resolve, hg]; simp [go_sem], fun f' hf' => by simp [Target.leads] at hf'; subst hf'; exact hin, by simp [invoke, go_sem, eg _ _], fun _ => h1, ?_⟩
  refine (hseq (w.heap.size + 1) (fun k W => I k W ∧ W.heap[w.heap.size + 1]? = some (mk .ready none) ∧ W.heap[w.heap.size]? = some (.deferred (some [])))
    (fun k W => ∃ c, Ix c k W ∧ W.heap[w.heap.size + 1]? = some (mk .done (some c)) ∧ W.heap[w.heap.size]? = some (.deferred (some []))) W1 ?_ ?_
    ⟨by rw [← hW1]; exact hI.alloc _ (hI.alloc _ h0), rec1, def1⟩ (by rw [← hW1]; exact hT.alloc _ (hT.alloc _ t0))).mono ?_
  · exact fun k A B hs hgr => ⟨hID k A B hs.1 hgr, keepD hgr hs.2.1 (by omega), keepD hgr hs.2.2 (Nat.le_refl _)⟩
  · -- a round
    rintro k W hk ⟨hi, hl, hd⟩ ht
    refine ⟨fn, _, assign, body, run_yield (P := P) (args := vs k) hl (by rw [hvs k]), roundIn_of_wpIn hfn (hassign _ k W _ ?_)⟩
    refine ⟨_, run_beginRound hl rfl, ?_⟩
    have hlt : w.heap.size + 1 < W.heap.size := (Array.getElem?_eq_some_iff.1 hl).1
    have hl2 : (W.putObj (w.heap.size + 1) (mk .busy none)).heap[w.heap.size + 1]? = some (mk .busy none) := World.putObj_heap_same hlt
    have hd2 : (W.putObj (w.heap.size + 1) (mk .busy none)).heap[w.heap.size]? = some (.deferred (some [])) := (World.putObj_heap_other (by omega)).trans hd
    refine wpIn_mono (hbody _ k _ hk (hI.put _ hi (by omega) hl rfl) (hT.put _ ht (by omega) hl rfl)) ?_
    have over : ∀ (jump : Option Code) (W3 : World), KeepsFrom w.heap.size (W.putObj (w.heap.size + 1) (mk .busy none)) W3 →
        W3.heap[w.heap.size + 1]? = some (mk .busy none) ∧ (Instr.endRound (w.heap.size + 1) jump).run P W3 = .ok (.bool jump.isNone) (W3.putObj (w.heap.size + 1) (mk (if jump.isNone then .ready else .done) jump)) ∧
        (W3.putObj (w.heap.size + 1) (mk (if jump.isNone then .ready else .done) jump)).heap[w.heap.size + 1]? = some (mk (if jump.isNone then .ready else .done) jump) ∧
        (W3.putObj (w.heap.size + 1) (mk (if jump.isNone then .ready else .done) jump)).heap[w.heap.size]? = some (.deferred (some [])) := fun jump W3 hk3 => by
      have hl3 := hk3.same _ _ (by omega) hl2 rfl
      exact ⟨hl3, run_endRound jump hl3, World.putObj_heap_same (Array.getElem?_eq_some_iff.1 hl3).1, (World.putObj_heap_other (by omega)).trans (hk3.same _ _ (Nat.le_refl _) hd2 rfl)⟩
    intro e a3 W3 hp
    cases e with
    | normal =>
      obtain ⟨hk3, hi3, ht3⟩ := hp
      obtain ⟨hl3, hr, hl4, hd4⟩ := over none W3 hk3
      exact ⟨_, _, hr, .inl ⟨rfl, ⟨hI.put _ hi3 (by omega) hl3 rfl, hl4, hd4⟩, hT.put _ ht3 (by omega) hl3 rfl⟩⟩
    | ret =>
      obtain ⟨hl3, hr, hl4, hd4⟩ := over (some .ret) W3 hp.1
      exact ⟨_, _, hr, .inr ⟨rfl, _, (hX _).put _ hp.2 (by omega) hl3 rfl, hl4, hd4⟩⟩
    | exit id =>
      obtain ⟨hl3, hr, hl4, hd4⟩ := over (some (.exit id)) W3 hp.1
      exact ⟨_, _, hr, .inr ⟨rfl, _, (hX _).put _ hp.2 (by omega) hl3 rfl, hl4, hd4⟩⟩
    | goto t =>
      obtain ⟨hl3, hr, hl4, hd4⟩ := over (some (.goto t)) W3 hp.1
      exact ⟨_, _, hr, .inr ⟨rfl, _, (hX _).put _ hp.2 (by omega) hl3 rfl, hl4, hd4⟩⟩
    | panic _ => exact hp.elim
    | outgrown => exact hp.elim
  · -- behind the iterator
    rintro e W2 ⟨⟨v, rfl⟩, ⟨⟨hi, hl, hd⟩, ht⟩ | ⟨k, c, hx, hl, hd⟩⟩
    · exact ⟨none, _, run_endLoop hl (by simp), hdone _ _ (Nat.le_refl _) (hI.put _ hi (by omega) hl rfl) (hT.put _ ht (by omega) hl rfl) ((World.putObj_heap_other (by omega)).trans hd)⟩
    · exact ⟨some c, _, run_endLoop hl (by simp), hstop _ k c _ (Nat.le_refl _) ((hX c).put _ hx (by omega) hl rfl) ((World.putObj_heap_other (by omega)).trans hd)⟩
end Go.Proofs.Ytbibfjncjklclaa

/- A range over a function whose iterator writes some blocks of cells of its own between the rounds: what its caller owes. No condition. -/
namespace Go.Proofs.Ytbibfjncjklclaa
open Go.RowKit
/-- new blocks, and turns of the blocks p -/
structure GrownP (p : Nat → Prop) (w w' : World) : Prop where
  os : w'.os = w.os
  tape : w'.tape = w.tape
  output : w'.output = w.output
  size : w.heap.size ≤ w'.heap.size
  block : ∀ i, i < w.heap.size → ¬ p i → w'.heap[i]? = w.heap[i]?
theorem GrownP.refl (p : Nat → Prop) (w : World) : GrownP p w w := ⟨rfl, rfl, rfl, Nat.le_refl _, fun _ _ _ => rfl⟩
theorem GrownP.trans {p : Nat → Prop} {a b c : World} (h : GrownP p a b) (k : GrownP p b c) : GrownP p a c :=
  ⟨k.os.trans h.os, k.tape.trans h.tape, k.output.trans h.output, Nat.le_trans h.size k.size, fun i hi hp => (k.block i (Nat.lt_of_lt_of_le hi h.size) hp).trans (h.block i hi hp)⟩
theorem GrownP.ofBelow {p : Nat → Prop} {w w' : World} (h : Below w.heap.size w w') : GrownP p w w' := ⟨h.os, h.tape, h.output, h.size, fun i hi _ => h.block i hi⟩
theorem GrownP.ofGrown {p : Nat → Prop} {w w' : World} {g : Nat} (h : w.grownBy w' (some g)) (hp : p g) : GrownP p w w' := ⟨h.os, h.tape, h.output, h.size, fun i hi hn => h.block i hi (fun e => by cases e; exact hn hp)⟩
theorem GrownP.below {p : Nat → Prop} {B : Nat} {a w w' : World} (h : Below B a w) (k : GrownP p w w') (hp : ∀ i, p i → B ≤ i) (hB : B ≤ w.heap.size) : Below B a w' :=
  ⟨k.os.trans h.os, k.tape.trans h.tape, k.output.trans h.output, Nat.le_trans h.size k.size, fun i hi => (k.block i (Nat.lt_of_lt_of_le hi hB) (fun e => by have := hp i e; omega)).trans (h.block i hi)⟩
/-- what the caller says abides a step of the iterator: new blocks, and turns of the blocks p -/
def StepsP (p : Nat → Prop) (J : Nat → World → Prop) : Prop := ∀ k A B, J k A → GrownP p A B → J k B
/-- the contract of an iterator with a state: It k: k elements have been handed out; N: how many there are; vs k: what yield is handed -/
def StateSeqP (F : Fence) (m : Nat) (P : Program) (gf : Nat) (lb : Array Value) (vs : Nat → Array Value) (N : Nat) (p : Nat → Prop) (It : Nat → World → Prop) : Prop :=
  ∀ (l : Nat) (J Jx : Nat → World → Prop) (W : World), StepsP p J →
    (∀ k W1, k < N → J k W1 → It (k + 1) W1 → YieldAt F (m - 1) P l (vs k) W1 fun e W' => (e = .returned (.bool true) ∧ J (k + 1) W' ∧ It (k + 1) W') ∨ (e = .returned (.bool false) ∧ Jx (k + 1) W')) →
    J 0 W → It 0 W → CallsIn F m P gf (#[.func (.yield l) #[] #[]] ++ lb) W fun e W' => (∃ v, e = .returned v) ∧ ((J N W' ∧ It N W') ∨ ∃ k, Jx k W')
set_option maxHeartbeats 2000000 in
theorem wpIn_rangeFunc_stateP {F : Fence} {n : Nat} {P : Program} {g : Operand} {ps : Array Tmp} {assign body : Code} {Q : Exit → Act → World → Prop} {a : Act} {w : World} (hround : F.round = none) (h1 : 1 ≤ n)
    {gf : Nat} {lb : Array Value} (hg : a.eval g = .func (.func gf) #[] lb) (hin : F.fn gf) (eg : ∀ args w, (callFunc gf args).run P w = .ok (.enter gf args) w)
    {vs : Nat → Array Value} {N : Nat} {p : Nat → Prop} {It : Nat → World → Prop} (hseq : StateSeqP F (n - 1) P gf lb vs N p It) (hvs : ∀ k, (vs k).size = ps.size) (hD : ∀ i, p i → i < w.heap.size)
    (I : Nat → World → Prop) (Ix : Code → Nat → World → Prop) (hI : Books w.heap.size I) (hT : Books w.heap.size It) (hX : ∀ c, Books w.heap.size (Ix c)) (hID : StepsP p I) (h0 : I 0 w) (t0 : It 0 w) (after : Nat → Act)
    (hassign : ∀ (l k : Nat) (W : World) (K : Act → World → Prop), K (after k) W → assign.wpIn (F.inRound l) (n - 1 - 1) P (Exit.then K (fun _ _ _ => False)) { tmps := (ps.zip (vs k)).foldl (fun t (q, v) => t.setIfInBounds q v) a.tmps, defers := [] } W)
    (hbody : ∀ (l k : Nat) (W : World), k < N → I k W → It (k + 1) W → body.wpIn (F.inRound l) (n - 1 - 1) P (roundEnd w.heap.size I It Ix (k + 1) W) (after k) W)
    (hdone : ∀ (b : Nat) (W : World), w.heap.size ≤ b → I N W → It N W → W.heap[b]? = some (.deferred (some [])) → Q .normal { a with defers := { target := .collected b, args := #[] } :: a.defers } W)
    (hstop : ∀ (b k : Nat) (c : Code) (W : World), w.heap.size ≤ b → Ix c k W → W.heap[b]? = some (.deferred (some [])) → c.wpIn F n P Q { a with defers := { target := .collected b, args := #[] } :: a.defers } W) :
    (Code.rangeFunc g ps assign body).wpIn F n P Q a w := by
  refine wpIn_rangeFunc fun fn hfn => ?_
  rw [hround]
  -- the record, by its state and the jump that is pending
  let mk : LoopState → Option Code → Obj := fun st pe => .loop { state := st, pending := pe, fn, tmps := a.tmps, params := ps, assign, body, defers := w.heap.size }
  have hmk : ∀ st pe, (mk st pe).isCells = false := fun _ _ => rfl
  generalize hW1 : (w.alloc (.deferred (some []))).alloc (mk .ready none) = W1
  have rec1 : W1.heap[w.heap.size + 1]? = some (mk .ready none) := by
    have := World.alloc_heap_new (w.alloc (.deferred (some []))) (mk .ready none)
    rw [World.size_alloc] at this
    rw [← hW1]; exact this
  have def1 : W1.heap[w.heap.size]? = some (.deferred (some [])) := by
    rw [← hW1]; exact (Below.heap_alloc _ _ _ (by simp)).trans (World.alloc_heap_new w _)
  have keepD : ∀ {A B : World} {k : Nat} {o : Obj}, GrownP p A B → A.heap[k]? = some o → w.heap.size ≤ k → B.heap[k]? = some o := fun hg hk hle =>
    (hg.block _ (Array.getElem?_eq_some_iff.1 hk).1 (fun e => by have := hD _ e; omega)).trans hk
  refine ⟨w.heap.size + 1, [{ target := .collected w.heap.size, args := #[] }], W1, { target := .fn (.func gf) lb, args := #[.func (.yield (w.heap.size + 1)) #[] #[]] }, W1, gf, #[.func (.yield (w.heap.size + 1)) #[] #[]] ++ lb, W1,
    by rw [← hW1]; exact run_enterLoop_outer _ _ _ _ _, by simp only [resolve, hg]; simp [go_sem], fun f' hf' => by simp [Target.leads] at hf'; subst hf'; exact hin, by simp [invoke, go_sem, eg _ _], fun _ => h1, ?_⟩
  refine (hseq (w.heap.size + 1) (fun k W => I k W ∧ W.heap[w.heap.size + 1]? = some (mk .ready none) ∧ W.heap[w.heap.size]? = some (.deferred (some [])))
    (fun k W => ∃ c, Ix c k W ∧ W.heap[w.heap.size + 1]? = some (mk .done (some c)) ∧ W.heap[w.heap.size]? = some (.deferred (some []))) W1 ?_ ?_
    ⟨by rw [← hW1]; exact hI.alloc _ (hI.alloc _ h0), rec1, def1⟩ (by rw [← hW1]; exact hT.alloc _ (hT.alloc _ t0))).mono ?_
  · exact fun k A B hs hgr => ⟨hID k A B hs.1 hgr, keepD hgr hs.2.1 (by omega), keepD hgr hs.2.2 (Nat.le_refl _)⟩
  · -- a round
    rintro k W hk ⟨hi, hl, hd⟩ ht
    refine ⟨fn, _, assign, body, run_yield (P := P) (args := vs k) hl (by rw [hvs k]), roundIn_of_wpIn hfn (hassign _ k W _ ?_)⟩
    refine ⟨_, run_beginRound hl rfl, ?_⟩
    have hlt : w.heap.size + 1 < W.heap.size := (Array.getElem?_eq_some_iff.1 hl).1
    have hl2 : (W.putObj (w.heap.size + 1) (mk .busy none)).heap[w.heap.size + 1]? = some (mk .busy none) := World.putObj_heap_same hlt
    have hd2 : (W.putObj (w.heap.size + 1) (mk .busy none)).heap[w.heap.size]? = some (.deferred (some [])) := (World.putObj_heap_other (by omega)).trans hd
    refine wpIn_mono (hbody _ k _ hk (hI.put _ hi (by omega) hl rfl) (hT.put _ ht (by omega) hl rfl)) ?_
    have over : ∀ (jump : Option Code) (W3 : World), KeepsFrom w.heap.size (W.putObj (w.heap.size + 1) (mk .busy none)) W3 →
        W3.heap[w.heap.size + 1]? = some (mk .busy none) ∧ (Instr.endRound (w.heap.size + 1) jump).run P W3 = .ok (.bool jump.isNone) (W3.putObj (w.heap.size + 1) (mk (if jump.isNone then .ready else .done) jump)) ∧
        (W3.putObj (w.heap.size + 1) (mk (if jump.isNone then .ready else .done) jump)).heap[w.heap.size + 1]? = some (mk (if jump.isNone then .ready else .done) jump) ∧
        (W3.putObj (w.heap.size + 1) (mk (if jump.isNone then .ready else .done) jump)).heap[w.heap.size]? = some (.deferred (some [])) := fun jump W3 hk3 => by
      have hl3 := hk3.same _ _ (by omega) hl2 rfl
      exact ⟨hl3, run_endRound jump hl3, World.putObj_heap_same (Array.getElem?_eq_some_iff.1 hl3).1, (World.putObj_heap_other (by omega)).trans (hk3.same _ _ (Nat.le_refl _) hd2 rfl)⟩
    intro e a3 W3 hp
    cases e with
    | normal =>
      obtain ⟨hk3, hi3, ht3⟩ := hp
      obtain ⟨hl3, hr, hl4, hd4⟩ := over none W3 hk3
      exact ⟨_, _, hr, .inl ⟨rfl, ⟨hI.put _ hi3 (by omega) hl3 rfl, hl4, hd4⟩, hT.put _ ht3 (by omega) hl3 rfl⟩⟩
    | ret =>
      obtain ⟨hl3, hr, hl4, hd4⟩ := over (some .ret) W3 hp.1
      exact ⟨_, _, hr, .inr ⟨rfl, _, (hX _).put _ hp.2 (by omega) hl3 rfl, hl4, hd4⟩⟩
    | exit id =>
      obtain ⟨hl3, hr, hl4, hd4⟩ := over (some (.exit id)) W3 hp.1
      exact ⟨_, _, hr, .inr ⟨rfl, _, (hX _).put _ hp.2 (by omega) hl3 rfl, hl4, hd4⟩⟩
    | goto t =>
      obtain ⟨hl3, hr, hl4, hd4⟩ := over (some (.goto t)) W3 hp.1
      exact ⟨_, _, hr, .inr ⟨rfl, _, (hX _).put _ hp.2 (by omega) hl3 rfl, hl4, hd4⟩⟩
    | panic _ => exact hp.elim
    | outgrown => exact hp.elim
  · -- behind the iterator
    rintro e W2 ⟨⟨v, rfl⟩, ⟨⟨hi, hl, hd⟩, ht⟩ | ⟨k, c, hx, hl, hd⟩⟩
    · exact ⟨none, _, run_endLoop hl (by simp), hdone _ _ (Nat.le_refl _) (hI.put _ hi (by omega) hl rfl) (hT.put _ ht (by omega) hl rfl) ((World.putObj_heap_other (by omega)).trans hd)⟩
    · exact ⟨some c, _, run_endLoop hl (by simp), hstop _ k c _ (Nat.le_refl _) ((hX c).put _ hx (by omega) hl rfl) ((World.putObj_heap_other (by omega)).trans hd)⟩
end Go.Proofs.Ytbibfjncjklclaa

/- General words: the cells of greater boxes. No condition. -/
namespace Go.Proofs.Ytbibfjncjklclaa
open Go.RowKit
theorem Blk.cells5 {w : World} {g : Nat} {t : TypeId} {a0 a1 a2 a3 a4 : Value} (h : Blk w g t #[a0, a1, a2, a3, a4]) : w.cell? ⟨g, 0, none⟩ = some a0 ∧ w.cell? ⟨g, 1, none⟩ = some a1 ∧ w.cell? ⟨g, 2, none⟩ = some a2 ∧ w.cell? ⟨g, 3, none⟩ = some a3 ∧ w.cell? ⟨g, 4, none⟩ = some a4 ∧ ∀ i, w.frozen? ⟨g, i, none⟩ = false := ⟨h.cell 0, h.cell 1, h.cell 2, h.cell 3, h.cell 4, h.frozen⟩
theorem Blk.cells6 {w : World} {g : Nat} {t : TypeId} {a0 a1 a2 a3 a4 a5 : Value} (h : Blk w g t #[a0, a1, a2, a3, a4, a5]) : w.cell? ⟨g, 0, none⟩ = some a0 ∧ w.cell? ⟨g, 1, none⟩ = some a1 ∧ w.cell? ⟨g, 2, none⟩ = some a2 ∧ w.cell? ⟨g, 3, none⟩ = some a3 ∧ w.cell? ⟨g, 4, none⟩ = some a4 ∧ w.cell? ⟨g, 5, none⟩ = some a5 ∧ ∀ i, w.frozen? ⟨g, i, none⟩ = false := ⟨h.cell 0, h.cell 1, h.cell 2, h.cell 3, h.cell 4, h.cell 5, h.frozen⟩
theorem Blk.cells7 {w : World} {g : Nat} {t : TypeId} {a0 a1 a2 a3 a4 a5 a6 : Value} (h : Blk w g t #[a0, a1, a2, a3, a4, a5, a6]) : w.cell? ⟨g, 0, none⟩ = some a0 ∧ w.cell? ⟨g, 1, none⟩ = some a1 ∧ w.cell? ⟨g, 2, none⟩ = some a2 ∧ w.cell? ⟨g, 3, none⟩ = some a3 ∧ w.cell? ⟨g, 4, none⟩ = some a4 ∧ w.cell? ⟨g, 5, none⟩ = some a5 ∧ w.cell? ⟨g, 6, none⟩ = some a6 ∧ ∀ i, w.frozen? ⟨g, i, none⟩ = false := ⟨h.cell 0, h.cell 1, h.cell 2, h.cell 3, h.cell 4, h.cell 5, h.cell 6, h.frozen⟩
theorem Blk.cells8 {w : World} {g : Nat} {t : TypeId} {a0 a1 a2 a3 a4 a5 a6 a7 : Value} (h : Blk w g t #[a0, a1, a2, a3, a4, a5, a6, a7]) : w.cell? ⟨g, 0, none⟩ = some a0 ∧ w.cell? ⟨g, 1, none⟩ = some a1 ∧ w.cell? ⟨g, 2, none⟩ = some a2 ∧ w.cell? ⟨g, 3, none⟩ = some a3 ∧ w.cell? ⟨g, 4, none⟩ = some a4 ∧ w.cell? ⟨g, 5, none⟩ = some a5 ∧ w.cell? ⟨g, 6, none⟩ = some a6 ∧ w.cell? ⟨g, 7, none⟩ = some a7 ∧ ∀ i, w.frozen? ⟨g, i, none⟩ = false := ⟨h.cell 0, h.cell 1, h.cell 2, h.cell 3, h.cell 4, h.cell 5, h.cell 6, h.cell 7, h.frozen⟩
theorem Blk.cells9 {w : World} {g : Nat} {t : TypeId} {a0 a1 a2 a3 a4 a5 a6 a7 a8 : Value} (h : Blk w g t #[a0, a1, a2, a3, a4, a5, a6, a7, a8]) : w.cell? ⟨g, 0, none⟩ = some a0 ∧ w.cell? ⟨g, 1, none⟩ = some a1 ∧ w.cell? ⟨g, 2, none⟩ = some a2 ∧ w.cell? ⟨g, 3, none⟩ = some a3 ∧ w.cell? ⟨g, 4, none⟩ = some a4 ∧ w.cell? ⟨g, 5, none⟩ = some a5 ∧ w.cell? ⟨g, 6, none⟩ = some a6 ∧ w.cell? ⟨g, 7, none⟩ = some a7 ∧ w.cell? ⟨g, 8, none⟩ = some a8 ∧ ∀ i, w.frozen? ⟨g, i, none⟩ = false := ⟨h.cell 0, h.cell 1, h.cell 2, h.cell 3, h.cell 4, h.cell 5, h.cell 6, h.cell 7, h.cell 8, h.frozen⟩
theorem Blk.cells10 {w : World} {g : Nat} {t : TypeId} {a0 a1 a2 a3 a4 a5 a6 a7 a8 a9 : Value} (h : Blk w g t #[a0, a1, a2, a3, a4, a5, a6, a7, a8, a9]) : w.cell? ⟨g, 0, none⟩ = some a0 ∧ w.cell? ⟨g, 1, none⟩ = some a1 ∧ w.cell? ⟨g, 2, none⟩ = some a2 ∧ w.cell? ⟨g, 3, none⟩ = some a3 ∧ w.cell? ⟨g, 4, none⟩ = some a4 ∧ w.cell? ⟨g, 5, none⟩ = some a5 ∧ w.cell? ⟨g, 6, none⟩ = some a6 ∧ w.cell? ⟨g, 7, none⟩ = some a7 ∧ w.cell? ⟨g, 8, none⟩ = some a8 ∧ w.cell? ⟨g, 9, none⟩ = some a9 ∧ ∀ i, w.frozen? ⟨g, i, none⟩ = false := ⟨h.cell 0, h.cell 1, h.cell 2, h.cell 3, h.cell 4, h.cell 5, h.cell 6, h.cell 7, h.cell 8, h.cell 9, h.frozen⟩
theorem Blk.cells11 {w : World} {g : Nat} {t : TypeId} {a0 a1 a2 a3 a4 a5 a6 a7 a8 a9 a10 : Value} (h : Blk w g t #[a0, a1, a2, a3, a4, a5, a6, a7, a8, a9, a10]) : w.cell? ⟨g, 0, none⟩ = some a0 ∧ w.cell? ⟨g, 1, none⟩ = some a1 ∧ w.cell? ⟨g, 2, none⟩ = some a2 ∧ w.cell? ⟨g, 3, none⟩ = some a3 ∧ w.cell? ⟨g, 4, none⟩ = some a4 ∧ w.cell? ⟨g, 5, none⟩ = some a5 ∧ w.cell? ⟨g, 6, none⟩ = some a6 ∧ w.cell? ⟨g, 7, none⟩ = some a7 ∧ w.cell? ⟨g, 8, none⟩ = some a8 ∧ w.cell? ⟨g, 9, none⟩ = some a9 ∧ w.cell? ⟨g, 10, none⟩ = some a10 ∧ ∀ i, w.frozen? ⟨g, i, none⟩ = false := ⟨h.cell 0, h.cell 1, h.cell 2, h.cell 3, h.cell 4, h.cell 5, h.cell 6, h.cell 7, h.cell 8, h.cell 9, h.cell 10, h.frozen⟩
theorem Blk.cells12 {w : World} {g : Nat} {t : TypeId} {a0 a1 a2 a3 a4 a5 a6 a7 a8 a9 a10 a11 : Value} (h : Blk w g t #[a0, a1, a2, a3, a4, a5, a6, a7, a8, a9, a10, a11]) : w.cell? ⟨g, 0, none⟩ = some a0 ∧ w.cell? ⟨g, 1, none⟩ = some a1 ∧ w.cell? ⟨g, 2, none⟩ = some a2 ∧ w.cell? ⟨g, 3, none⟩ = some a3 ∧ w.cell? ⟨g, 4, none⟩ = some a4 ∧ w.cell? ⟨g, 5, none⟩ = some a5 ∧ w.cell? ⟨g, 6, none⟩ = some a6 ∧ w.cell? ⟨g, 7, none⟩ = some a7 ∧ w.cell? ⟨g, 8, none⟩ = some a8 ∧ w.cell? ⟨g, 9, none⟩ = some a9 ∧ w.cell? ⟨g, 10, none⟩ = some a10 ∧ w.cell? ⟨g, 11, none⟩ = some a11 ∧ ∀ i, w.frozen? ⟨g, i, none⟩ = false := ⟨h.cell 0, h.cell 1, h.cell 2, h.cell 3, h.cell 4, h.cell 5, h.cell 6, h.cell 7, h.cell 8, h.cell 9, h.cell 10, h.cell 11, h.frozen⟩
end Go.Proofs.Ytbibfjncjklclaa

/- A range over a function whose iterator turns nothing but blocks of its own, laid behind its entry: what its caller owes. No condition. -/
namespace Go.Proofs.Ytbibfjncjklclaa
open Go.RowKit
/-- all blocks from B on are as they were -/
def KeptFrom (B : Nat) (W W' : World) : Prop := W.heap.size ≤ W'.heap.size ∧ ∀ i, B ≤ i → i < W.heap.size → W'.heap[i]? = W.heap[i]?
theorem KeptFrom.refl (B : Nat) (W : World) : KeptFrom B W W := ⟨Nat.le_refl _, fun _ _ _ => rfl⟩
theorem KeptFrom.trans {B : Nat} {a b c : World} (h : KeptFrom B a b) (k : KeptFrom B b c) : KeptFrom B a c := ⟨Nat.le_trans h.1 k.1, fun i hi hl => (k.2 i hi (Nat.lt_of_lt_of_le hl h.1)).trans (h.2 i hi hl)⟩
theorem KeptFrom.ofBelow {B : Nat} {a b : World} (h : Below a.heap.size a b) : KeptFrom B a b := ⟨h.size, fun i _ hl => h.block i hl⟩
theorem KeptFrom.ofGrown {B g : Nat} {a b : World} (h : a.grownBy b (some g)) (hg : g < B) : KeptFrom B a b := ⟨h.size, fun i hi hl => h.block i hl (fun e => by cases e; omega)⟩
theorem KeptFrom.mono {B C : Nat} {a b : World} (h : KeptFrom B a b) (hc : B ≤ C) : KeptFrom C a b := ⟨h.1, fun i hi hl => h.2 i (Nat.le_trans hc hi) hl⟩
/-- the contract of an iterator that turns its own new blocks alone: N: how many elements there are; vs k: what yield is handed; Kp: what a round keeps for it -/
def FreshSeq (F : Fence) (m : Nat) (P : Program) (gf : Nat) (lb : Array Value) (vs : Nat → Array Value) (N : Nat) (Kp : World → World → Prop) (w0 : World) : Prop :=
  ∀ (l : Nat) (J Jx : Nat → World → Prop) (W : World), Below w0.heap.size w0 W → (∀ k A B, J k A → Below W.heap.size A B → J k B) →
    (∀ k W1, k < N → J k W1 → YieldAt F (m - 1) P l (vs k) W1 fun e W' => (e = .returned (.bool true) ∧ J (k + 1) W' ∧ KeptFrom W.heap.size W1 W' ∧ Kp W1 W') ∨ (e = .returned (.bool false) ∧ Jx (k + 1) W')) →
    J 0 W → CallsIn F m P gf (#[.func (.yield l) #[] #[]] ++ lb) W fun e W' => (∃ v, e = .returned v) ∧ (J N W' ∨ ∃ k, Jx k W')
/-- how a round may be left -/
def freshEnd (B0 : Nat) (I : Nat → World → Prop) (Ix : Code → Nat → World → Prop) (Kp : World → World → Prop) (k : Nat) (W : World) : Exit → Act → World → Prop
  | .normal, _, W' => KeptFrom B0 W W' ∧ I k W' ∧ Kp W W'
  | .ret, _, W' => KeptFrom B0 W W' ∧ Ix .ret k W'
  | .exit id, _, W' => KeptFrom B0 W W' ∧ Ix (.exit id) k W'
  | .goto t, _, W' => KeptFrom B0 W W' ∧ Ix (.goto t) k W'
  | .panic _, _, _ => False
  | .outgrown, _, _ => False
theorem below_put {B l : Nat} {W : World} (o : Obj) (hl : B ≤ l) : Below B W (W.putObj l o) :=
  ⟨rfl, rfl, rfl, by simp [World.putObj], fun i hi => World.putObj_heap_other (by omega)⟩
set_option maxHeartbeats 2000000 in
theorem wpIn_rangeFunc_fresh {F : Fence} {n : Nat} {P : Program} {g : Operand} {ps : Array Tmp} {assign body : Code} {Q : Exit → Act → World → Prop} {a : Act} {w : World} (hround : F.round = none) (h1 : 1 ≤ n)
    {gf : Nat} {lb : Array Value} (hg : a.eval g = .func (.func gf) #[] lb) (hin : F.fn gf) (eg : ∀ args w, (callFunc gf args).run P w = .ok (.enter gf args) w)
    {vs : Nat → Array Value} {N : Nat} {Kp : World → World → Prop} {w0 : World} (hseq : FreshSeq F (n - 1) P gf lb vs N Kp w0) (hb0 : Below w0.heap.size w0 w) (hvs : ∀ k, (vs k).size = ps.size)
    (hKt : ∀ A B C, Kp A B → Kp B C → Kp A C) (hKb : ∀ (W : World) (l : Nat) (o : Obj), w.heap.size ≤ l → Kp W (W.putObj l o))
    (I : Nat → World → Prop) (Ix : Code → Nat → World → Prop) (hI : ∀ k A B, I k A → Below w.heap.size A B → I k B) (hX : ∀ c k A B, Ix c k A → Below w.heap.size A B → Ix c k B) (h0 : I 0 w) (after : Nat → Act)
    (hassign : ∀ (l k : Nat) (W : World) (K : Act → World → Prop), K (after k) W → assign.wpIn (F.inRound l) (n - 1 - 1) P (Exit.then K (fun _ _ _ => False)) { tmps := (ps.zip (vs k)).foldl (fun t (p, v) => t.setIfInBounds p v) a.tmps, defers := [] } W)
    (hbody : ∀ (l k : Nat) (W : World), k < N → w.heap.size ≤ W.heap.size → I k W → body.wpIn (F.inRound l) (n - 1 - 1) P (freshEnd w.heap.size I Ix Kp (k + 1) W) (after k) W)
    (hdone : ∀ (b : Nat) (W : World), w.heap.size ≤ b → I N W → W.heap[b]? = some (.deferred (some [])) → Q .normal { a with defers := { target := .collected b, args := #[] } :: a.defers } W)
    (hstop : ∀ (b k : Nat) (c : Code) (W : World), w.heap.size ≤ b → Ix c k W → W.heap[b]? = some (.deferred (some [])) → c.wpIn F n P Q { a with defers := { target := .collected b, args := #[] } :: a.defers } W) :
    (Code.rangeFunc g ps assign body).wpIn F n P Q a w := by
  refine wpIn_rangeFunc fun fn hfn => ?_
  rw [hround]
  -- the record, by its state and the jump that is pending
  let mk : LoopState → Option Code → Obj := fun st pe => .loop { state := st, pending := pe, fn, tmps := a.tmps, params := ps, assign, body, defers := w.heap.size }
  generalize hW1 : (w.alloc (.deferred (some []))).alloc (mk .ready none) = W1
  have hz1 : W1.heap.size = w.heap.size + 2 := by rw [← hW1]; simp
  have rec1 : W1.heap[w.heap.size + 1]? = some (mk .ready none) := by
    have := World.alloc_heap_new (w.alloc (.deferred (some []))) (mk .ready none)
    rw [World.size_alloc] at this
    rw [← hW1]; exact this
  have def1 : W1.heap[w.heap.size]? = some (.deferred (some [])) := by
    rw [← hW1]; exact (Below.heap_alloc _ _ _ (by simp)).trans (World.alloc_heap_new w _)
  have hb1 : Below w.heap.size w W1 := by rw [← hW1]; exact ((Below.refl _ w).alloc (Nat.le_refl _) _).alloc (by simp) _
  refine ⟨w.heap.size + 1, [{ target := .collected w.heap.size, args := #[] }], W1, { target := .fn (.func gf) lb, args := #[.func (.yield (w.heap.size + 1)) #[] #[]] }, W1, gf, #[.func (.yield (w.heap.size + 1)) #[] #[]] ++ lb, W1,
    by rw [← hW1]; exact run_enterLoop_outer _ _ _ _ _, by simp only [resolve, hg]; simp [go_sem], fun f' hf' => by simp [Target.leads] at hf'; subst hf'; exact hin, by simp [invoke, go_sem, eg _ _], fun _ => h1, ?_⟩
  have hbw1 : Below w0.heap.size w0 W1 := ⟨hb1.os.trans hb0.os, hb1.tape.trans hb0.tape, hb1.output.trans hb0.output, Nat.le_trans hb0.size hb1.size, fun i hi => (hb1.block i (Nat.lt_of_lt_of_le hi hb0.size)).trans (hb0.block i hi)⟩
  refine (hseq (w.heap.size + 1) (fun k W => (I k W ∧ W1.heap.size ≤ W.heap.size) ∧ W.heap[w.heap.size + 1]? = some (mk .ready none) ∧ W.heap[w.heap.size]? = some (.deferred (some [])))
    (fun k W => ∃ c, Ix c k W ∧ W.heap[w.heap.size + 1]? = some (mk .done (some c)) ∧ W.heap[w.heap.size]? = some (.deferred (some []))) W1 hbw1 ?_ ?_
    ⟨⟨hI _ _ _ h0 hb1, Nat.le_refl _⟩, rec1, def1⟩).mono ?_
  · rintro k A B ⟨⟨hi, hs⟩, hl, hd⟩ hbl
    exact ⟨⟨hI _ _ _ hi ⟨hbl.os, hbl.tape, hbl.output, hbl.size, fun i hi => hbl.block i (by omega)⟩, Nat.le_trans hs hbl.size⟩, (hbl.block _ (by omega)).trans hl, (hbl.block _ (by omega)).trans hd⟩
  · -- a round
    rintro k W hk ⟨⟨hi, hs⟩, hl, hd⟩
    refine ⟨fn, _, assign, body, run_yield (P := P) (args := vs k) hl (by rw [hvs k]), roundIn_of_wpIn hfn (hassign _ k W _ ?_)⟩
    refine ⟨_, run_beginRound hl rfl, ?_⟩
    have hlt : w.heap.size + 1 < W.heap.size := (Array.getElem?_eq_some_iff.1 hl).1
    have hzp : (W.putObj (w.heap.size + 1) (mk .busy none)).heap.size = W.heap.size := by simp [World.putObj]
    have hl2 : (W.putObj (w.heap.size + 1) (mk .busy none)).heap[w.heap.size + 1]? = some (mk .busy none) := World.putObj_heap_same hlt
    have hd2 : (W.putObj (w.heap.size + 1) (mk .busy none)).heap[w.heap.size]? = some (.deferred (some [])) := (World.putObj_heap_other (by omega)).trans hd
    refine wpIn_mono (hbody _ k _ hk (by rw [hzp]; omega) (hI _ _ _ hi (below_put _ (by omega)))) ?_
    have over : ∀ (jump : Option Code) (W3 : World), KeptFrom w.heap.size (W.putObj (w.heap.size + 1) (mk .busy none)) W3 →
        W3.heap[w.heap.size + 1]? = some (mk .busy none) ∧ (Instr.endRound (w.heap.size + 1) jump).run P W3 = .ok (.bool jump.isNone) (W3.putObj (w.heap.size + 1) (mk (if jump.isNone then .ready else .done) jump)) ∧
        (W3.putObj (w.heap.size + 1) (mk (if jump.isNone then .ready else .done) jump)).heap[w.heap.size + 1]? = some (mk (if jump.isNone then .ready else .done) jump) ∧
        (W3.putObj (w.heap.size + 1) (mk (if jump.isNone then .ready else .done) jump)).heap[w.heap.size]? = some (.deferred (some [])) := fun jump W3 hk3 => by
      have hl3 := (hk3.2 _ (by omega) (by rw [hzp]; omega)).trans hl2
      exact ⟨hl3, run_endRound jump hl3, World.putObj_heap_same (Array.getElem?_eq_some_iff.1 hl3).1, (World.putObj_heap_other (by omega)).trans ((hk3.2 _ (Nat.le_refl _) (by rw [hzp]; omega)).trans hd2)⟩
    have keeps : ∀ (o o' : Obj) (W3 : World), KeptFrom w.heap.size (W.putObj (w.heap.size + 1) o) W3 → KeptFrom W1.heap.size W (W3.putObj (w.heap.size + 1) o') := fun o o' W3 hk3 => by
      have hz : (W.putObj (w.heap.size + 1) o).heap.size = W.heap.size := by simp [World.putObj]
      have hz3 : (W3.putObj (w.heap.size + 1) o').heap.size = W3.heap.size := by simp [World.putObj]
      refine ⟨by rw [hz3]; have := hk3.1; omega, fun i hi1 hi2 => ?_⟩
      rw [World.putObj_heap_other (by omega), hk3.2 i (by omega) (by omega), World.putObj_heap_other (by omega)]
    intro e a3 W3 hp
    have hz3 : ∀ o, (W3.putObj (w.heap.size + 1) o).heap.size = W3.heap.size := fun o => by simp [World.putObj]
    cases e with
    | normal =>
      obtain ⟨hk3, hi3, hq3⟩ := hp
      obtain ⟨hl3, hr, hl4, hd4⟩ := over none W3 hk3
      exact ⟨_, _, hr, .inl ⟨rfl, ⟨⟨hI _ _ _ hi3 (below_put _ (by omega)), by rw [hz3]; exact Nat.le_trans hs (Nat.le_trans (Nat.le_of_eq hzp.symm) hk3.1)⟩, hl4, hd4⟩, keeps _ _ _ hk3, hKt _ _ _ (hKb _ _ _ (by omega)) (hKt _ _ _ hq3 (hKb _ _ _ (by omega)))⟩⟩
    | ret =>
      obtain ⟨hl3, hr, hl4, hd4⟩ := over (some .ret) W3 hp.1
      exact ⟨_, _, hr, .inr ⟨rfl, _, hX _ _ _ _ hp.2 (below_put _ (by omega)), hl4, hd4⟩⟩
    | exit id =>
      obtain ⟨hl3, hr, hl4, hd4⟩ := over (some (.exit id)) W3 hp.1
      exact ⟨_, _, hr, .inr ⟨rfl, _, hX _ _ _ _ hp.2 (below_put _ (by omega)), hl4, hd4⟩⟩
    | goto t =>
      obtain ⟨hl3, hr, hl4, hd4⟩ := over (some (.goto t)) W3 hp.1
      exact ⟨_, _, hr, .inr ⟨rfl, _, hX _ _ _ _ hp.2 (below_put _ (by omega)), hl4, hd4⟩⟩
    | panic _ => exact hp.elim
    | outgrown => exact hp.elim
  · -- behind the iterator
    rintro e W2 ⟨⟨v, rfl⟩, ⟨⟨hi, hs⟩, hl, hd⟩ | ⟨k, c, hx, hl, hd⟩⟩
    · exact ⟨none, _, run_endLoop hl (by simp), hdone _ _ (Nat.le_refl _) (hI _ _ _ hi (below_put _ (by omega))) ((World.putObj_heap_other (by omega)).trans hd)⟩
    · exact ⟨some c, _, run_endLoop hl (by simp), hstop _ k c _ (Nat.le_refl _) (hX _ _ _ _ hx (below_put _ (by omega))) ((World.putObj_heap_other (by omega)).trans hd)⟩
end Go.Proofs.Ytbibfjncjklclaa

/- General words: stores into boxes, the new world named. No condition. -/
namespace Go.Proofs.Ytbibfjncjklclaa
open Go.RowKit
/-- one cell is stored -/
theorem named_cell {K : World → Prop} {W : World} {g : Nat} {t : TypeId} {cs cs' : Array Value} (hb : Blk W g t cs) (k : Nat) (a : Value) (hc : cs.setIfInBounds k a = cs') (h : ∀ Wn : World, Blk Wn g t cs' → W.grownBy Wn (some g) → Wn.heap.size = W.heap.size → K Wn) : K (W.setCell ⟨g, k, none⟩ a) :=
  h _ (hc ▸ hb.setCell k a) (grown_set (World.grownBy.refl W (some g)) k a) (by simp)
theorem named_store_5_5_0 {K : World → Prop} {W : World} {g : Nat} {t : TypeId} {x0 x1 x2 x3 x4 y0 y1 y2 y3 y4 : Value} (hb : Blk W g t #[x0, x1, x2, x3, x4]) (h : ∀ Wn : World, Blk Wn g t #[y0, y1, y2, y3, y4] → W.grownBy Wn (some g) → Wn.heap.size = W.heap.size → K Wn) : K (((((W.setCell ⟨g, 0, none⟩ y0).setCell ⟨g, 1, none⟩ y1).setCell ⟨g, 2, none⟩ y2).setCell ⟨g, 3, none⟩ y3).setCell ⟨g, 4, none⟩ y4) := by
  have b0 : Blk (W.setCell ⟨g, 0, none⟩ y0) g t #[y0, x1, x2, x3, x4] := hb.setCell 0 y0
  have b1 : Blk ((W.setCell ⟨g, 0, none⟩ y0).setCell ⟨g, 1, none⟩ y1) g t #[y0, y1, x2, x3, x4] := b0.setCell 1 y1
  have b2 : Blk (((W.setCell ⟨g, 0, none⟩ y0).setCell ⟨g, 1, none⟩ y1).setCell ⟨g, 2, none⟩ y2) g t #[y0, y1, y2, x3, x4] := b1.setCell 2 y2
  have b3 : Blk ((((W.setCell ⟨g, 0, none⟩ y0).setCell ⟨g, 1, none⟩ y1).setCell ⟨g, 2, none⟩ y2).setCell ⟨g, 3, none⟩ y3) g t #[y0, y1, y2, y3, x4] := b2.setCell 3 y3
  have b4 : Blk (((((W.setCell ⟨g, 0, none⟩ y0).setCell ⟨g, 1, none⟩ y1).setCell ⟨g, 2, none⟩ y2).setCell ⟨g, 3, none⟩ y3).setCell ⟨g, 4, none⟩ y4) g t #[y0, y1, y2, y3, y4] := b3.setCell 4 y4
  exact h _ b4 (grown_set (grown_set (grown_set (grown_set (grown_set (World.grownBy.refl W (some g)) 0 y0) 1 y1) 2 y2) 3 y3) 4 y4) (by simp)
theorem named_store_6_6_0 {K : World → Prop} {W : World} {g : Nat} {t : TypeId} {x0 x1 x2 x3 x4 x5 y0 y1 y2 y3 y4 y5 : Value} (hb : Blk W g t #[x0, x1, x2, x3, x4, x5]) (h : ∀ Wn : World, Blk Wn g t #[y0, y1, y2, y3, y4, y5] → W.grownBy Wn (some g) → Wn.heap.size = W.heap.size → K Wn) : K ((((((W.setCell ⟨g, 0, none⟩ y0).setCell ⟨g, 1, none⟩ y1).setCell ⟨g, 2, none⟩ y2).setCell ⟨g, 3, none⟩ y3).setCell ⟨g, 4, none⟩ y4).setCell ⟨g, 5, none⟩ y5) := by
  have b0 : Blk (W.setCell ⟨g, 0, none⟩ y0) g t #[y0, x1, x2, x3, x4, x5] := hb.setCell 0 y0
  have b1 : Blk ((W.setCell ⟨g, 0, none⟩ y0).setCell ⟨g, 1, none⟩ y1) g t #[y0, y1, x2, x3, x4, x5] := b0.setCell 1 y1
  have b2 : Blk (((W.setCell ⟨g, 0, none⟩ y0).setCell ⟨g, 1, none⟩ y1).setCell ⟨g, 2, none⟩ y2) g t #[y0, y1, y2, x3, x4, x5] := b1.setCell 2 y2
  have b3 : Blk ((((W.setCell ⟨g, 0, none⟩ y0).setCell ⟨g, 1, none⟩ y1).setCell ⟨g, 2, none⟩ y2).setCell ⟨g, 3, none⟩ y3) g t #[y0, y1, y2, y3, x4, x5] := b2.setCell 3 y3
  have b4 : Blk (((((W.setCell ⟨g, 0, none⟩ y0).setCell ⟨g, 1, none⟩ y1).setCell ⟨g, 2, none⟩ y2).setCell ⟨g, 3, none⟩ y3).setCell ⟨g, 4, none⟩ y4) g t #[y0, y1, y2, y3, y4, x5] := b3.setCell 4 y4
  have b5 : Blk ((((((W.setCell ⟨g, 0, none⟩ y0).setCell ⟨g, 1, none⟩ y1).setCell ⟨g, 2, none⟩ y2).setCell ⟨g, 3, none⟩ y3).setCell ⟨g, 4, none⟩ y4).setCell ⟨g, 5, none⟩ y5) g t #[y0, y1, y2, y3, y4, y5] := b4.setCell 5 y5
  exact h _ b5 (grown_set (grown_set (grown_set (grown_set (grown_set (grown_set (World.grownBy.refl W (some g)) 0 y0) 1 y1) 2 y2) 3 y3) 4 y4) 5 y5) (by simp)
theorem named_store_7_7_0 {K : World → Prop} {W : World} {g : Nat} {t : TypeId} {x0 x1 x2 x3 x4 x5 x6 y0 y1 y2 y3 y4 y5 y6 : Value} (hb : Blk W g t #[x0, x1, x2, x3, x4, x5, x6]) (h : ∀ Wn : World, Blk Wn g t #[y0, y1, y2, y3, y4, y5, y6] → W.grownBy Wn (some g) → Wn.heap.size = W.heap.size → K Wn) : K (((((((W.setCell ⟨g, 0, none⟩ y0).setCell ⟨g, 1, none⟩ y1).setCell ⟨g, 2, none⟩ y2).setCell ⟨g, 3, none⟩ y3).setCell ⟨g, 4, none⟩ y4).setCell ⟨g, 5, none⟩ y5).setCell ⟨g, 6, none⟩ y6) := by
  have b0 : Blk (W.setCell ⟨g, 0, none⟩ y0) g t #[y0, x1, x2, x3, x4, x5, x6] := hb.setCell 0 y0
  have b1 : Blk ((W.setCell ⟨g, 0, none⟩ y0).setCell ⟨g, 1, none⟩ y1) g t #[y0, y1, x2, x3, x4, x5, x6] := b0.setCell 1 y1
  have b2 : Blk (((W.setCell ⟨g, 0, none⟩ y0).setCell ⟨g, 1, none⟩ y1).setCell ⟨g, 2, none⟩ y2) g t #[y0, y1, y2, x3, x4, x5, x6] := b1.setCell 2 y2
  have b3 : Blk ((((W.setCell ⟨g, 0, none⟩ y0).setCell ⟨g, 1, none⟩ y1).setCell ⟨g, 2, none⟩ y2).setCell ⟨g, 3, none⟩ y3) g t #[y0, y1, y2, y3, x4, x5, x6] := b2.setCell 3 y3
  have b4 : Blk (((((W.setCell ⟨g, 0, none⟩ y0).setCell ⟨g, 1, none⟩ y1).setCell ⟨g, 2, none⟩ y2).setCell ⟨g, 3, none⟩ y3).setCell ⟨g, 4, none⟩ y4) g t #[y0, y1, y2, y3, y4, x5, x6] := b3.setCell 4 y4
  have b5 : Blk ((((((W.setCell ⟨g, 0, none⟩ y0).setCell ⟨g, 1, none⟩ y1).setCell ⟨g, 2, none⟩ y2).setCell ⟨g, 3, none⟩ y3).setCell ⟨g, 4, none⟩ y4).setCell ⟨g, 5, none⟩ y5) g t #[y0, y1, y2, y3, y4, y5, x6] := b4.setCell 5 y5
  have b6 : Blk (((((((W.setCell ⟨g, 0, none⟩ y0).setCell ⟨g, 1, none⟩ y1).setCell ⟨g, 2, none⟩ y2).setCell ⟨g, 3, none⟩ y3).setCell ⟨g, 4, none⟩ y4).setCell ⟨g, 5, none⟩ y5).setCell ⟨g, 6, none⟩ y6) g t #[y0, y1, y2, y3, y4, y5, y6] := b5.setCell 6 y6
  exact h _ b6 (grown_set (grown_set (grown_set (grown_set (grown_set (grown_set (grown_set (World.grownBy.refl W (some g)) 0 y0) 1 y1) 2 y2) 3 y3) 4 y4) 5 y5) 6 y6) (by simp)
theorem named_store_7_8_0 {K : World → Prop} {W : World} {g : Nat} {t : TypeId} {x0 x1 x2 x3 x4 x5 x6 x7 y0 y1 y2 y3 y4 y5 y6 : Value} (hb : Blk W g t #[x0, x1, x2, x3, x4, x5, x6, x7]) (h : ∀ Wn : World, Blk Wn g t #[y0, y1, y2, y3, y4, y5, y6, x7] → W.grownBy Wn (some g) → Wn.heap.size = W.heap.size → K Wn) : K (((((((W.setCell ⟨g, 0, none⟩ y0).setCell ⟨g, 1, none⟩ y1).setCell ⟨g, 2, none⟩ y2).setCell ⟨g, 3, none⟩ y3).setCell ⟨g, 4, none⟩ y4).setCell ⟨g, 5, none⟩ y5).setCell ⟨g, 6, none⟩ y6) := by
  have b0 : Blk (W.setCell ⟨g, 0, none⟩ y0) g t #[y0, x1, x2, x3, x4, x5, x6, x7] := hb.setCell 0 y0
  have b1 : Blk ((W.setCell ⟨g, 0, none⟩ y0).setCell ⟨g, 1, none⟩ y1) g t #[y0, y1, x2, x3, x4, x5, x6, x7] := b0.setCell 1 y1
  have b2 : Blk (((W.setCell ⟨g, 0, none⟩ y0).setCell ⟨g, 1, none⟩ y1).setCell ⟨g, 2, none⟩ y2) g t #[y0, y1, y2, x3, x4, x5, x6, x7] := b1.setCell 2 y2
  have b3 : Blk ((((W.setCell ⟨g, 0, none⟩ y0).setCell ⟨g, 1, none⟩ y1).setCell ⟨g, 2, none⟩ y2).setCell ⟨g, 3, none⟩ y3) g t #[y0, y1, y2, y3, x4, x5, x6, x7] := b2.setCell 3 y3
  have b4 : Blk (((((W.setCell ⟨g, 0, none⟩ y0).setCell ⟨g, 1, none⟩ y1).setCell ⟨g, 2, none⟩ y2).setCell ⟨g, 3, none⟩ y3).setCell ⟨g, 4, none⟩ y4) g t #[y0, y1, y2, y3, y4, x5, x6, x7] := b3.setCell 4 y4
  have b5 : Blk ((((((W.setCell ⟨g, 0, none⟩ y0).setCell ⟨g, 1, none⟩ y1).setCell ⟨g, 2, none⟩ y2).setCell ⟨g, 3, none⟩ y3).setCell ⟨g, 4, none⟩ y4).setCell ⟨g, 5, none⟩ y5) g t #[y0, y1, y2, y3, y4, y5, x6, x7] := b4.setCell 5 y5
  have b6 : Blk (((((((W.setCell ⟨g, 0, none⟩ y0).setCell ⟨g, 1, none⟩ y1).setCell ⟨g, 2, none⟩ y2).setCell ⟨g, 3, none⟩ y3).setCell ⟨g, 4, none⟩ y4).setCell ⟨g, 5, none⟩ y5).setCell ⟨g, 6, none⟩ y6) g t #[y0, y1, y2, y3, y4, y5, y6, x7] := b5.setCell 6 y6
  exact h _ b6 (grown_set (grown_set (grown_set (grown_set (grown_set (grown_set (grown_set (World.grownBy.refl W (some g)) 0 y0) 1 y1) 2 y2) 3 y3) 4 y4) 5 y5) 6 y6) (by simp)
theorem named_store_6_7_0 {K : World → Prop} {W : World} {g : Nat} {t : TypeId} {x0 x1 x2 x3 x4 x5 x6 y0 y1 y2 y3 y4 y5 : Value} (hb : Blk W g t #[x0, x1, x2, x3, x4, x5, x6]) (h : ∀ Wn : World, Blk Wn g t #[y0, y1, y2, y3, y4, y5, x6] → W.grownBy Wn (some g) → Wn.heap.size = W.heap.size → K Wn) : K ((((((W.setCell ⟨g, 0, none⟩ y0).setCell ⟨g, 1, none⟩ y1).setCell ⟨g, 2, none⟩ y2).setCell ⟨g, 3, none⟩ y3).setCell ⟨g, 4, none⟩ y4).setCell ⟨g, 5, none⟩ y5) := by
  have b0 : Blk (W.setCell ⟨g, 0, none⟩ y0) g t #[y0, x1, x2, x3, x4, x5, x6] := hb.setCell 0 y0
  have b1 : Blk ((W.setCell ⟨g, 0, none⟩ y0).setCell ⟨g, 1, none⟩ y1) g t #[y0, y1, x2, x3, x4, x5, x6] := b0.setCell 1 y1
  have b2 : Blk (((W.setCell ⟨g, 0, none⟩ y0).setCell ⟨g, 1, none⟩ y1).setCell ⟨g, 2, none⟩ y2) g t #[y0, y1, y2, x3, x4, x5, x6] := b1.setCell 2 y2
  have b3 : Blk ((((W.setCell ⟨g, 0, none⟩ y0).setCell ⟨g, 1, none⟩ y1).setCell ⟨g, 2, none⟩ y2).setCell ⟨g, 3, none⟩ y3) g t #[y0, y1, y2, y3, x4, x5, x6] := b2.setCell 3 y3
  have b4 : Blk (((((W.setCell ⟨g, 0, none⟩ y0).setCell ⟨g, 1, none⟩ y1).setCell ⟨g, 2, none⟩ y2).setCell ⟨g, 3, none⟩ y3).setCell ⟨g, 4, none⟩ y4) g t #[y0, y1, y2, y3, y4, x5, x6] := b3.setCell 4 y4
  have b5 : Blk ((((((W.setCell ⟨g, 0, none⟩ y0).setCell ⟨g, 1, none⟩ y1).setCell ⟨g, 2, none⟩ y2).setCell ⟨g, 3, none⟩ y3).setCell ⟨g, 4, none⟩ y4).setCell ⟨g, 5, none⟩ y5) g t #[y0, y1, y2, y3, y4, y5, x6] := b4.setCell 5 y5
  exact h _ b5 (grown_set (grown_set (grown_set (grown_set (grown_set (grown_set (World.grownBy.refl W (some g)) 0 y0) 1 y1) 2 y2) 3 y3) 4 y4) 5 y5) (by simp)
theorem named_store_3_4_0 {K : World → Prop} {W : World} {g : Nat} {t : TypeId} {x0 x1 x2 x3 y0 y1 y2 : Value} (hb : Blk W g t #[x0, x1, x2, x3]) (h : ∀ Wn : World, Blk Wn g t #[y0, y1, y2, x3] → W.grownBy Wn (some g) → Wn.heap.size = W.heap.size → K Wn) : K (((W.setCell ⟨g, 0, none⟩ y0).setCell ⟨g, 1, none⟩ y1).setCell ⟨g, 2, none⟩ y2) := by
  have b0 : Blk (W.setCell ⟨g, 0, none⟩ y0) g t #[y0, x1, x2, x3] := hb.setCell 0 y0
  have b1 : Blk ((W.setCell ⟨g, 0, none⟩ y0).setCell ⟨g, 1, none⟩ y1) g t #[y0, y1, x2, x3] := b0.setCell 1 y1
  have b2 : Blk (((W.setCell ⟨g, 0, none⟩ y0).setCell ⟨g, 1, none⟩ y1).setCell ⟨g, 2, none⟩ y2) g t #[y0, y1, y2, x3] := b1.setCell 2 y2
  exact h _ b2 (grown_set (grown_set (grown_set (World.grownBy.refl W (some g)) 0 y0) 1 y1) 2 y2) (by simp)
theorem named_store_4_8_3 {K : World → Prop} {W : World} {g : Nat} {t : TypeId} {x0 x1 x2 x3 x4 x5 x6 x7 y0 y1 y2 y3 : Value} (hb : Blk W g t #[x0, x1, x2, x3, x4, x5, x6, x7]) (h : ∀ Wn : World, Blk Wn g t #[x0, x1, x2, y0, y1, y2, y3, x7] → W.grownBy Wn (some g) → Wn.heap.size = W.heap.size → K Wn) : K ((((W.setCell ⟨g, 3, none⟩ y0).setCell ⟨g, 4, none⟩ y1).setCell ⟨g, 5, none⟩ y2).setCell ⟨g, 6, none⟩ y3) := by
  have b0 : Blk (W.setCell ⟨g, 3, none⟩ y0) g t #[x0, x1, x2, y0, x4, x5, x6, x7] := hb.setCell 3 y0
  have b1 : Blk ((W.setCell ⟨g, 3, none⟩ y0).setCell ⟨g, 4, none⟩ y1) g t #[x0, x1, x2, y0, y1, x5, x6, x7] := b0.setCell 4 y1
  have b2 : Blk (((W.setCell ⟨g, 3, none⟩ y0).setCell ⟨g, 4, none⟩ y1).setCell ⟨g, 5, none⟩ y2) g t #[x0, x1, x2, y0, y1, y2, x6, x7] := b1.setCell 5 y2
  have b3 : Blk ((((W.setCell ⟨g, 3, none⟩ y0).setCell ⟨g, 4, none⟩ y1).setCell ⟨g, 5, none⟩ y2).setCell ⟨g, 6, none⟩ y3) g t #[x0, x1, x2, y0, y1, y2, y3, x7] := b2.setCell 6 y3
  exact h _ b3 (grown_set (grown_set (grown_set (grown_set (World.grownBy.refl W (some g)) 3 y0) 4 y1) 5 y2) 6 y3) (by simp)
theorem named_store_3_8_0 {K : World → Prop} {W : World} {g : Nat} {t : TypeId} {x0 x1 x2 x3 x4 x5 x6 x7 y0 y1 y2 : Value} (hb : Blk W g t #[x0, x1, x2, x3, x4, x5, x6, x7]) (h : ∀ Wn : World, Blk Wn g t #[y0, y1, y2, x3, x4, x5, x6, x7] → W.grownBy Wn (some g) → Wn.heap.size = W.heap.size → K Wn) : K (((W.setCell ⟨g, 0, none⟩ y0).setCell ⟨g, 1, none⟩ y1).setCell ⟨g, 2, none⟩ y2) := by
  have b0 : Blk (W.setCell ⟨g, 0, none⟩ y0) g t #[y0, x1, x2, x3, x4, x5, x6, x7] := hb.setCell 0 y0
  have b1 : Blk ((W.setCell ⟨g, 0, none⟩ y0).setCell ⟨g, 1, none⟩ y1) g t #[y0, y1, x2, x3, x4, x5, x6, x7] := b0.setCell 1 y1
  have b2 : Blk (((W.setCell ⟨g, 0, none⟩ y0).setCell ⟨g, 1, none⟩ y1).setCell ⟨g, 2, none⟩ y2) g t #[y0, y1, y2, x3, x4, x5, x6, x7] := b1.setCell 2 y2
  exact h _ b2 (grown_set (grown_set (grown_set (World.grownBy.refl W (some g)) 0 y0) 1 y1) 2 y2) (by simp)
theorem named_store_4_7_0 {K : World → Prop} {W : World} {g : Nat} {t : TypeId} {x0 x1 x2 x3 x4 x5 x6 y0 y1 y2 y3 : Value} (hb : Blk W g t #[x0, x1, x2, x3, x4, x5, x6]) (h : ∀ Wn : World, Blk Wn g t #[y0, y1, y2, y3, x4, x5, x6] → W.grownBy Wn (some g) → Wn.heap.size = W.heap.size → K Wn) : K ((((W.setCell ⟨g, 0, none⟩ y0).setCell ⟨g, 1, none⟩ y1).setCell ⟨g, 2, none⟩ y2).setCell ⟨g, 3, none⟩ y3) := by
  have b0 : Blk (W.setCell ⟨g, 0, none⟩ y0) g t #[y0, x1, x2, x3, x4, x5, x6] := hb.setCell 0 y0
  have b1 : Blk ((W.setCell ⟨g, 0, none⟩ y0).setCell ⟨g, 1, none⟩ y1) g t #[y0, y1, x2, x3, x4, x5, x6] := b0.setCell 1 y1
  have b2 : Blk (((W.setCell ⟨g, 0, none⟩ y0).setCell ⟨g, 1, none⟩ y1).setCell ⟨g, 2, none⟩ y2) g t #[y0, y1, y2, x3, x4, x5, x6] := b1.setCell 2 y2
  have b3 : Blk ((((W.setCell ⟨g, 0, none⟩ y0).setCell ⟨g, 1, none⟩ y1).setCell ⟨g, 2, none⟩ y2).setCell ⟨g, 3, none⟩ y3) g t #[y0, y1, y2, y3, x4, x5, x6] := b2.setCell 3 y3
  exact h _ b3 (grown_set (grown_set (grown_set (grown_set (World.grownBy.refl W (some g)) 0 y0) 1 y1) 2 y2) 3 y3) (by simp)
theorem named_store_3_7_0 {K : World → Prop} {W : World} {g : Nat} {t : TypeId} {x0 x1 x2 x3 x4 x5 x6 y0 y1 y2 : Value} (hb : Blk W g t #[x0, x1, x2, x3, x4, x5, x6]) (h : ∀ Wn : World, Blk Wn g t #[y0, y1, y2, x3, x4, x5, x6] → W.grownBy Wn (some g) → Wn.heap.size = W.heap.size → K Wn) : K (((W.setCell ⟨g, 0, none⟩ y0).setCell ⟨g, 1, none⟩ y1).setCell ⟨g, 2, none⟩ y2) := by
  have b0 : Blk (W.setCell ⟨g, 0, none⟩ y0) g t #[y0, x1, x2, x3, x4, x5, x6] := hb.setCell 0 y0
  have b1 : Blk ((W.setCell ⟨g, 0, none⟩ y0).setCell ⟨g, 1, none⟩ y1) g t #[y0, y1, x2, x3, x4, x5, x6] := b0.setCell 1 y1
  have b2 : Blk (((W.setCell ⟨g, 0, none⟩ y0).setCell ⟨g, 1, none⟩ y1).setCell ⟨g, 2, none⟩ y2) g t #[y0, y1, y2, x3, x4, x5, x6] := b1.setCell 2 y2
  exact h _ b2 (grown_set (grown_set (grown_set (World.grownBy.refl W (some g)) 0 y0) 1 y1) 2 y2) (by simp)
theorem named_store_4_5_0 {K : World → Prop} {W : World} {g : Nat} {t : TypeId} {x0 x1 x2 x3 x4 y0 y1 y2 y3 : Value} (hb : Blk W g t #[x0, x1, x2, x3, x4]) (h : ∀ Wn : World, Blk Wn g t #[y0, y1, y2, y3, x4] → W.grownBy Wn (some g) → Wn.heap.size = W.heap.size → K Wn) : K ((((W.setCell ⟨g, 0, none⟩ y0).setCell ⟨g, 1, none⟩ y1).setCell ⟨g, 2, none⟩ y2).setCell ⟨g, 3, none⟩ y3) := by
  have b0 : Blk (W.setCell ⟨g, 0, none⟩ y0) g t #[y0, x1, x2, x3, x4] := hb.setCell 0 y0
  have b1 : Blk ((W.setCell ⟨g, 0, none⟩ y0).setCell ⟨g, 1, none⟩ y1) g t #[y0, y1, x2, x3, x4] := b0.setCell 1 y1
  have b2 : Blk (((W.setCell ⟨g, 0, none⟩ y0).setCell ⟨g, 1, none⟩ y1).setCell ⟨g, 2, none⟩ y2) g t #[y0, y1, y2, x3, x4] := b1.setCell 2 y2
  have b3 : Blk ((((W.setCell ⟨g, 0, none⟩ y0).setCell ⟨g, 1, none⟩ y1).setCell ⟨g, 2, none⟩ y2).setCell ⟨g, 3, none⟩ y3) g t #[y0, y1, y2, y3, x4] := b2.setCell 3 y3
  exact h _ b3 (grown_set (grown_set (grown_set (grown_set (World.grownBy.refl W (some g)) 0 y0) 1 y1) 2 y2) 3 y3) (by simp)
theorem named_store_8_8_0 {K : World → Prop} {W : World} {g : Nat} {t : TypeId} {x0 x1 x2 x3 x4 x5 x6 x7 y0 y1 y2 y3 y4 y5 y6 y7 : Value} (hb : Blk W g t #[x0, x1, x2, x3, x4, x5, x6, x7]) (h : ∀ Wn : World, Blk Wn g t #[y0, y1, y2, y3, y4, y5, y6, y7] → W.grownBy Wn (some g) → Wn.heap.size = W.heap.size → K Wn) : K ((((((((W.setCell ⟨g, 0, none⟩ y0).setCell ⟨g, 1, none⟩ y1).setCell ⟨g, 2, none⟩ y2).setCell ⟨g, 3, none⟩ y3).setCell ⟨g, 4, none⟩ y4).setCell ⟨g, 5, none⟩ y5).setCell ⟨g, 6, none⟩ y6).setCell ⟨g, 7, none⟩ y7) := by
  have b0 : Blk (W.setCell ⟨g, 0, none⟩ y0) g t #[y0, x1, x2, x3, x4, x5, x6, x7] := hb.setCell 0 y0
  have b1 : Blk ((W.setCell ⟨g, 0, none⟩ y0).setCell ⟨g, 1, none⟩ y1) g t #[y0, y1, x2, x3, x4, x5, x6, x7] := b0.setCell 1 y1
  have b2 : Blk (((W.setCell ⟨g, 0, none⟩ y0).setCell ⟨g, 1, none⟩ y1).setCell ⟨g, 2, none⟩ y2) g t #[y0, y1, y2, x3, x4, x5, x6, x7] := b1.setCell 2 y2
  have b3 : Blk ((((W.setCell ⟨g, 0, none⟩ y0).setCell ⟨g, 1, none⟩ y1).setCell ⟨g, 2, none⟩ y2).setCell ⟨g, 3, none⟩ y3) g t #[y0, y1, y2, y3, x4, x5, x6, x7] := b2.setCell 3 y3
  have b4 : Blk (((((W.setCell ⟨g, 0, none⟩ y0).setCell ⟨g, 1, none⟩ y1).setCell ⟨g, 2, none⟩ y2).setCell ⟨g, 3, none⟩ y3).setCell ⟨g, 4, none⟩ y4) g t #[y0, y1, y2, y3, y4, x5, x6, x7] := b3.setCell 4 y4
  have b5 : Blk ((((((W.setCell ⟨g, 0, none⟩ y0).setCell ⟨g, 1, none⟩ y1).setCell ⟨g, 2, none⟩ y2).setCell ⟨g, 3, none⟩ y3).setCell ⟨g, 4, none⟩ y4).setCell ⟨g, 5, none⟩ y5) g t #[y0, y1, y2, y3, y4, y5, x6, x7] := b4.setCell 5 y5
  have b6 : Blk (((((((W.setCell ⟨g, 0, none⟩ y0).setCell ⟨g, 1, none⟩ y1).setCell ⟨g, 2, none⟩ y2).setCell ⟨g, 3, none⟩ y3).setCell ⟨g, 4, none⟩ y4).setCell ⟨g, 5, none⟩ y5).setCell ⟨g, 6, none⟩ y6) g t #[y0, y1, y2, y3, y4, y5, y6, x7] := b5.setCell 6 y6
  have b7 : Blk ((((((((W.setCell ⟨g, 0, none⟩ y0).setCell ⟨g, 1, none⟩ y1).setCell ⟨g, 2, none⟩ y2).setCell ⟨g, 3, none⟩ y3).setCell ⟨g, 4, none⟩ y4).setCell ⟨g, 5, none⟩ y5).setCell ⟨g, 6, none⟩ y6).setCell ⟨g, 7, none⟩ y7) g t #[y0, y1, y2, y3, y4, y5, y6, y7] := b6.setCell 7 y7
  exact h _ b7 (grown_set (grown_set (grown_set (grown_set (grown_set (grown_set (grown_set (grown_set (World.grownBy.refl W (some g)) 0 y0) 1 y1) 2 y2) 3 y3) 4 y4) 5 y5) 6 y6) 7 y7) (by simp)
end Go.Proofs.Ytbibfjncjklclaa

/- General words: a region that draws its order, in which a call may panic. No condition. -/
namespace Go.Proofs.Ytbibfjncjklclaa
open Go
/-- what is asked of a panic says nothing of the slots -/
def QP (Q : Exit → Act → World → Prop) : Exit → Act → World → Prop
  | .panic ch, a, w => ∀ tm, Q (.panic ch) { tmps := tm, defers := a.defers } w
  | .normal, a, w => Q .normal a w
  | _, _, _ => False
theorem QP.normal {Q : Exit → Act → World → Prop} {a : Act} {w : World} (h : Q .normal a w) : QP Q .normal a w := h
theorem QP.imp {Q : Exit → Act → World → Prop} : ∀ (e : Exit) (a : Act) (w : World), QP Q e a w → Q e a w := fun e a w h => by
  cases e with
  | normal => exact h
  | panic ch => exact h a.tmps
  | _ => exact h.elim
theorem QP.put {Q : Exit → Act → World → Prop} {ch : List PanicEntry} {a : Act} {d : Option Tmp} {v : Value} {w : World} (h : QP Q (.panic ch) (a.put d v) w) : QP Q (.panic ch) a w := by
  cases d with
  | none => exact h
  | some d => exact h
theorem wp_region_qp {P : Program} {id : Nat} {ops : Array Oper} {b : Bool} {Q : Exit → Act → World → Prop} {a : Act} {w : World} (h : (Code.region id ops b).wp P (QP Q) a w) : (Code.region id ops b).wp P Q a w :=
  Code.wp_mono QP.imp h
end Go.Proofs.Ytbibfjncjklclaa

/- General words: maps by numbers: what an update, a look, len and clear do. No condition. -/
namespace Go.Proofs.Ytbibfjncjklclaa
open Go.RowKit
/-- the map at block g holds L: keys are numbers -/
def MapAt (w : World) (g : Nat) (ik : IntKind) (L : List (Int × Value)) : Prop :=
  ∃ es c, w.heap[g]? = some (.map es c) ∧ es.toList.map (fun e => (e.key, e.val)) = L.map (fun x => (Value.int ik x.1, x.2)) ∧ MapKept.Stamped es c
def putL (L : List (Int × Value)) (k : Int) (v : Value) : List (Int × Value) := match L with
  | [] => [(k, v)]
  | x :: L => if x.1 = k then (k, v) :: L else x :: putL L k v
def getL (L : List (Int × Value)) (k : Int) : Option Value := match L with
  | [] => none
  | x :: L => if x.1 = k then some x.2 else getL L k
def idxL (L : List (Int × Value)) (k : Int) : Nat := match L with
  | [] => 0
  | x :: L => if x.1 = k then 0 else idxL L k + 1
theorem findNow_L (ik : IntKind) (k : Int) : ∀ (L : List (Int × Value)) (es : List MapEntry), es.map (fun e => (e.key, e.val)) = L.map (fun x => (Value.int ik x.1, x.2)) → ∀ i, Instr.findNow (.int ik) (.int ik k) es i = some ((getL L k).map fun v => (i + idxL L k, v))
  | [], es, h, i => by
    cases es with
    | nil => rfl
    | cons e es => simp at h
  | x :: L, es, h, i => by
    cases es with
    | nil => simp at h
    | cons e es =>
      simp only [List.map_cons, List.cons.injEq, Prod.mk.injEq] at h
      obtain ⟨⟨hk, hv⟩, hr⟩ := h
      unfold Instr.findNow
      rw [hk]
      by_cases e1 : x.1 = k
      · have : (k == x.1) = true := by simp [e1]
        simp [Instr.sameNow, this, getL, e1, idxL, hv]
      · have : (k == x.1) = false := by simpa using fun h => e1 h.symm
        simp only [Instr.sameNow, this]
        rw [show getL (x :: L) k = getL L k from if_neg e1, show idxL (x :: L) k = idxL L k + 1 from if_neg e1, findNow_L ik k L es hr (i + 1)]
        cases getL L k <;> simp <;> omega
theorem getL_none {L : List (Int × Value)} {k : Int} (h : getL L k = none) : ∀ x ∈ L, x.1 ≠ k := by
  induction L with
  | nil => intro x hx; cases hx
  | cons y L ih =>
    unfold getL at h
    split at h
    · cases h
    · rename_i e
      intro x hx
      rcases List.mem_cons.1 hx with rfl | hx
      · exact e
      · exact ih h x hx
theorem putL_none {L : List (Int × Value)} {k : Int} {v : Value} (h : getL L k = none) : putL L k v = L ++ [(k, v)] := by
  induction L with
  | nil => rfl
  | cons x L ih =>
    unfold getL at h; unfold putL
    split at h
    · cases h
    · rename_i e; rw [if_neg e, ih h]; rfl
theorem putL_some {L : List (Int × Value)} {k : Int} {v u : Value} (h : getL L k = some u) : putL L k v = L.modify (idxL L k) fun _ => (k, v) := by
  induction L with
  | nil => cases h
  | cons x L ih =>
    unfold getL at h; unfold putL idxL
    split at h
    · rename_i e; rw [if_pos e, if_pos e]; rfl
    · rename_i e; rw [if_neg e, if_neg e, ih h]; rfl
theorem idxL_lt {L : List (Int × Value)} {k : Int} {u : Value} (h : getL L k = some u) : idxL L k < L.length ∧ (L[idxL L k]?.map Prod.fst) = some k := by
  induction L with
  | nil => cases h
  | cons x L ih =>
    unfold getL at h; unfold idxL
    split at h
    · rename_i e; rw [if_pos e]; exact ⟨by simp, by simp [e]⟩
    · rename_i e; rw [if_neg e]; have := ih h; exact ⟨by simp; omega, by simpa using this.2⟩
section
variable {P : Program} {T K E : TypeId} {w : World} {g : Nat} {ik : IntKind} {L : List (Int × Value)}
theorem setObj_grown (hb : (∃ o, w.heap[g]? = some o)) (o' : Obj) : w.grownBy { w with heap := w.heap.setIfInBounds g o' } (some g) :=
  ⟨rfl, rfl, rfl, by simp, fun i _ hne => by
    show (w.heap.setIfInBounds g o')[i]? = _
    rw [Array.getElem?_setIfInBounds_ne (fun e => hne (by rw [e]))]⟩
theorem MapAt.update (h : MapAt w g ik L) (hT : P.underlying T = some (.map K E)) (hK : P.underlying K = some (.int ik)) (k : Int) (v : Value) :
    ∃ w', (Instr.mapUpdate T (.map (some g)) (.int ik k) v).run P w = .ok () w' ∧ MapAt w' g ik (putL L k v) ∧ w.grownBy w' (some g) := by
  obtain ⟨es, c, hb, he, hst⟩ := h
  have hk : MapKept.IsKey (.int ik) (.int ik k) := by simp [MapKept.IsKey]
  have hf := findNow_L ik k L es.toList he 0
  cases hg : getL L k with
  | none =>
    rw [hg] at hf
    refine ⟨{ w with heap := w.heap.setIfInBounds g (.map (es.push ⟨.int ik k, v, c⟩) (c + 1)) }, ?_, ⟨_, _, (MapKept.heap_set hb).1, ?_, ?_⟩, setObj_grown ⟨_, hb⟩ _⟩
    · simp only [Instr.mapUpdate, Sem.run_bind, run_underlying hT, MapKept.run_getObj_map hb, MapKept.run_checkKey hK hk, MapKept.run_findKey hK hf, MapKept.run_setObj_map _ hb, Result.andThen, Option.map_none]
    · rw [putL_none hg]; simp [he]
    · refine MapKept.stamped_push hst (fun x hx hkx => ?_)
      have h2 : (x.key, x.val) ∈ L.map (fun x => (Value.int ik x.1, x.2)) := he ▸ List.mem_map.2 ⟨x, hx, rfl⟩
      obtain ⟨y, hy, e⟩ := List.mem_map.1 h2
      have e1 := congrArg Prod.fst e
      dsimp only at e1
      rw [hkx] at e1
      simp only [Value.int.injEq, true_and] at e1
      exact getL_none hg y hy e1
  | some u =>
    rw [hg] at hf
    rw [Nat.zero_add] at hf
    have hl := congrArg List.length he
    simp only [List.length_map] at hl
    have hi := idxL_lt hg
    have hes : es[idxL L k]?.map (·.key) = some (.int ik k) := by
      have h2 := congrArg (fun l => (l[idxL L k]?).map Prod.fst) he
      simp only [List.getElem?_map, Option.map_map] at h2
      have h3 := hi.2
      cases h4 : L[idxL L k]? with
      | none => rw [h4] at h3; cases h3
      | some y =>
        rw [h4] at h3 h2
        simp only [Option.map_some, Option.some.injEq] at h3
        rw [← Array.getElem?_toList]
        simp only [Option.map_some, Function.comp] at h2
        rw [h3] at h2
        rw [← h2]; congr 1
    refine ⟨{ w with heap := w.heap.setIfInBounds g (.map (es.modify (idxL L k) fun e => { e with key := .int ik k, val := v }) c) }, ?_, ⟨_, _, (MapKept.heap_set hb).1, ?_, ?_⟩, setObj_grown ⟨_, hb⟩ _⟩
    · simp only [Instr.mapUpdate, Sem.run_bind, run_underlying hT, MapKept.run_getObj_map hb, MapKept.run_checkKey hK hk, MapKept.run_findKey hK hf, MapKept.run_setObj_map _ hb, Result.andThen, Option.map_some, hes, Option.getD_some, MapKept.run_keyThatStays hk]
    · rw [putL_some hg, Array.toList_modify]
      apply List.ext_getElem?
      intro j
      have h2 := congrArg (fun l => l[j]?) he
      simp only [List.getElem?_map, List.getElem?_modify] at h2 ⊢
      by_cases e : idxL L k = j
      · subst e
        cases h4 : es.toList[idxL L k]? with
        | none => cases h5 : L[idxL L k]? with
          | none => rfl
          | some y => rw [h4, h5] at h2; cases h2
        | some x => cases h5 : L[idxL L k]? with
          | none => rw [h4, h5] at h2; cases h2
          | some y => simp
      · simp only [e, if_false]; simpa using h2
    · have hkey : ∀ e', es[idxL L k]? = some e' → ({ e' with key := .int ik k, val := v } : MapEntry).key = e'.key := fun e' he' => by rw [he'] at hes; simpa using hes.symm
      exact MapKept.stamped_modify hst _ _ (fun _ _ => rfl) (fun e' _ he' => hkey e' he')
theorem MapAt.look (h : MapAt w g ik L) (hT : P.underlying T = some (.map K E)) (hK : P.underlying K = some (.int ik)) (k : Int) {z : Value} (hz : (zeroValue E).run P w = .ok z w) :
    (Instr.lookup T (.map (some g)) (.int ik k) true).run P w = .ok (.tuple #[(getL L k).getD z, .bool (getL L k).isSome]) w := by
  obtain ⟨es, c, hb, he, hst⟩ := h
  have hk : MapKept.IsKey (.int ik) (.int ik k) := by simp [MapKept.IsKey]
  have hf := findNow_L ik k L es.toList he 0
  cases hg : getL L k <;> rw [hg] at hf <;>
  simp [Instr.lookup, Sem.run_bind, run_underlying hT, MapKept.run_getObj_map hb, MapKept.run_checkKey hK hk, MapKept.run_findKey hK hf, hz, Result.andThen]
theorem MapAt.look1 (h : MapAt w g ik L) (hT : P.underlying T = some (.map K E)) (hK : P.underlying K = some (.int ik)) (k : Int) {z : Value} (hz : (zeroValue E).run P w = .ok z w) :
    (Instr.lookup T (.map (some g)) (.int ik k) false).run P w = .ok ((getL L k).getD z) w := by
  obtain ⟨es, c, hb, he, hst⟩ := h
  have hk : MapKept.IsKey (.int ik) (.int ik k) := by simp [MapKept.IsKey]
  have hf := findNow_L ik k L es.toList he 0
  cases hg : getL L k <;> rw [hg] at hf <;>
  simp [Instr.lookup, Sem.run_bind, run_underlying hT, MapKept.run_getObj_map hb, MapKept.run_checkKey hK hk, MapKept.run_findKey hK hf, hz, Result.andThen]
theorem MapAt.len_ (h : MapAt w g ik L) (hT : P.underlying T = some (.map K E)) (ty : TypeId) : (Builtin.len_ #[T] ty #[.map (some g)]).run P w = .ok (.int .i64 L.length) w := by
  obtain ⟨es, c, hb, he, hst⟩ := h
  have hl := congrArg List.length he
  simp only [List.length_map, Array.length_toList] at hl
  simp [Builtin.len_, run_underlying hT, MapKept.run_getObj_map hb, Result.andThen, goInt, hl]
theorem MapAt.clear (h : MapAt w g ik L) (hT : P.underlying T = some (.map K E)) : ∃ w', (∀ ty : TypeId, (Builtin.clear_ #[T] ty #[.map (some g)]).run P w = .ok (.tuple #[]) w') ∧ MapAt w' g ik [] ∧ w.grownBy w' (some g) := by
  obtain ⟨es, c, hb, he, hst⟩ := h
  refine ⟨{ w with heap := w.heap.setIfInBounds g (.map #[] c) }, fun ty => ?_, ⟨_, _, (MapKept.heap_set hb).1, rfl, MapKept.stamped_empty _⟩, setObj_grown ⟨_, hb⟩ _⟩
  simp [Builtin.clear_, run_underlying hT, MapKept.run_getObj_map hb, MapKept.run_setObj_map _ hb, Result.andThen]
theorem MapAt.same {w' : World} (h : MapAt w g ik L) (hs : w'.heap[g]? = w.heap[g]?) : MapAt w' g ik L := by
  obtain ⟨es, c, hb, he, hst⟩ := h
  exact ⟨es, c, hs.trans hb, he, hst⟩
theorem MapAt.lt (h : MapAt w g ik L) : g < w.heap.size := by
  obtain ⟨es, c, hb, he, hst⟩ := h
  exact (Array.getElem?_eq_some_iff.1 hb).1
theorem MapAt.new (w : World) (ik : IntKind) : MapAt (w.alloc (.map #[] 0)) w.heap.size ik [] := ⟨#[], 0, (MapKept.heap_alloc w _).1, rfl, MapKept.stamped_empty _⟩
theorem MapAt.grown {w' : World} {r : Option Nat} (h : MapAt w g ik L) (hg : w.grownBy w' r) (hne : some g ≠ r) : MapAt w' g ik L := h.same (hg.block g h.lt hne)
end
end Go.Proofs.Ytbibfjncjklclaa

/- General words: a range over a map by numbers that stays as it is. No condition. -/
namespace Go.Proofs.Ytbibfjncjklclaa
open Go.RowKit
open Go.ChangeMaps (setBlock)
/-- block r goes through the map at block g, which holds L; cnt are left -/
def IterAt (w : World) (r g : Nat) (ik : IntKind) (L : List (Int × Value)) (cnt : Nat) : Prop :=
  ∃ es clock since seen c0, w.heap[g]? = some (.map es clock) ∧ es.toList.map (fun e => (e.key, e.val)) = L.map (fun x => (Value.int ik x.1, x.2)) ∧ MapKept.Stamped es clock ∧ w.heap[r]? = some (.mapIter (some g) since seen c0) ∧
    (∀ x ∈ es.toList, x.born < since) ∧ since ≤ c0 ∧ since ≤ clock ∧ (leftOf es seen).size = cnt
section
variable {w : World} {r g : Nat} {ik : IntKind} {L : List (Int × Value)} {P : Program} {T K E : TypeId} {cnt : Nat}
theorem IterAt.map (h : IterAt w r g ik L cnt) : MapAt w g ik L := by
  obtain ⟨es, clock, since, seen, c0, h1, h2, h3, _⟩ := h
  exact ⟨es, clock, h1, h2, h3⟩
theorem IterAt.lt (h : IterAt w r g ik L cnt) : r < w.heap.size := by
  obtain ⟨es, clock, since, seen, c0, h1, h2, h3, h4, _⟩ := h
  exact (Array.getElem?_eq_some_iff.1 h4).1
theorem IterAt.kept {w' : World} {row : Option Nat} (h : IterAt w r g ik L cnt) (hg : w.grownBy w' row) (h1 : some g ≠ row) (h2 : some r ≠ row) : IterAt w' r g ik L cnt := by
  have hr := h.lt; have hm := h.map.lt
  obtain ⟨es, clock, since, seen, c0, k1, k2, k3, k4, k5⟩ := h
  exact ⟨es, clock, since, seen, c0, (hg.block g hm h1).trans k1, k2, k3, (hg.block r hr h2).trans k4, k5⟩
theorem IterAt.step {w' : World} (h : IterAt w r g ik L cnt) (hb : Below w.heap.size w w') : IterAt w' r g ik L cnt := by
  have hr := h.lt; have hm := h.map.lt
  obtain ⟨es, clock, since, seen, c0, k1, k2, k3, k4, k5⟩ := h
  exact ⟨es, clock, since, seen, c0, (hb.block g hm).trans k1, k2, k3, (hb.block r hr).trans k4, k5⟩
theorem MapAt.step {w' : World} (h : MapAt w g ik L) (hb : Below w.heap.size w w') : MapAt w' g ik L := h.same (hb.block g h.lt)
theorem stamped_born {es : Array MapEntry} {c : Nat} (h : MapKept.Stamped es c) : (∀ x ∈ es.toList, x.born < c) ∧ (es.toList.map (·.born)).Nodup := ⟨h.1, h.2.1⟩
theorem MapAt.range (h : MapAt w g ik L) (hT : P.underlying T = some (.map K E)) :
    ∃ w' cnt, (Instr.range T (.map (some g))).run P w = .ok (.pointer (some ⟨w.heap.size, 0, none⟩)) w' ∧ IterAt w' w.heap.size g ik L cnt ∧ Below w.heap.size w w' ∧ w'.heap.size = w.heap.size + 1 := by
  have hlt := h.lt
  obtain ⟨es, clock, hb, he, hs⟩ := h
  refine ⟨_, _, run_range_map w T K E g es clock hT hb, ⟨es, clock, clock, #[], clock, ((MapKept.heap_alloc w _).2 g hlt).trans hb, he, hs, (MapKept.heap_alloc w _).1, (stamped_born hs).1, Nat.le_refl _, Nat.le_refl _, rfl⟩, ?_, by simp⟩
  exact (Below.refl _ w).alloc (Nat.le_refl _) _
theorem IterAt.next (h : IterAt w r g ik L cnt) :
    (cnt = 0 ∧ ∀ ty, (Instr.next (.pointer (some ⟨r, 0, none⟩)) false ty).run P w = .ok (.tuple #[.bool false]) w) ∨
    ∃ x ∈ L, ∃ w' cnt', (∀ ty, (Instr.next (.pointer (some ⟨r, 0, none⟩)) false ty).run P w = .ok (.tuple #[.bool true, .int ik x.1, x.2]) w') ∧ IterAt w' r g ik L cnt' ∧ cnt' < cnt ∧ w.grownBy w' (some r) ∧ w'.heap.size = w.heap.size ∧
      (Instr.entry (.pointer (some ⟨r, 0, none⟩))).run P w' = .ok (.tuple #[.int ik x.1, x.2]) w' := by
  have hne : r ≠ g := by
    intro e
    obtain ⟨es, clock, since, seen, c0, k1, k2, k3, k4, k5⟩ := h
    rw [e, k1] at k4; cases k4
  obtain ⟨es, clock, since, seen, c0, hb, hL, hs, hr, hold, hsc, hsk, rfl⟩ := h
  -- the drawn way is one for all types
  have key : ∀ ty ty', (Instr.next (.pointer (some ⟨r, 0, none⟩)) false ty).run P w = (Instr.next (.pointer (some ⟨r, 0, none⟩)) false ty').run P w := fun _ _ => rfl
  rcases run_next_at (P := P) w 0 r g since c0 seen es clock hr hb hold hsc with ⟨h0, hrun⟩ | ⟨e, he, w1, hal, hrun⟩
  · exact .inl ⟨h0, fun ty => (key ty 0).trans hrun⟩
  · obtain ⟨hem, hes⟩ := mem_left he
    have hr1 : w1.heap[r]? = some (.mapIter (some g) since seen c0) := by rcases hal with rfl | rfl <;> exact hr
    have hb1 : w1.heap[g]? = some (.map es clock) := by rcases hal with rfl | rfl <;> exact hb
    have hset := MapKept.heap_set (o' := .mapIter (some g) since (seen.push e.born) clock) hr1
    have hb' : (setBlock w1 r (.mapIter (some g) since (seen.push e.born) clock)).heap[g]? = some (.map es clock) := (hset.2 g (fun e1 => hne e1.symm)).trans hb1
    have hmem : (e.key, e.val) ∈ L.map (fun x => (Value.int ik x.1, x.2)) := hL ▸ List.mem_map.2 ⟨e, hem, rfl⟩
    obtain ⟨x, hx, hxe⟩ := List.mem_map.1 hmem
    simp only [Prod.mk.injEq] at hxe
    refine .inr ⟨x, hx, _, _, fun ty => ?_, ⟨es, clock, since, seen.push e.born, clock, hb', hL, hs, hset.1, hold, hsk, hsk, rfl⟩, left_shrinks es seen e he, ?_, ?_, ?_⟩
    · rw [key ty 0, hrun, hxe.1, hxe.2]
    · rcases hal with rfl | rfl <;> exact ⟨rfl, rfl, rfl, by simp [setBlock], fun i _ hi => hset.2 i (fun e1 => hi (by rw [e1]))⟩
    · rcases hal with rfl | rfl <;> simp [setBlock]
    · rw [run_entry_at _ r g since seen es clock e hset.1 hb' hem (stamped_born hs).2, hxe.1, hxe.2]
end
/-- numbers under numbers -/
def inV (L : List (Int × Int)) : List (Int × Value) := L.map fun x => (x.1, .int .i64 x.2)
theorem getL_inV {L : List (Int × Int)} {k : Int} : (getL (inV L) k).isSome = decide (k ∈ L.map Prod.fst) := by
  induction L with
  | nil => rfl
  | cons x L ih =>
    show (getL ((x.1, _) :: inV L) k).isSome = _
    unfold getL
    by_cases e : x.1 = k
    · rw [if_pos e]; simp [e]
    · rw [if_neg e, ih, decide_eq_decide, List.map_cons, List.mem_cons]
      exact ⟨fun h => .inr h, fun h => h.resolve_left (fun h => e h.symm)⟩
end Go.Proofs.Ytbibfjncjklclaa
