/- General words and laws for the walks of this seat, all together. No condition. -/
import Derived.WalkKit
import Derived.WalkSpells
import Derived.WalkLawsBesides
import Derived.Maps.AppendAt
import Derived.Deep.AppendLies
import Derived.Deep.Draws
import Derived.BigQuiet
import Derived.Deep.QuietTactic
import Derived.RangeFuncNested
import Derived.RangeFuncBound
import Derived.RangeFuncCalls
import Derived.RangeFuncLeaves
import Derived.RangeFuncWrites
import Derived.RangeFuncBox
import Derived.Shelf.Abstract
import Derived.OwnWalkIn
import Derived.TacticsInMore
import Derived.LoopNIn
import Derived.LoopIn
import Derived.Maps.OwnIn
import Derived.ControlIn
import Derived.Laws.MakeOwn
import Derived.Laws.OwnMore
import Derived.Deep.RegionHeld3
import Derived.Deep.AppendSrc
import Derived.Laws.CopyRow
import Derived.StillTail
import Derived.Deep.RegionHeld
/- General words and laws for the walks of this seat: rows that are read, rows that are owned, blocks known whole, whole arrays loaded and stored. No condition. -/
namespace Go.Proofs.Ytlidbiaadoigeaa
open Go.RowKit

theorem hid {p : Prop} (h : p) : Hid p := h
theorem ret_bool {a b : Bool} (h : a = b) : Ending.returned (.bool a) = .returned (.bool b) := by rw [h]
theorem ret_int {k : IntKind} {a b : Int} (h : a = b) : Ending.returned (.int k a) = .returned (.int k b) := by rw [h]

/-! ### blocks known whole -/
def Blk (w : World) (g : Nat) (t : TypeId) (cs : Array Value) : Prop := w.heap[g]? = some (.cells cs t (0, 0))
section
variable {w w' : World} {g : Nat} {t : TypeId} {cs cs' : Array Value}
theorem Blk.lt (h : Blk w g t cs) : g < w.heap.size := by unfold Blk at h; exact (Array.getElem?_eq_some_iff.1 h).1
theorem Blk.new (w : World) (t : TypeId) (cs : Array Value) : Blk (w.alloc (.cells cs t)) w.heap.size t cs := heap_alloc_new w _
theorem Blk.at (hg : g = w.heap.size) : Blk (w.alloc (.cells cs t)) g t cs := hg ▸ Blk.new w t cs
theorem Blk.new2 (w : World) (t : TypeId) (cs : Array Value) (a : Obj) : Blk ((w.alloc a).alloc (.cells cs t)) (w.heap.size + 1) t cs := Blk.at (by simp)
theorem Blk.new3 (w : World) (t : TypeId) (cs : Array Value) (a b : Obj) : Blk (((w.alloc a).alloc b).alloc (.cells cs t)) (w.heap.size + 1 + 1) t cs := Blk.at (by simp)
theorem Blk.new4 (w : World) (t : TypeId) (cs : Array Value) (a b c : Obj) : Blk ((((w.alloc a).alloc b).alloc c).alloc (.cells cs t)) (w.heap.size + 1 + 1 + 1) t cs := Blk.at (by simp)
theorem Blk.alloc (h : Blk w g t cs) (o : Obj) : Blk (w.alloc o) g t cs := (Below.heap_alloc w o g h.lt).trans h
theorem Blk.drew (h : Blk w g t cs) : Blk w.drew g t cs := h
theorem Blk.drewN (h : Blk w g t cs) (n : Nat) : Blk (w.drewN n) g t cs := h
theorem Blk.setRow (h : Blk w g t cs) : Blk (w.setRow g cs') g t cs' := setRow_heap w g cs cs' t _ h
theorem Blk.farRow {k : Nat} (h : Blk w g t cs) (hk : g ≠ k) : Blk (w.setRow k cs') g t cs := (setRow_other w k g cs' hk).trans h
theorem Blk.cell (h : Blk w g t cs) (i : Nat) : w.cell? ⟨g, i, none⟩ = cs[i]? := cell_of_row w g i cs t (0, 0) h
theorem Blk.frozen (h : Blk w g t cs) (i : Nat) : w.frozen? ⟨g, i, none⟩ = false := frozen_of_row w g i cs t h
theorem Blk.setCell (h : Blk w g t cs) (i : Nat) (u : Value) : Blk (w.setCell ⟨g, i, none⟩ u) g t (cs.setIfInBounds i u) := heap_setCell_same w g i cs t u h
theorem Blk.far (h : Blk w g t cs) {p : Addr} (hp : g ≠ p.block) (u : Value) : Blk (w.setCell p u) g t cs := (Below.heap_setCell w p u g hp).trans h
theorem Blk.below {B : Nat} (h : Blk w g t cs) (hb : Below B w w') (hg : g < B) : Blk w' g t cs := (hb.block g hg).trans h
theorem Blk.grown {row : Option Nat} (h : Blk w g t cs) (hb : w.grownBy w' row) (hg : some g ≠ row) : Blk w' g t cs := (hb.block g h.lt hg).trans h
end
theorem Blk.cells1 {w : World} {g : Nat} {t : TypeId} {a : Value} (h : Blk w g t #[a]) : w.cell? ⟨g, 0, none⟩ = some a ∧ w.frozen? ⟨g, 0, none⟩ = false := ⟨h.cell 0, h.frozen 0⟩
theorem Blk.cells2 {w : World} {g : Nat} {t : TypeId} {a b : Value} (h : Blk w g t #[a, b]) : w.cell? ⟨g, 0, none⟩ = some a ∧ w.cell? ⟨g, 1, none⟩ = some b ∧ ∀ i, w.frozen? ⟨g, i, none⟩ = false := ⟨h.cell 0, h.cell 1, h.frozen⟩
theorem Blk.cells3 {w : World} {g : Nat} {t : TypeId} {a b c : Value} (h : Blk w g t #[a, b, c]) : w.cell? ⟨g, 0, none⟩ = some a ∧ w.cell? ⟨g, 1, none⟩ = some b ∧ w.cell? ⟨g, 2, none⟩ = some c ∧ ∀ i, w.frozen? ⟨g, i, none⟩ = false := ⟨h.cell 0, h.cell 1, h.cell 2, h.frozen⟩
theorem below_setRow {B : Nat} {a w : World} (h : Below B a w) {g : Nat} (hg : B ≤ g) (cs : Array Value) : Below B a (w.setRow g cs) :=
  h.trans ⟨rfl, rfl, rfl, by simp, fun k hk => setRow_other w g k cs (by omega)⟩
/-- all old cells and marks read as before -/
theorem bcell {W w1 : World} (hb : Below W.heap.size W w1) : (∀ b o, b < W.heap.size → w1.cell? ⟨b, o, none⟩ = W.cell? ⟨b, o, none⟩) ∧ (∀ b o, b < W.heap.size → w1.frozen? ⟨b, o, none⟩ = W.frozen? ⟨b, o, none⟩) :=
  ⟨fun b o h => hb.cell (p := ⟨b, o, none⟩) h, fun b o h => hb.frozen (p := ⟨b, o, none⟩) h⟩

/-! ### a row of one-cell elements that is read -/
structure Sl {α : Type} (enc : α → Value) (d : α) (w : World) (lo hi : Nat) (A : Option Addr) (n : Nat) (xs : List α) : Prop where
  len : xs.length = n
  row : 0 < n → ∃ b off, A = some ⟨b, off, none⟩ ∧ lo ≤ b ∧ b < hi ∧ ∀ k, k < n → w.cell? ⟨b, off + k, none⟩ = some (enc (xs[k]?.getD d))
section
variable {α : Type} {enc : α → Value} {d : α} {w w' : World} {lo hi lo' hi' B : Nat} {A : Option Addr} {n : Nat} {xs : List α}
theorem Sl.nil (w : World) (lo hi : Nat) (A : Option Addr) : Sl enc d w lo hi A 0 [] := ⟨rfl, fun h => absurd h (by omega)⟩
theorem Sl.keep (h : Sl enc d w lo hi A n xs) (hk : ∀ b o, lo ≤ b → b < hi → w'.cell? ⟨b, o, none⟩ = w.cell? ⟨b, o, none⟩) : Sl enc d w' lo hi A n xs :=
  ⟨h.len, fun hn => by
    obtain ⟨b, off, e, h1, h2, h3⟩ := h.row hn
    exact ⟨b, off, e, h1, h2, fun k hkn => (hk b _ h1 h2).trans (h3 k hkn)⟩⟩
theorem Sl.below (h : Sl enc d w lo hi A n xs) (hb : Below B w w') (hB : hi ≤ B) : Sl enc d w' lo hi A n xs := h.keep fun b o _ h2 => hb.cell (p := ⟨b, o, none⟩) (Nat.lt_of_lt_of_le h2 hB)
theorem Sl.alloc (h : Sl enc d w lo hi A n xs) (hB : hi ≤ w.heap.size) (o : Obj) : Sl enc d (w.alloc o) lo hi A n xs :=
  h.keep fun b i _ h2 => World.cell?_alloc_lt w o ⟨b, i, none⟩ (Nat.lt_of_lt_of_le h2 hB)
theorem Sl.drew (h : Sl enc d w lo hi A n xs) : Sl enc d w.drew lo hi A n xs := ⟨h.len, h.row⟩
theorem Sl.drewN (h : Sl enc d w lo hi A n xs) (k : Nat) : Sl enc d (w.drewN k) lo hi A n xs := ⟨h.len, h.row⟩
theorem Sl.setCell (h : Sl enc d w lo hi A n xs) {p : Addr} (hp : p.block < lo ∨ hi ≤ p.block) (u : Value) : Sl enc d (w.setCell p u) lo hi A n xs :=
  h.keep fun b i h1 h2 => World.cell?_setCell_other w p ⟨b, i, none⟩ u (fun e => by subst e; simp at hp; omega)
theorem Sl.setRow (h : Sl enc d w lo hi A n xs) {g : Nat} (hp : g < lo ∨ hi ≤ g) (cs : Array Value) : Sl enc d (w.setRow g cs) lo hi A n xs :=
  h.keep fun b i h1 h2 => cell_setRow_other w g cs ⟨b, i, none⟩ (by simp; omega)
theorem Sl.mono (h : Sl enc d w lo hi A n xs) (h1 : lo' ≤ lo) (h2 : hi ≤ hi') : Sl enc d w lo' hi' A n xs :=
  ⟨h.len, fun hn => by
    obtain ⟨b, off, e, g1, g2, g3⟩ := h.row hn
    exact ⟨b, off, e, by omega, by omega, g3⟩⟩
theorem Sl.take (h : Sl enc d w lo hi A n xs) {k : Nat} (hk : k ≤ n) : Sl enc d w lo hi A k (xs.take k) :=
  ⟨by rw [List.length_take, h.len]; omega, fun hn => by
    obtain ⟨b, off, e, h1, h2, h3⟩ := h.row (by omega)
    refine ⟨b, off, e, h1, h2, fun j hj => ?_⟩
    rw [h3 j (by omega), List.getElem?_take, if_pos hj]⟩
theorem Sl.drop (h : Sl enc d w lo hi A n xs) {k cap : Nat} (hk : k ≤ n) (hc : n ≤ cap) : Sl enc d w lo hi (if cap = k then A else A.map (·.add k)) (n - k) (xs.drop k) :=
  ⟨by rw [List.length_drop, h.len], fun hn => by
    obtain ⟨b, off, rfl, h1, h2, h3⟩ := h.row (by omega)
    rw [if_neg (by omega)]
    refine ⟨b, off + k, by simp [Addr.add_lit], h1, h2, fun j hj => ?_⟩
    rw [Nat.add_assoc, h3 (k + j) (by omega), List.getElem?_drop]⟩
theorem Sl.none_ (h : Sl enc d w lo hi none n xs) : n = 0 ∧ xs = [] := by
  have hn : n = 0 := by
    rcases Nat.eq_zero_or_pos n with h0 | h0
    · exact h0
    · obtain ⟨b, off, e, _⟩ := h.row h0
      cases e
  exact ⟨hn, List.eq_nil_of_length_eq_zero (h.len.trans hn)⟩
end

/-! ### a row of one-cell elements that is owned -/
structure Ow {α : Type} (enc : α → Value) (w : World) (lo : Nat) (e : TypeId) (A : Option Addr) (n c : Nat) (xs : List α) : Prop where
  len : xs.length = n
  own : w.ownsRow lo e 1 (.slice A n c) n (xs.map enc)
section
variable {α : Type} {enc : α → Value} {d : α} {w w' : World} {lo lo' B : Nat} {e : TypeId} {A : Option Addr} {n c : Nat} {xs : List α}
theorem Ow.cap (h : Ow enc w lo e A n c xs) : n ≤ c ∧ c ≤ maxLen := by
  rcases h.own.2 with ⟨hv, h0⟩ | ⟨g, cap, cur, hv, _, _, h1, h2, _⟩
  · simp only [Value.slice.injEq] at hv; obtain ⟨_, rfl, rfl⟩ := hv; exact ⟨Nat.le_refl _, by simp [maxLen]⟩
  · simp only [Value.slice.injEq] at hv; obtain ⟨_, _, rfl⟩ := hv; exact ⟨h1, h2⟩
theorem Ow.sl (h : Ow enc w lo e A n c xs) : Sl enc d w lo w.heap.size A n xs := by
  refine ⟨h.len, fun hn => ?_⟩
  obtain ⟨g, cap, hv, hlo, hhi⟩ := h.own.form hn
  simp only [Value.slice.injEq] at hv
  obtain ⟨rfl, _, rfl⟩ := hv
  refine ⟨g, 0, rfl, hlo, hhi, fun k hk => ?_⟩
  rw [Nat.zero_add, h.own.cellAt k (by omega), List.getElem?_map, List.getElem?_eq_getElem (by rw [h.len]; exact hk)]
  rfl
theorem Ow.empty (w : World) (lo : Nat) (e : TypeId) (hlo : lo ≤ w.heap.size) : Ow enc (w.alloc (.cells #[] e)) lo e (some ⟨w.heap.size, 0, none⟩) 0 0 [] :=
  ⟨rfl, World.ownsRow_made w #[] 0 hlo (by simp [maxLen]) rfl⟩
theorem Ow.nil (w : World) (lo : Nat) (e : TypeId) : Ow enc w lo e none 0 0 [] := ⟨rfl, World.ownsRow_nil w lo e 1⟩
theorem Ow.below (h : Ow enc w lo e A n c xs) (hb : Below w.heap.size w w') : Ow enc w' lo e A n c xs := by
  refine ⟨h.len, h.own.1, ?_⟩
  rcases h.own.2 with hh | ⟨g, cap, cur, hv, hb1, hg, r⟩
  · exact .inl hh
  · exact .inr ⟨g, cap, cur, hv, hb1, (hb.block g (Array.getElem?_eq_some_iff.1 hg).1).trans hg, r⟩
theorem Ow.mono (h : Ow enc w lo e A n c xs) (h1 : lo' ≤ lo) : Ow enc w lo' e A n c xs := by
  refine ⟨h.len, h.own.1, ?_⟩
  rcases h.own.2 with hh | ⟨g, cap, cur, hv, hb1, r⟩
  · exact .inl hh
  · exact .inr ⟨g, cap, cur, hv, by omega, r⟩
theorem Ow.alloc (h : Ow enc w lo e A n c xs) (o : Obj) : Ow enc (w.alloc o) lo e A n c xs := ⟨h.len, h.own.alloc o⟩
theorem Ow.drewN (h : Ow enc w lo e A n c xs) (k : Nat) : Ow enc (w.drewN k) lo e A n c xs := ⟨h.len, h.own⟩
theorem Ow.setCell (h : Ow enc w lo e A n c xs) {p : Addr} (hp : p.block < lo) (u : Value) : Ow enc (w.setCell p u) lo e A n c xs := ⟨h.len, ownsRow_setCell_below h.own hp u⟩
end

section
variable {α : Type} {enc : α → Value} {d : α} {w w' : World} {lo lo' B : Nat} {e : TypeId} {A : Option Addr} {n c : Nat} {xs : List α}
theorem Ow.row_ge (h : Ow enc w lo e A n c xs) : ∀ k, (Value.slice A n c).ownBlock = some k → lo ≤ k := fun k hk => (h.own.lt k hk).1
/-- a block below an owned row is no part of it -/
theorem Ow.ne_row (h : Ow enc w lo e A n c xs) {g : Nat} (hg : g < lo) : some g ≠ (Value.slice A n c).ownBlock := fun he => by
  have := h.row_ge g he.symm; omega
theorem Sl.one (w : World) (e : TypeId) (x : α) : Sl enc d (w.alloc (.cells #[enc x] e)) w.heap.size (w.heap.size + 1) (some ⟨w.heap.size, 0, none⟩) 1 [x] :=
  ⟨rfl, fun _ => ⟨w.heap.size, 0, rfl, Nat.le_refl _, by omega, fun k hk => by
    obtain rfl : k = 0 := by omega
    simp⟩⟩
end

theorem Sl.one' {α : Type} {enc : α → Value} {d : α} {w : World} {e : TypeId} {x : α} {g : Nat} (hg : g = w.heap.size) : Sl enc d (w.alloc (.cells #[enc x] e)) g (g + 1) (some ⟨g, 0, none⟩) 1 [x] := by
  subst hg; exact Sl.one w e x

/-! ### whole arrays -/
theorem wpList_alloc_as {P : Program} {ops : Array Oper} {rest : List Oper} {o : Oper} {a : Act} {w : World} {Q : Exit → Act → World → Prop} (hgd : o.guard = none) (t : TypeId) (ho : o.op = .alloc t)
    (F : Array Value) (hz : ∀ w, (zeroValue t).run P w = .ok (.agg F) w)
    (h : wpList P ops Q rest (a.put o.dst (.pointer (some ⟨w.heap.size, 0, none⟩))) (w.alloc (.cells F t))) : wpList P ops Q (o :: rest) a w :=
  wpList_plain hgd fun _ hK => by
    unfold Oper.wp execOp
    simp only [ho]
    have hz' := hz w
    have : (Instr.alloc t true (.tuple #[])).run P w = .ok (.pointer (some ⟨w.heap.size, 0, none⟩)) (w.alloc (.cells F t)) := by
      simp [Instr.alloc, Sem.run_bind, hz', newVar, newRow, Value.cells, go_sem]
    simp only [Sem.run_bind, this, Result.andThen_ok]
    exact hK _ _ h
theorem wpList_load_blk {P : Program} {ops : Array Oper} {rest : List Oper} {o : Oper} {a : Act} {w : World} {Q : Exit → Act → World → Prop} (hgd : o.guard = none) (ty : TypeId) (x : Operand) (ho : o.op = .load ty x)
    (g : Nat) (hx : a.eval x = .pointer (some ⟨g, 0, none⟩)) (t : TypeId) (cs : Array Value) (k : Nat) (d : TypeDesc) (hg : Blk w g t cs) (hk : cs.size = k)
    (hu : P.underlying ty = some d) (hd : (match d with | .struct _ | .array _ _ => true | _ => false) = true) (hi : (P.info? ty).map (·.size) = some k)
    (h : wpList P ops Q rest (a.put o.dst (.agg cs)) w) : wpList P ops Q (o :: rest) a w :=
  wpList_load_row hgd ty x ho g hx t cs (0, 0) d hg hu hd (by rw [hi, hk]) h
theorem wpList_store_blk {P : Program} {ops : Array Oper} {rest : List Oper} {o : Oper} {a : Act} {w : World} {Q : Exit → Act → World → Prop} (hgd : o.guard = none) (ty : TypeId) (x y : Operand) (ho : o.op = .store ty x y)
    (g : Nat) (cells : Array Value) (hx : a.eval x = .pointer (some ⟨g, 0, none⟩)) (hy : a.eval y = .agg cells)
    (t : TypeId) (old : Array Value) (k : Nat) (hg : Blk w g t old) (hk : old.size = k) (hk' : cells.size = k) (hi : (P.info? ty).map (·.size) = some k) (h1 : cells.all (·.oneCell') = true)
    (h : wpList P ops Q rest (a.put o.dst undef) (w.setRow g cells)) : wpList P ops Q (o :: rest) a w :=
  wpList_store_row hgd ty x y ho g cells hx hy t old hg (by rw [hi, hk']) (by rw [hk, hk']) h1 h
theorem results_blk_tmp {P : Program} {fn : Func} {p u : Tmp} {ty : TypeId} (h : fn.results = #[.cell p ty, .tmp u]) (tmps : Array Value) (w : World) (g : Nat) (t : TypeId) (cs : Array Value) (k : Nat) (d : TypeDesc)
    (hp : tmps.getD p undef = .pointer (some ⟨g, 0, none⟩)) (hg : Blk w g t cs) (hk : cs.size = k) (hu : P.underlying ty = some d) (hd : (match d with | .struct _ | .array _ _ => true | _ => false) = true) (hi : (P.info? ty).map (·.size) = some k) :
    (results fn tmps).run P w = .ok (.tuple #[.agg cs, tmps.getD u undef]) w := by
  have h1 := run_loadVar_row (P := P) w g t ty cs (0, 0) d hg hu hd (by rw [hi, hk])
  rw [results_cell_tmp h, hp]
  simp [asAddr, h1, Result.andThen]

/-! ### a slice against nil -/
theorem run_eqnil {P : Program} {t e : TypeId} (ht : P.underlying t = some (.slice e)) (w : World) (a : Option Addr) (n c : Nat) :
    (binOp .eql t (.slice a n c) (.slice none 0 0)).run P w = .ok (.bool a.isNone) w := by
  have h : ∀ d : Nat, (Op.equalIn (d + 1) t (.slice a n c) (.slice none 0 0)).run P w = .ok a.isNone w := fun d => by
    cases a <;> simp [Op.equalIn, run_underlying ht]
  simp only [binOp]
  simp [Op.equal, Op.maxDepth, h 9999]

/-! ### append onto an owned row -/
/-- what an append leaves -/
def AppPost {α : Type} (enc : α → Value) (w : World) (base : Nat) (e : TypeId) (v : Value) (n : Nat) (xs : List α) (v' : Value) (w' : World) : Prop :=
  ∃ A c, v' = .slice A n c ∧ Ow enc w' base e A n c xs ∧ w.grownBy w' v.ownBlock ∧ (v'.ownBlock = v.ownBlock ∨ v'.ownBlock = some w.heap.size)
theorem wpList_app {P : Program} {α : Type} (enc : α → Value) (d : α) (w : World) {ops : Array Oper} {rest : List Oper} {o : Oper} {a : Act} {Q : Exit → Act → World → Prop} (hgd : o.guard = none) (s x : Operand) (t : TypeId)
    (ho : o.op = .call { callee := .builtin .append, args := #[s, x], argTypes := #[t, t] })
    (base : Nat) (e : TypeId) (i : TypeInfo) (z : Value) (bytes : Nat) (ht : P.underlying t = some (.slice e)) (hi : P.info? e = some i) (hz : i.zero = some z)
    (hsize : i.size = 1) (hby : i.bytes = bytes) (hzs : z.cells.size = 1)
    (A0 : Option Addr) (n c0 : Nat) (xs : List α) (hs : a.eval s = .slice A0 n c0) (hown : Ow enc w base e A0 n c0 xs)
    (lo hi' : Nat) (A : Option Addr) (m c : Nat) (ys : List α) (hx : a.eval x = .slice A m c) (hr : Sl enc d w lo hi' A m ys) (h1 : ∀ y, (enc y).oneCell' = true)
    (h63 : n + m ≤ maxLen) (hbytes : (n + m) * bytes ≤ 140737488355328) (hbase : base ≤ w.heap.size)
    (h : ∀ A' c' w', Ow enc w' base e A' (n + m) c' (xs ++ ys) → w.grownBy w' (Value.slice A0 n c0).ownBlock → ((Value.slice A' (n + m) c').ownBlock = (Value.slice A0 n c0).ownBlock ∨ (Value.slice A' (n + m) c').ownBlock = some w.heap.size) →
      wpList P ops Q rest (a.put o.dst (.slice A' (n + m) c')) w') :
    wpList P ops Q (o :: rest) a w := by
  have hform : ∀ (v' : Value) (w' : World), w'.ownsRow base e 1 v' (n + m) ((xs ++ ys).map enc) → ∃ (A' : Option Addr) (c' : Nat), v' = Value.slice A' (n + m) c' := by
    intro v' w' ho
    rcases ho.2 with ⟨rfl, h0⟩ | ⟨g, cap, cur, rfl, _⟩
    · rw [h0]; exact ⟨_, _, rfl⟩
    · exact ⟨_, _, rfl⟩
  refine wpList_plain hgd fun K hK => ?_
  rcases A with _ | ad
  · obtain ⟨rfl, rfl⟩ := hr.none_
    have hrun : (Builtin.append_ #[t, t] o.type #[.slice A0 n c0, .slice none 0 c]).run P w = .ok (.slice A0 n c0) w := by
      rcases hown.own.2 with ⟨hv, h0⟩ | ⟨g, cap, cur, hv, _, _, hnc, _⟩
      · simp only [Value.slice.injEq] at hv
        obtain ⟨rfl, rfl, rfl⟩ := hv
        simp [Builtin.append_, run_underlying ht, sizeOf, typeInfo, hi, Builtin.lenOf, Builtin.firstCells]
      · simp only [Value.slice.injEq] at hv
        obtain ⟨rfl, _, rfl⟩ := hv
        simp [Builtin.append_, run_underlying ht, sizeOf, typeInfo, hi, Builtin.lenOf, Builtin.firstCells, hnc, storeCells]
    unfold Oper.wp execOp
    simp only [ho, resolve, invoke, builtin, Sem.run_bind, Sem.run_pure, Result.andThen_ok, List.map_toArray, List.map_cons, List.map_nil, hs, hx, hrun]
    exact hK _ _ (h A0 c0 w (by simpa using hown) (World.grownBy.refl w _) (.inl rfl))
  · have hnews : ∀ j u, (ys.map enc)[j]? = some u → w.cell? (ad.add j) = some u := by
      intro j u hu
      have hj : j < m := by have := (List.getElem?_eq_some_iff.1 hu).1; rw [List.length_map, hr.len] at this; exact this
      obtain ⟨b, off, he, _, _, hc⟩ := hr.row (by omega)
      obtain rfl := Option.some.inj he
      rw [Addr.add_lit, hc j hj, ← hu, List.getElem?_map, List.getElem?_eq_getElem (by rw [hr.len]; exact hj)]
      rfl
    obtain ⟨v', w', hrun, h2, h3, _, h5⟩ := run_append_own_at (P := P) w base t o.type e i z 1 bytes ht hi hz hsize hby hzs (by omega) (.slice A0 n c0) n (xs.map enc) hown.own ad m c (ys.map enc) (by rw [List.length_map, hr.len, Nat.mul_one]) hnews
      (fun u hu => by obtain ⟨y, _, rfl⟩ := List.mem_map.1 hu; exact h1 y) h63 hbytes hbase
    rw [← List.map_append] at h2
    obtain ⟨A', c', rfl⟩ := hform v' w' h2
    unfold Oper.wp execOp
    simp only [ho, resolve, invoke, builtin, Sem.run_bind, Sem.run_pure, Result.andThen_ok, List.map_toArray, List.map_cons, List.map_nil, hs, hx, hrun]
    exact hK _ _ (h A' c' w' ⟨by rw [List.length_append, hown.len, hr.len], h2⟩ h3 h5)
end Go.Proofs.Ytlidbiaadoigeaa

/- General words, second part: facts carried over a step that turns nothing old. No condition. -/
namespace Go.Proofs.Ytlidbiaadoigeaa
open Go.RowKit
theorem below_box (w : World) (o : Obj) : Below w.heap.size w (w.alloc o) := (Below.refl _ w).alloc (Nat.le_refl _) o
theorem Blk.step {w w' : World} {g : Nat} {t : TypeId} {cs : Array Value} (h : Blk w g t cs) (hb : Below w.heap.size w w') : Blk w' g t cs := h.below hb h.lt
theorem Sl.step {α : Type} {enc : α → Value} {d : α} {w w' : World} {lo : Nat} {A : Option Addr} {n : Nat} {xs : List α} (h : Sl enc d w lo w.heap.size A n xs) (hb : Below w.heap.size w w') : Sl enc d w' lo w'.heap.size A n xs :=
  (h.below hb (Nat.le_refl _)).mono (Nat.le_refl _) hb.size
theorem below_then {w a b : World} (h : Below w.heap.size w a) (h' : Below a.heap.size a b) : Below w.heap.size w b := h.trans (h'.mono h.size)
theorem Ow.step {α : Type} {enc : α → Value} {w w' : World} {lo : Nat} {e : TypeId} {A : Option Addr} {n c : Nat} {xs : List α} (h : Ow enc w lo e A n c xs) (hb : Below w.heap.size w w') : Ow enc w' lo e A n c xs := h.below hb
/-- a literal row, as it was laid -/
theorem Sl.lit {α : Type} {enc : α → Value} {d : α} {w : World} {e : TypeId} {g : Nat} (xs : List α) (cs : Array Value) (hg : g = w.heap.size) (hc : cs = (xs.map enc).toArray) :
    Sl enc d (w.alloc (.cells cs e)) 0 (w.alloc (.cells cs e)).heap.size (some ⟨g, 0, none⟩) xs.length xs := by
  subst hg hc
  refine ⟨rfl, fun _ => ⟨w.heap.size, 0, rfl, Nat.zero_le _, by simp, fun k hk => ?_⟩⟩
  rw [Nat.zero_add, (Blk.new w e _).cell]
  simp [hk]
end Go.Proofs.Ytlidbiaadoigeaa

/- General words, third part: stores into an owned row. No condition. -/
namespace Go.Proofs.Ytlidbiaadoigeaa
open Go.RowKit
section
variable {α : Type} {enc : α → Value} {d : α} {w : World} {lo : Nat} {e : TypeId} {A : Option Addr} {n c : Nat} {xs : List α}
theorem Ow.at_ (h : Ow enc w lo e A n c xs) (d : α) {k : Nat} (hk : k < n) : ∃ g, A = some ⟨g, 0, none⟩ ∧ lo ≤ g ∧ g < w.heap.size ∧ w.cell? ⟨g, k, none⟩ = some (enc (xs[k]?.getD d)) ∧ w.frozen? ⟨g, k, none⟩ = false := by
  obtain ⟨g, cap, hv, hlo, hhi⟩ := h.own.form (by omega)
  simp only [Value.slice.injEq] at hv
  obtain ⟨rfl, _, rfl⟩ := hv
  refine ⟨g, rfl, hlo, hhi, ?_, h.own.frozenAt k⟩
  rw [h.own.cellAt k (by omega), List.getElem?_map, List.getElem?_eq_getElem (by rw [h.len]; exact hk)]
  rfl
theorem Ow.stored {g : Nat} (h : Ow enc w lo e (some ⟨g, 0, none⟩) n c xs) (k : Nat) (v : α) : Ow enc (w.setCell ⟨g, k, none⟩ (enc v)) lo e (some ⟨g, 0, none⟩) n c (xs.set k v) := by
  refine ⟨by rw [List.length_set, h.len], ?_⟩
  rw [List.map_set]
  exact (h.own.stored k (enc v)).1
end
end Go.Proofs.Ytlidbiaadoigeaa

/- General words, fourth part: what abides the turn of a block that is no cells (loops over functions, maps). No condition. -/
namespace Go.Proofs.Ytlidbiaadoigeaa
open Go.RowKit Go.Shelf
theorem Blk.abides {W W' : World} {g : Nat} {t : TypeId} {cs : Array Value} {row : Option Nat} (h : Blk W g t cs) (hg : W.grownBy W' row) (hr : ∀ r, row = some r → ∃ o : Obj, W.heap[r]? = some o ∧ o.isCells = false) : Blk W' g t cs :=
  h.grown hg (fun e => by
    obtain ⟨o, ho, hc⟩ := hr g e.symm
    unfold Blk at h
    rw [h] at ho
    cases ho
    cases hc)
theorem Ow.abides {α : Type} {enc : α → Value} {W W' : World} {lo : Nat} {e : TypeId} {A : Option Addr} {n c : Nat} {xs : List α} {row : Option Nat} (h : Ow enc W lo e A n c xs) (hg : W.grownBy W' row) (hr : ∀ r, row = some r → ∃ o : Obj, W.heap[r]? = some o ∧ o.isCells = false) : Ow enc W' lo e A n c xs := by
  refine ⟨h.len, h.own.1, ?_⟩
  rcases h.own.2 with hh | ⟨g, cap, cur, hv, hb1, hgg, r⟩
  · exact .inl hh
  · refine .inr ⟨g, cap, cur, hv, hb1, ?_, r⟩
    exact Blk.abides (t := e) (cs := cur) hgg hg hr
end Go.Proofs.Ytlidbiaadoigeaa

/- General words, fifth part: rows of structures, whose elements lie in so many cells each. No condition. -/
namespace Go.Proofs.Ytlidbiaadoigeaa
open Go.RowKit
/-- a row of elements of sz cells each reads as xs; enc x j: the j-th cell of x -/
structure Sm {α : Type} (sz : Nat) (enc : α → Nat → Value) (d : α) (w : World) (lo hi : Nat) (A : Option Addr) (n : Nat) (xs : List α) : Prop where
  len : xs.length = n
  row : 0 < n → ∃ b off, A = some ⟨b, off, none⟩ ∧ lo ≤ b ∧ b < hi ∧ ∀ k, k < n → ∀ j, j < sz → w.cell? ⟨b, off + k * sz + j, none⟩ = some (enc (xs[k]?.getD d) j)
section
variable {α : Type} {sz : Nat} {enc : α → Nat → Value} {d : α} {w w' : World} {lo hi lo' hi' B : Nat} {A : Option Addr} {n : Nat} {xs : List α}
theorem Sm.nil (w : World) (lo hi : Nat) (A : Option Addr) : Sm sz enc d w lo hi A 0 [] := ⟨rfl, fun h => absurd h (by omega)⟩
theorem Sm.keep (h : Sm sz enc d w lo hi A n xs) (hk : ∀ b o, lo ≤ b → b < hi → w'.cell? ⟨b, o, none⟩ = w.cell? ⟨b, o, none⟩) : Sm sz enc d w' lo hi A n xs :=
  ⟨h.len, fun hn => by
    obtain ⟨b, off, e, h1, h2, h3⟩ := h.row hn
    exact ⟨b, off, e, h1, h2, fun k hkn j hj => (hk b _ h1 h2).trans (h3 k hkn j hj)⟩⟩
theorem Sm.below (h : Sm sz enc d w lo hi A n xs) (hb : Below B w w') (hB : hi ≤ B) : Sm sz enc d w' lo hi A n xs := h.keep fun b o _ h2 => hb.cell (p := ⟨b, o, none⟩) (Nat.lt_of_lt_of_le h2 hB)
theorem Sm.mono (h : Sm sz enc d w lo hi A n xs) (h1 : lo' ≤ lo) (h2 : hi ≤ hi') : Sm sz enc d w lo' hi' A n xs :=
  ⟨h.len, fun hn => by
    obtain ⟨b, off, e, g1, g2, g3⟩ := h.row hn
    exact ⟨b, off, e, by omega, by omega, g3⟩⟩
theorem Sm.step (h : Sm sz enc d w lo w.heap.size A n xs) (hb : Below w.heap.size w w') : Sm sz enc d w' lo w'.heap.size A n xs := (h.below hb (Nat.le_refl _)).mono (Nat.le_refl _) hb.size
theorem Sm.take (h : Sm sz enc d w lo hi A n xs) {k : Nat} (hk : k ≤ n) : Sm sz enc d w lo hi A k (xs.take k) :=
  ⟨by rw [List.length_take, h.len]; omega, fun hn => by
    obtain ⟨b, off, e, h1, h2, h3⟩ := h.row (by omega)
    refine ⟨b, off, e, h1, h2, fun j hj i hi => ?_⟩
    rw [h3 j (by omega) i hi, List.getElem?_take, if_pos hj]⟩
/-- one element, as it was laid -/
theorem Sm.one {e : TypeId} {cs : Array Value} {g : Nat} (x : α) (hg : g = w.heap.size) (hc : ∀ j, j < sz → cs[j]? = some (enc x j)) : Sm sz enc d (w.alloc (.cells cs e)) 0 (w.alloc (.cells cs e)).heap.size (some ⟨g, 0, none⟩) 1 [x] := by
  subst hg
  refine ⟨rfl, fun _ => ⟨w.heap.size, 0, rfl, Nat.zero_le _, by simp, fun k hk j hj => ?_⟩⟩
  obtain rfl : k = 0 := by omega
  have h0 : 0 + 0 * sz + j = j := by omega
  rw [h0, (Blk.new w e cs).cell, hc j hj]
  rfl
end
end Go.Proofs.Ytlidbiaadoigeaa

/- General words, sixth part: rows that are made. No condition but sizes. -/
namespace Go.Proofs.Ytlidbiaadoigeaa
open Go.RowKit
/-- so many cells that hold one value -/
def zrow (v : Value) (n : Nat) : Array Value := (List.replicate n v).toArray
theorem zrow_size (v : Value) (n : Nat) : (zrow v n).size = n := by simp [zrow]
theorem Ow.made {α : Type} {enc : α → Value} {w : World} {lo g : Nat} {e : TypeId} {n : Nat} (x : α) (hlo : lo ≤ w.heap.size) (hn : n ≤ maxLen) (hg : g = w.heap.size) : Ow enc (w.alloc (.cells (zrow (enc x) n) e)) lo e (some ⟨g, 0, none⟩) n n (List.replicate n x) := by
  subst hg
  refine ⟨by simp, ?_⟩
  have := World.ownsRow_lit (e := e) (size := 1) (base := lo) w (zrow (enc x) n) n hlo hn (by rw [zrow_size, Nat.mul_one])
  simpa [zrow] using this
end Go.Proofs.Ytlidbiaadoigeaa

/- General words, seventh part: an append onto an owned row as one step of a region that draws its order. No condition. -/
namespace Go.Proofs.Ytlidbiaadoigeaa
open Go.RowKit
end Go.Proofs.Ytlidbiaadoigeaa

/- General words: rows of structures that are owned; appends onto them. No condition. -/
namespace Go.Proofs.Ytlidbiaadoigeaa
open Go.RowKit
def cellsOf {α : Type} (sz : Nat) (enc : α → Nat → Value) (x : α) : List Value := (List.range sz).map (enc x)
def flat {α : Type} (sz : Nat) (enc : α → Nat → Value) (xs : List α) : List Value := xs.flatMap (cellsOf sz enc)
theorem cellsOf_length {α : Type} (sz : Nat) (enc : α → Nat → Value) (x : α) : (cellsOf sz enc x).length = sz := by simp [cellsOf]
theorem flat_cons {α : Type} (sz : Nat) (enc : α → Nat → Value) (x : α) (xs : List α) : flat sz enc (x :: xs) = cellsOf sz enc x ++ flat sz enc xs := rfl
theorem flat_get {α : Type} {sz : Nat} {enc : α → Nat → Value} (d : α) : ∀ (xs : List α) (k j : Nat), k < xs.length → j < sz → (flat sz enc xs)[k * sz + j]? = some (enc (xs[k]?.getD d) j)
  | [], _, _, hk, _ => by simp at hk
  | x :: xs, 0, j, _, hj => by
    rw [flat_cons, List.getElem?_append_left (by rw [cellsOf_length]; omega)]
    simp [cellsOf, hj]
  | x :: xs, k + 1, j, hk, hj => by
    have e : (k + 1) * sz + j = sz + (k * sz + j) := by rw [Nat.succ_mul]; omega
    rw [flat_cons, e, List.getElem?_append_right (by rw [cellsOf_length]; omega), cellsOf_length, Nat.add_sub_cancel_left, flat_get d xs k j (by simpa using hk) hj]
    rfl
/-- a row of structures that is owned -/
structure Om {α : Type} (sz : Nat) (enc : α → Nat → Value) (w : World) (lo : Nat) (e : TypeId) (A : Option Addr) (n c : Nat) (xs : List α) : Prop where
  len : xs.length = n
  own : w.ownsRow lo e sz (.slice A n c) n (flat sz enc xs)
section
variable {α : Type} {sz : Nat} {enc : α → Nat → Value} {d : α} {w w' : World} {lo lo' B : Nat} {e : TypeId} {A : Option Addr} {n c : Nat} {xs : List α}
theorem Om.cap (h : Om sz enc w lo e A n c xs) : n ≤ c ∧ c ≤ maxLen := by
  rcases h.own.2 with ⟨hv, h0⟩ | ⟨g, cap, cur, hv, _, _, h1, h2, _⟩
  · simp only [Value.slice.injEq] at hv; obtain ⟨_, rfl, rfl⟩ := hv; exact ⟨Nat.le_refl _, by simp [maxLen]⟩
  · simp only [Value.slice.injEq] at hv; obtain ⟨_, _, rfl⟩ := hv; exact ⟨h1, h2⟩
theorem Om.nil (w : World) (lo : Nat) (e : TypeId) : Om sz enc w lo e none 0 0 [] := ⟨rfl, World.ownsRow_nil w lo e sz⟩
theorem Om.below (h : Om sz enc w lo e A n c xs) (hb : Below w.heap.size w w') : Om sz enc w' lo e A n c xs := by
  refine ⟨h.len, h.own.1, ?_⟩
  rcases h.own.2 with hh | ⟨g, cap, cur, hv, hb1, hg, r⟩
  · exact .inl hh
  · exact .inr ⟨g, cap, cur, hv, hb1, (hb.block g (Array.getElem?_eq_some_iff.1 hg).1).trans hg, r⟩
theorem Om.step (h : Om sz enc w lo e A n c xs) (hb : Below w.heap.size w w') : Om sz enc w' lo e A n c xs := h.below hb
theorem Om.mono (h : Om sz enc w lo e A n c xs) (h1 : lo' ≤ lo) : Om sz enc w lo' e A n c xs := by
  refine ⟨h.len, h.own.1, ?_⟩
  rcases h.own.2 with hh | ⟨g, cap, cur, hv, hb1, r⟩
  · exact .inl hh
  · exact .inr ⟨g, cap, cur, hv, by omega, r⟩
theorem Om.alloc (h : Om sz enc w lo e A n c xs) (o : Obj) : Om sz enc (w.alloc o) lo e A n c xs := ⟨h.len, h.own.alloc o⟩
theorem Om.drewN (h : Om sz enc w lo e A n c xs) (k : Nat) : Om sz enc (w.drewN k) lo e A n c xs := ⟨h.len, h.own⟩
theorem Om.drew (h : Om sz enc w lo e A n c xs) : Om sz enc w.drew lo e A n c xs := ⟨h.len, h.own⟩
theorem Om.setCell (h : Om sz enc w lo e A n c xs) {p : Addr} (hp : p.block < lo) (u : Value) : Om sz enc (w.setCell p u) lo e A n c xs := ⟨h.len, ownsRow_setCell_below h.own hp u⟩
theorem Om.row_ge (h : Om sz enc w lo e A n c xs) : ∀ k, (Value.slice A n c).ownBlock = some k → lo ≤ k := fun k hk => (h.own.lt k hk).1
theorem Om.ne_row (h : Om sz enc w lo e A n c xs) {g : Nat} (hg : g < lo) : some g ≠ (Value.slice A n c).ownBlock := fun he => by
  have := h.row_ge g he.symm; omega
end
end Go.Proofs.Ytlidbiaadoigeaa

/- General words: owned rows, and blocks of another type. No condition. -/
namespace Go.Proofs.Ytlidbiaadoigeaa
open Go.RowKit
section
variable {α : Type} {enc : α → Value} {w w' : World} {lo : Nat} {e : TypeId} {A : Option Addr} {n c : Nat} {xs : List α}
theorem Ow.blk (h : Ow enc w lo e A n c xs) : ∀ a, A = some a → lo ≤ a.block ∧ ∃ cs, Blk w a.block e cs := by
  intro a ha
  rcases h.own.2 with ⟨hv, h0⟩ | ⟨g, cap, cur, hv, hb1, hg, r⟩
  · simp only [Value.slice.injEq] at hv; obtain ⟨rfl, _⟩ := hv; cases ha
  · simp only [Value.slice.injEq] at hv; obtain ⟨rfl, _⟩ := hv; cases ha; exact ⟨hb1, cur, hg⟩
theorem Ow.ne_blk (h : Ow enc w lo e A n c xs) {g : Nat} {t : TypeId} {cs : Array Value} (hb : Blk w g t cs) (hne : t ≠ e) : ∀ a, A = some a → a.block ≠ g := by
  rintro a ha rfl
  obtain ⟨_, cs', h'⟩ := h.blk a ha
  unfold Blk at hb h'
  rw [hb] at h'
  simp only [Option.some.injEq, Obj.cells.injEq] at h'
  exact hne h'.2.1
/-- the row's block alone matters -/
theorem Ow.same (h : Ow enc w lo e A n c xs) (hs : ∀ a, A = some a → w'.heap[a.block]? = w.heap[a.block]?) : Ow enc w' lo e A n c xs := by
  refine ⟨h.len, h.own.1, ?_⟩
  rcases h.own.2 with hh | ⟨g, cap, cur, hv, hb1, hg, r⟩
  · exact .inl hh
  · refine .inr ⟨g, cap, cur, hv, hb1, ?_, r⟩
    simp only [Value.slice.injEq] at hv
    exact (hs ⟨g, 0, none⟩ hv.1).trans hg
theorem Ow.keptG {row : Option Nat} (h : Ow enc w lo e A n c xs) (hg : w.grownBy w' row) (hr : ∀ a, A = some a → some a.block ≠ row) : Ow enc w' lo e A n c xs :=
  h.same fun a ha => by
    obtain ⟨_, cs, hb⟩ := h.blk a ha
    exact hg.block _ hb.lt (hr a ha)
end
section
variable {α : Type} {sz : Nat} {enc : α → Nat → Value} {w w' : World} {lo : Nat} {e : TypeId} {A : Option Addr} {n c : Nat} {xs : List α}
theorem Om.blk (h : Om sz enc w lo e A n c xs) : ∀ a, A = some a → lo ≤ a.block ∧ ∃ cs, Blk w a.block e cs := by
  intro a ha
  rcases h.own.2 with ⟨hv, h0⟩ | ⟨g, cap, cur, hv, hb1, hg, r⟩
  · simp only [Value.slice.injEq] at hv; obtain ⟨rfl, _⟩ := hv; cases ha
  · simp only [Value.slice.injEq] at hv; obtain ⟨rfl, _⟩ := hv; cases ha; exact ⟨hb1, cur, hg⟩
theorem Om.ne_blk (h : Om sz enc w lo e A n c xs) {g : Nat} {t : TypeId} {cs : Array Value} (hb : Blk w g t cs) (hne : t ≠ e) : ∀ a, A = some a → a.block ≠ g := by
  rintro a ha rfl
  obtain ⟨_, cs', h'⟩ := h.blk a ha
  unfold Blk at hb h'
  rw [hb] at h'
  simp only [Option.some.injEq, Obj.cells.injEq] at h'
  exact hne h'.2.1
theorem Om.same (h : Om sz enc w lo e A n c xs) (hs : ∀ a, A = some a → w'.heap[a.block]? = w.heap[a.block]?) : Om sz enc w' lo e A n c xs := by
  refine ⟨h.len, h.own.1, ?_⟩
  rcases h.own.2 with hh | ⟨g, cap, cur, hv, hb1, hg, r⟩
  · exact .inl hh
  · refine .inr ⟨g, cap, cur, hv, hb1, ?_, r⟩
    simp only [Value.slice.injEq] at hv
    exact (hs ⟨g, 0, none⟩ hv.1).trans hg
theorem Om.keptG {row : Option Nat} (h : Om sz enc w lo e A n c xs) (hg : w.grownBy w' row) (hr : ∀ a, A = some a → some a.block ≠ row) : Om sz enc w' lo e A n c xs :=
  h.same fun a ha => by
    obtain ⟨_, cs, hb⟩ := h.blk a ha
    exact hg.block _ hb.lt (hr a ha)
theorem Om.at_ (h : Om sz enc w lo e A n c xs) (d : α) {k : Nat} (hk : k < n) : ∃ g, A = some ⟨g, 0, none⟩ ∧ lo ≤ g ∧ g < w.heap.size ∧ (∀ j, j < sz → w.cell? ⟨g, k * sz + j, none⟩ = some (enc (xs[k]?.getD d) j)) ∧ ∀ i, w.frozen? ⟨g, i, none⟩ = false := by
  obtain ⟨g, cap, hv, hlo, hhi⟩ := h.own.form (by omega)
  simp only [Value.slice.injEq] at hv
  obtain ⟨rfl, _, rfl⟩ := hv
  refine ⟨g, rfl, hlo, hhi, fun j hj => ?_, fun i => h.own.frozenAt i⟩
  have hkj : k * sz + j < n * sz := by
    have : (k + 1) * sz ≤ n * sz := Nat.mul_le_mul_right _ hk
    rw [Nat.succ_mul] at this; omega
  rw [h.own.cellAt _ hkj, flat_get d xs k j (by rw [h.len]; exact hk) hj]
end
/-- a block that is laid gives the world a name -/
theorem named_alloc {K : World → Prop} {W : World} {t : TypeId} {cs : Array Value} (h : ∀ Wn : World, Blk Wn W.heap.size t cs → Below W.heap.size W Wn → Wn.heap.size = W.heap.size + 1 → K Wn) : K (W.alloc (.cells cs t)) :=
  h _ (Blk.new W t cs) (below_box W _) (by simp)
theorem grown_set {W Wn : World} {g : Nat} (h : W.grownBy Wn (some g)) (k : Nat) (u : Value) : W.grownBy (Wn.setCell ⟨g, k, none⟩ u) (some g) :=
  ⟨h.os, h.tape, h.output, by simpa using h.size, fun i hi hne => (Below.heap_setCell Wn ⟨g, k, none⟩ u i (fun e => hne (by rw [e]))).trans (h.block i hi hne)⟩
end Go.Proofs.Ytlidbiaadoigeaa

/- General words: rows of structures that are cloned. No condition. -/
namespace Go.Proofs.Ytlidbiaadoigeaa
open Go.RowKit
section
variable {α : Type} {sz : Nat} {enc : α → Nat → Value} {d : α} {w w' : World} {lo hi : Nat} {e : TypeId} {A : Option Addr} {n c : Nat} {xs : List α}
theorem Sm.none_ (h : Sm sz enc d w lo hi none n xs) : n = 0 ∧ xs = [] := by
  have hn : n = 0 := by
    rcases Nat.eq_zero_or_pos n with h0 | h0
    · exact h0
    · obtain ⟨b, off, e, _⟩ := h.row h0
      cases e
  exact ⟨hn, List.eq_nil_of_length_eq_zero (h.len.trans hn)⟩
theorem Sm.alloc (h : Sm sz enc d w lo hi A n xs) (hB : hi ≤ w.heap.size) (o : Obj) : Sm sz enc d (w.alloc o) lo hi A n xs :=
  h.keep fun b i _ h2 => World.cell?_alloc_lt w o ⟨b, i, none⟩ (Nat.lt_of_lt_of_le h2 hB)
theorem Om.empty (w : World) (lo : Nat) (e : TypeId) (hlo : lo ≤ w.heap.size) : Om sz enc (w.alloc (.cells #[] e)) lo e (some ⟨w.heap.size, 0, none⟩) 0 0 [] :=
  ⟨rfl, World.ownsRow_made w #[] 0 hlo (by simp [maxLen]) (by simp)⟩
end
end Go.Proofs.Ytlidbiaadoigeaa

/- General words: a copy of cells onto cells that hold the same; rows of structures that are made. No condition. -/
namespace Go.Proofs.Ytlidbiaadoigeaa
open Go.RowKit
/-! ### what an append onto an owned row leaves as it was -/
section
variable {α β : Type} {sz : Nat} {encM : α → Nat → Value} {enc : α → Value} {encB : β → Value} {w w' : World} {lo lo2 : Nat} {e e2 : TypeId} {A A2 : Option Addr} {n c n2 c2 : Nat} {xs : List α} {ys : List β}
end
end Go.Proofs.Ytlidbiaadoigeaa

/- General words: a region that draws its order, whose last operations come one behind the other (stores); ahead of them loads may be taken first. No condition. -/
namespace Go.Proofs.Ytlidbiaadoigeaa
open Go.RowKit
section
variable {P : Program} {ops : Array Oper} {Q : Exit → Act → World → Prop} {md : Region.Mode} {S : World → Prop} {n : Nat} {T : Array Bool → Act → World → Prop}
/-- the first operations, in whatever order; behind each S; behind all of them T -/
def wpAnyT (P : Program) (md : Region.Mode) (ops : Array Oper) (Q : Exit → Act → World → Prop) (S : World → Prop) (n : Nat) (T : Array Bool → Act → World → Prop) : Nat → Array Bool → Act → World → Prop
  | 0, listed, a, w => T listed a w
  | f + 1, listed, a, w => Region.ready md ops listed ≠ [] ∧ ∀ i ∈ Region.ready md ops listed, i < n ∧ wpOp P ops Q i (fun a' w' => S w' ∧ wpAnyT P md ops Q S n T f (listed.setIfInBounds i true) a' w') a w
def headInvB (md : Region.Mode) (ops : Array Oper) (n : Nat) (listed : Array Bool) : Bool :=
  decide (listed.size = ops.size) && ((List.range ops.size).all fun j => !listed.getD j false || ((ops[j]?).map (·.after.all fun e => !Region.binds md e || listed.getD e.on false)).getD true) && ((List.range ops.size).all fun t => decide (t < n) || !listed.getD t true)
/-- what the walk ends at: the last operations, one behind the other -/
def TailOf (P : Program) (Q : Exit → Act → World → Prop) (l : List Oper) (n : Nat) (listed : Array Bool) (a : Act) (w : World) : Prop :=
  Region.seqB .any l.toArray (l.length - n) n listed = true ∧ wpList P l.toArray Q (l.drop n) a w
def tailB (l : List Oper) (n : Nat) : Bool := Region.noSelect l.toArray && decide (n < l.length) && Region.sinkB .any l.toArray n && Region.chainB .any l.toArray n
/-- each of these comes up next -/
def AllReadyT (P : Program) (ops : Array Oper) (Q : Exit → Act → World → Prop) (S : World → Prop) (n : Nat) (T : Array Bool → Act → World → Prop) (f : Nat) (listed : Array Bool) (a : Act) (w : World) (rs : List Nat) : Prop :=
  ∀ i ∈ rs, i < n ∧ wpOp P ops Q i (fun a' w' => S w' ∧ wpAnyT P .any ops Q S n T f (listed.setIfInBounds i true) a' w') a w
theorem AllReadyT.nil {f : Nat} {listed : Array Bool} {a : Act} {w : World} : AllReadyT P ops Q S n T f listed a w [] := fun _ h => by cases h
theorem AllReadyT.cons {f : Nat} {listed : Array Bool} {a : Act} {w : World} {i : Nat} {o : Oper} {rs : List Nat} (ho : ops[i]? = some o) (hin : decide (i < n) = true)
    (h : ∀ K' : Act → World → Prop, Shut (∀ a w, S w → wpAnyT P .any ops Q S n T f (listed.setIfInBounds i true) a w → K' a w) → if Region.wanted o (yielded ops a.tmps) = true then Oper.wp P o a w K' Q else K' (a.put o.dst undef) w)
    (hs : AllReadyT P ops Q S n T f listed a w rs) : AllReadyT P ops Q S n T f listed a w (i :: rs) := fun j hj => by
  rcases List.mem_cons.1 hj with rfl | hj
  · exact ⟨of_decide_eq_true hin, wpOp_step ho (fun K' hK => h K' (fun a w hS hW => hK a w ⟨hS, hW⟩))⟩
  · exact hs j hj
end
end Go.Proofs.Ytlidbiaadoigeaa

/- Short words for the steps of a region that draws. No condition. -/
namespace Go.Proofs.Ytlidbiaadoigeaa
open Go.RowKit
/-- what many ways come to, proved once -/
structure KeyH (T : Prop) : Prop where
  out : T
section
variable {P : Program} {ops : Array Oper} {Q : Exit → Act → World → Prop} {S : World → Prop}
end
end Go.Proofs.Ytlidbiaadoigeaa
