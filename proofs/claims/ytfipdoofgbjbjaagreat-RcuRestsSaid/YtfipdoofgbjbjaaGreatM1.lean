/- Walks and plain laws for this claim, part 1. No condition but sizes. -/
import Derived.Test.YtfipdoofgbjbjaaGreatProg
import Derived.WalkKit
import Derived.WalkSpells
import Derived.WalkLawsBesides
import Derived.Maps.AppendAt
import Derived.Deep.AppendLies
import Derived.Deep.Draws
import Derived.BigQuiet
import Derived.Deep.QuietTactic
import Derived.RangeFuncNested
import Derived.RangeFuncBound
import Derived.RangeFuncCalls
import Derived.RangeFuncLeaves
import Derived.RangeFuncWrites
import Derived.RangeFuncBox
import Derived.Shelf.Abstract
import Derived.OwnWalkIn
import Derived.TacticsInMore
import Derived.LoopNIn
import Derived.LoopIn
import Derived.Maps.OwnIn
import Derived.ControlIn
import Derived.Laws.MakeOwn
import Derived.Laws.OwnMore
import Derived.Deep.RegionHeld3
import Derived.Deep.AppendSrc
import Derived.Laws.CopyRow
import Derived.StillTail
import Derived.Deep.RegionHeld
import Derived.Laws.CopyOwn
import Derived.Below
import Derived.Laws.EntriesVeiled
import Derived.MapKept
import Derived.Carry
import Derived.ScopeJumps
import Derived.WalkMore
import Derived.Test.YtfipdoofgbjbjaaGreatRows
import Derived.ProofKit
import Derived.OpenShut
import Derived.ChangeOld
import Derived.Lib.SmallJoins
import Derived.Deep.Slices
/- General words and laws for the walks of this seat, all together. No condition. -/
/- General words: a pointer to a block. No condition. -/
namespace Go.Proofs.YtfipdoofgbjbjaaGreat
abbrev ptr (g : Nat) : Value := .pointer (some ⟨g, 0, none⟩)
end Go.Proofs.YtfipdoofgbjbjaaGreat

/- General words and laws for the walks of this seat: rows that are read, rows that are owned, blocks known whole, whole arrays loaded and stored. No condition. -/
namespace Go.Proofs.YtfipdoofgbjbjaaGreat
open Go.RowKit

theorem hid {p : Prop} (h : p) : Hid p := h
theorem ret_bool {a b : Bool} (h : a = b) : Ending.returned (.bool a) = .returned (.bool b) := by rw [h]
theorem ret_int {k : IntKind} {a b : Int} (h : a = b) : Ending.returned (.int k a) = .returned (.int k b) := by rw [h]

/-! ### blocks known whole -/
def Blk (w : World) (g : Nat) (t : TypeId) (cs : Array Value) : Prop := w.heap[g]? = some (.cells cs t (0, 0))
section
variable {w w' : World} {g : Nat} {t : TypeId} {cs cs' : Array Value}
theorem Blk.lt (h : Blk w g t cs) : g < w.heap.size := by unfold Blk at h; exact (Array.getElem?_eq_some_iff.1 h).1
theorem Blk.new (w : World) (t : TypeId) (cs : Array Value) : Blk (w.alloc (.cells cs t)) w.heap.size t cs := heap_alloc_new w _
theorem Blk.at (hg : g = w.heap.size) : Blk (w.alloc (.cells cs t)) g t cs := hg ▸ Blk.new w t cs
theorem Blk.new2 (w : World) (t : TypeId) (cs : Array Value) (a : Obj) : Blk ((w.alloc a).alloc (.cells cs t)) (w.heap.size + 1) t cs := Blk.at (by simp)
theorem Blk.new3 (w : World) (t : TypeId) (cs : Array Value) (a b : Obj) : Blk (((w.alloc a).alloc b).alloc (.cells cs t)) (w.heap.size + 1 + 1) t cs := Blk.at (by simp)
theorem Blk.new4 (w : World) (t : TypeId) (cs : Array Value) (a b c : Obj) : Blk ((((w.alloc a).alloc b).alloc c).alloc (.cells cs t)) (w.heap.size + 1 + 1 + 1) t cs := Blk.at (by simp)
theorem Blk.alloc (h : Blk w g t cs) (o : Obj) : Blk (w.alloc o) g t cs := (Below.heap_alloc w o g h.lt).trans h
theorem Blk.drew (h : Blk w g t cs) : Blk w.drew g t cs := h
theorem Blk.drewN (h : Blk w g t cs) (n : Nat) : Blk (w.drewN n) g t cs := h
theorem Blk.setRow (h : Blk w g t cs) : Blk (w.setRow g cs') g t cs' := setRow_heap w g cs cs' t _ h
theorem Blk.farRow {k : Nat} (h : Blk w g t cs) (hk : g ≠ k) : Blk (w.setRow k cs') g t cs := (setRow_other w k g cs' hk).trans h
theorem Blk.cell (h : Blk w g t cs) (i : Nat) : w.cell? ⟨g, i, none⟩ = cs[i]? := cell_of_row w g i cs t (0, 0) h
theorem Blk.frozen (h : Blk w g t cs) (i : Nat) : w.frozen? ⟨g, i, none⟩ = false := frozen_of_row w g i cs t h
theorem Blk.setCell (h : Blk w g t cs) (i : Nat) (u : Value) : Blk (w.setCell ⟨g, i, none⟩ u) g t (cs.setIfInBounds i u) := heap_setCell_same w g i cs t u h
theorem Blk.far (h : Blk w g t cs) {p : Addr} (hp : g ≠ p.block) (u : Value) : Blk (w.setCell p u) g t cs := (Below.heap_setCell w p u g hp).trans h
theorem Blk.below {B : Nat} (h : Blk w g t cs) (hb : Below B w w') (hg : g < B) : Blk w' g t cs := (hb.block g hg).trans h
theorem Blk.grown {row : Option Nat} (h : Blk w g t cs) (hb : w.grownBy w' row) (hg : some g ≠ row) : Blk w' g t cs := (hb.block g h.lt hg).trans h
end
theorem Blk.cells1 {w : World} {g : Nat} {t : TypeId} {a : Value} (h : Blk w g t #[a]) : w.cell? ⟨g, 0, none⟩ = some a ∧ w.frozen? ⟨g, 0, none⟩ = false := ⟨h.cell 0, h.frozen 0⟩
theorem Blk.cells2 {w : World} {g : Nat} {t : TypeId} {a b : Value} (h : Blk w g t #[a, b]) : w.cell? ⟨g, 0, none⟩ = some a ∧ w.cell? ⟨g, 1, none⟩ = some b ∧ ∀ i, w.frozen? ⟨g, i, none⟩ = false := ⟨h.cell 0, h.cell 1, h.frozen⟩
theorem Blk.cells3 {w : World} {g : Nat} {t : TypeId} {a b c : Value} (h : Blk w g t #[a, b, c]) : w.cell? ⟨g, 0, none⟩ = some a ∧ w.cell? ⟨g, 1, none⟩ = some b ∧ w.cell? ⟨g, 2, none⟩ = some c ∧ ∀ i, w.frozen? ⟨g, i, none⟩ = false := ⟨h.cell 0, h.cell 1, h.cell 2, h.frozen⟩
theorem Blk.cells4 {w : World} {g : Nat} {t : TypeId} {a b c d : Value} (h : Blk w g t #[a, b, c, d]) : w.cell? ⟨g, 0, none⟩ = some a ∧ w.cell? ⟨g, 1, none⟩ = some b ∧ w.cell? ⟨g, 2, none⟩ = some c ∧ w.cell? ⟨g, 3, none⟩ = some d ∧ ∀ i, w.frozen? ⟨g, i, none⟩ = false := ⟨h.cell 0, h.cell 1, h.cell 2, h.cell 3, h.frozen⟩
theorem below_setRow {B : Nat} {a w : World} (h : Below B a w) {g : Nat} (hg : B ≤ g) (cs : Array Value) : Below B a (w.setRow g cs) :=
  h.trans ⟨rfl, rfl, rfl, by simp, fun k hk => setRow_other w g k cs (by omega)⟩
/-! ### a row of one-cell elements that is read -/
structure Sl {α : Type} (enc : α → Value) (d : α) (w : World) (lo hi : Nat) (A : Option Addr) (n : Nat) (xs : List α) : Prop where
  len : xs.length = n
  row : 0 < n → ∃ b off, A = some ⟨b, off, none⟩ ∧ lo ≤ b ∧ b < hi ∧ ∀ k, k < n → w.cell? ⟨b, off + k, none⟩ = some (enc (xs[k]?.getD d))
section
variable {α : Type} {enc : α → Value} {d : α} {w w' : World} {lo hi lo' hi' B : Nat} {A : Option Addr} {n : Nat} {xs : List α}
theorem Sl.nil (w : World) (lo hi : Nat) (A : Option Addr) : Sl enc d w lo hi A 0 [] := ⟨rfl, fun h => absurd h (by omega)⟩
theorem Sl.keep (h : Sl enc d w lo hi A n xs) (hk : ∀ b o, lo ≤ b → b < hi → w'.cell? ⟨b, o, none⟩ = w.cell? ⟨b, o, none⟩) : Sl enc d w' lo hi A n xs :=
  ⟨h.len, fun hn => by
    obtain ⟨b, off, e, h1, h2, h3⟩ := h.row hn
    exact ⟨b, off, e, h1, h2, fun k hkn => (hk b _ h1 h2).trans (h3 k hkn)⟩⟩
theorem Sl.below (h : Sl enc d w lo hi A n xs) (hb : Below B w w') (hB : hi ≤ B) : Sl enc d w' lo hi A n xs := h.keep fun b o _ h2 => hb.cell (p := ⟨b, o, none⟩) (Nat.lt_of_lt_of_le h2 hB)
theorem Sl.alloc (h : Sl enc d w lo hi A n xs) (hB : hi ≤ w.heap.size) (o : Obj) : Sl enc d (w.alloc o) lo hi A n xs :=
  h.keep fun b i _ h2 => World.cell?_alloc_lt w o ⟨b, i, none⟩ (Nat.lt_of_lt_of_le h2 hB)
theorem Sl.drew (h : Sl enc d w lo hi A n xs) : Sl enc d w.drew lo hi A n xs := ⟨h.len, h.row⟩
theorem Sl.drewN (h : Sl enc d w lo hi A n xs) (k : Nat) : Sl enc d (w.drewN k) lo hi A n xs := ⟨h.len, h.row⟩
theorem Sl.setCell (h : Sl enc d w lo hi A n xs) {p : Addr} (hp : p.block < lo ∨ hi ≤ p.block) (u : Value) : Sl enc d (w.setCell p u) lo hi A n xs :=
  h.keep fun b i h1 h2 => World.cell?_setCell_other w p ⟨b, i, none⟩ u (fun e => by subst e; simp at hp; omega)
theorem Sl.setRow (h : Sl enc d w lo hi A n xs) {g : Nat} (hp : g < lo ∨ hi ≤ g) (cs : Array Value) : Sl enc d (w.setRow g cs) lo hi A n xs :=
  h.keep fun b i h1 h2 => cell_setRow_other w g cs ⟨b, i, none⟩ (by simp; omega)
theorem Sl.mono (h : Sl enc d w lo hi A n xs) (h1 : lo' ≤ lo) (h2 : hi ≤ hi') : Sl enc d w lo' hi' A n xs :=
  ⟨h.len, fun hn => by
    obtain ⟨b, off, e, g1, g2, g3⟩ := h.row hn
    exact ⟨b, off, e, by omega, by omega, g3⟩⟩
theorem Sl.take (h : Sl enc d w lo hi A n xs) {k : Nat} (hk : k ≤ n) : Sl enc d w lo hi A k (xs.take k) :=
  ⟨by rw [List.length_take, h.len]; omega, fun hn => by
    obtain ⟨b, off, e, h1, h2, h3⟩ := h.row (by omega)
    refine ⟨b, off, e, h1, h2, fun j hj => ?_⟩
    rw [h3 j (by omega), List.getElem?_take, if_pos hj]⟩
theorem Sl.drop (h : Sl enc d w lo hi A n xs) {k cap : Nat} (hk : k ≤ n) (hc : n ≤ cap) : Sl enc d w lo hi (if cap = k then A else A.map (·.add k)) (n - k) (xs.drop k) :=
  ⟨by rw [List.length_drop, h.len], fun hn => by
    obtain ⟨b, off, rfl, h1, h2, h3⟩ := h.row (by omega)
    rw [if_neg (by omega)]
    refine ⟨b, off + k, by simp [Addr.add_lit], h1, h2, fun j hj => ?_⟩
    rw [Nat.add_assoc, h3 (k + j) (by omega), List.getElem?_drop]⟩
theorem Sl.none_ (h : Sl enc d w lo hi none n xs) : n = 0 ∧ xs = [] := by
  have hn : n = 0 := by
    rcases Nat.eq_zero_or_pos n with h0 | h0
    · exact h0
    · obtain ⟨b, off, e, _⟩ := h.row h0
      cases e
  exact ⟨hn, List.eq_nil_of_length_eq_zero (h.len.trans hn)⟩
end

/-! ### a row of one-cell elements that is owned -/
structure Ow {α : Type} (enc : α → Value) (w : World) (lo : Nat) (e : TypeId) (A : Option Addr) (n c : Nat) (xs : List α) : Prop where
  len : xs.length = n
  own : w.ownsRow lo e 1 (.slice A n c) n (xs.map enc)
section
variable {α : Type} {enc : α → Value} {d : α} {w w' : World} {lo lo' B : Nat} {e : TypeId} {A : Option Addr} {n c : Nat} {xs : List α}
theorem Ow.cap (h : Ow enc w lo e A n c xs) : n ≤ c ∧ c ≤ maxLen := by
  rcases h.own.2 with ⟨hv, h0⟩ | ⟨g, cap, cur, hv, _, _, h1, h2, _⟩
  · simp only [Value.slice.injEq] at hv; obtain ⟨_, rfl, rfl⟩ := hv; exact ⟨Nat.le_refl _, by simp [maxLen]⟩
  · simp only [Value.slice.injEq] at hv; obtain ⟨_, _, rfl⟩ := hv; exact ⟨h1, h2⟩
theorem Ow.sl (h : Ow enc w lo e A n c xs) : Sl enc d w lo w.heap.size A n xs := by
  refine ⟨h.len, fun hn => ?_⟩
  obtain ⟨g, cap, hv, hlo, hhi⟩ := h.own.form hn
  simp only [Value.slice.injEq] at hv
  obtain ⟨rfl, _, rfl⟩ := hv
  refine ⟨g, 0, rfl, hlo, hhi, fun k hk => ?_⟩
  rw [Nat.zero_add, h.own.cellAt k (by omega), List.getElem?_map, List.getElem?_eq_getElem (by rw [h.len]; exact hk)]
  rfl
theorem Ow.empty (w : World) (lo : Nat) (e : TypeId) (hlo : lo ≤ w.heap.size) : Ow enc (w.alloc (.cells #[] e)) lo e (some ⟨w.heap.size, 0, none⟩) 0 0 [] :=
  ⟨rfl, World.ownsRow_made w #[] 0 hlo (by simp [maxLen]) rfl⟩
theorem Ow.nil (w : World) (lo : Nat) (e : TypeId) : Ow enc w lo e none 0 0 [] := ⟨rfl, World.ownsRow_nil w lo e 1⟩
theorem Ow.below (h : Ow enc w lo e A n c xs) (hb : Below w.heap.size w w') : Ow enc w' lo e A n c xs := by
  refine ⟨h.len, h.own.1, ?_⟩
  rcases h.own.2 with hh | ⟨g, cap, cur, hv, hb1, hg, r⟩
  · exact .inl hh
  · exact .inr ⟨g, cap, cur, hv, hb1, (hb.block g (Array.getElem?_eq_some_iff.1 hg).1).trans hg, r⟩
theorem Ow.mono (h : Ow enc w lo e A n c xs) (h1 : lo' ≤ lo) : Ow enc w lo' e A n c xs := by
  refine ⟨h.len, h.own.1, ?_⟩
  rcases h.own.2 with hh | ⟨g, cap, cur, hv, hb1, r⟩
  · exact .inl hh
  · exact .inr ⟨g, cap, cur, hv, by omega, r⟩
theorem Ow.alloc (h : Ow enc w lo e A n c xs) (o : Obj) : Ow enc (w.alloc o) lo e A n c xs := ⟨h.len, h.own.alloc o⟩
theorem Ow.drewN (h : Ow enc w lo e A n c xs) (k : Nat) : Ow enc (w.drewN k) lo e A n c xs := ⟨h.len, h.own⟩
theorem Ow.setCell (h : Ow enc w lo e A n c xs) {p : Addr} (hp : p.block < lo) (u : Value) : Ow enc (w.setCell p u) lo e A n c xs := ⟨h.len, ownsRow_setCell_below h.own hp u⟩
end

section
variable {α : Type} {enc : α → Value} {d : α} {w w' : World} {lo lo' B : Nat} {e : TypeId} {A : Option Addr} {n c : Nat} {xs : List α}
theorem Ow.row_ge (h : Ow enc w lo e A n c xs) : ∀ k, (Value.slice A n c).ownBlock = some k → lo ≤ k := fun k hk => (h.own.lt k hk).1
/-- a block below an owned row is no part of it -/
theorem Ow.ne_row (h : Ow enc w lo e A n c xs) {g : Nat} (hg : g < lo) : some g ≠ (Value.slice A n c).ownBlock := fun he => by
  have := h.row_ge g he.symm; omega
theorem Sl.one (w : World) (e : TypeId) (x : α) : Sl enc d (w.alloc (.cells #[enc x] e)) w.heap.size (w.heap.size + 1) (some ⟨w.heap.size, 0, none⟩) 1 [x] :=
  ⟨rfl, fun _ => ⟨w.heap.size, 0, rfl, Nat.le_refl _, by omega, fun k hk => by
    obtain rfl : k = 0 := by omega
    simp⟩⟩
end

theorem Sl.one' {α : Type} {enc : α → Value} {d : α} {w : World} {e : TypeId} {x : α} {g : Nat} (hg : g = w.heap.size) : Sl enc d (w.alloc (.cells #[enc x] e)) g (g + 1) (some ⟨g, 0, none⟩) 1 [x] := by
  subst hg; exact Sl.one w e x

/-! ### whole arrays -/
/-! ### a slice against nil -/
theorem run_eqnil {P : Program} {t e : TypeId} (ht : P.underlying t = some (.slice e)) (w : World) (a : Option Addr) (n c : Nat) :
    (binOp .eql t (.slice a n c) (.slice none 0 0)).run P w = .ok (.bool a.isNone) w := by
  have h : ∀ d : Nat, (Op.equalIn (d + 1) t (.slice a n c) (.slice none 0 0)).run P w = .ok a.isNone w := fun d => by
    cases a <;> simp [Op.equalIn, run_underlying ht]
  simp only [binOp]
  simp [Op.equal, Op.maxDepth, h 9999]

/-! ### append onto an owned row -/
/-- what an append leaves -/
def AppPost {α : Type} (enc : α → Value) (w : World) (base : Nat) (e : TypeId) (v : Value) (n : Nat) (xs : List α) (v' : Value) (w' : World) : Prop :=
  ∃ A c, v' = .slice A n c ∧ Ow enc w' base e A n c xs ∧ w.grownBy w' v.ownBlock ∧ (v'.ownBlock = v.ownBlock ∨ v'.ownBlock = some w.heap.size)
theorem wpList_app {P : Program} {α : Type} (enc : α → Value) (d : α) (w : World) {ops : Array Oper} {rest : List Oper} {o : Oper} {a : Act} {Q : Exit → Act → World → Prop} (hgd : o.guard = none) (s x : Operand) (t : TypeId)
    (ho : o.op = .call { callee := .builtin .append, args := #[s, x], argTypes := #[t, t] })
    (base : Nat) (e : TypeId) (i : TypeInfo) (z : Value) (bytes : Nat) (ht : P.underlying t = some (.slice e)) (hi : P.info? e = some i) (hz : i.zero = some z)
    (hsize : i.size = 1) (hby : i.bytes = bytes) (hzs : z.cells.size = 1)
    (A0 : Option Addr) (n c0 : Nat) (xs : List α) (hs : a.eval s = .slice A0 n c0) (hown : Ow enc w base e A0 n c0 xs)
    (lo hi' : Nat) (A : Option Addr) (m c : Nat) (ys : List α) (hx : a.eval x = .slice A m c) (hr : Sl enc d w lo hi' A m ys) (h1 : ∀ y, (enc y).oneCell' = true)
    (h63 : n + m ≤ maxLen) (hbytes : (n + m) * bytes ≤ 140737488355328) (hbase : base ≤ w.heap.size)
    (h : ∀ A' c' w', Ow enc w' base e A' (n + m) c' (xs ++ ys) → w.grownBy w' (Value.slice A0 n c0).ownBlock → ((Value.slice A' (n + m) c').ownBlock = (Value.slice A0 n c0).ownBlock ∨ (Value.slice A' (n + m) c').ownBlock = some w.heap.size) →
      wpList P ops Q rest (a.put o.dst (.slice A' (n + m) c')) w') :
    wpList P ops Q (o :: rest) a w := by
  have hform : ∀ (v' : Value) (w' : World), w'.ownsRow base e 1 v' (n + m) ((xs ++ ys).map enc) → ∃ (A' : Option Addr) (c' : Nat), v' = Value.slice A' (n + m) c' := by
    intro v' w' ho
    rcases ho.2 with ⟨rfl, h0⟩ | ⟨g, cap, cur, rfl, _⟩
    · rw [h0]; exact ⟨_, _, rfl⟩
    · exact ⟨_, _, rfl⟩
  refine wpList_plain hgd fun K hK => ?_
  rcases A with _ | ad
  · obtain ⟨rfl, rfl⟩ := hr.none_
    have hrun : (Builtin.append_ #[t, t] o.type #[.slice A0 n c0, .slice none 0 c]).run P w = .ok (.slice A0 n c0) w := by
      rcases hown.own.2 with ⟨hv, h0⟩ | ⟨g, cap, cur, hv, _, _, hnc, _⟩
      · simp only [Value.slice.injEq] at hv
        obtain ⟨rfl, rfl, rfl⟩ := hv
        simp [Builtin.append_, run_underlying ht, sizeOf, typeInfo, hi, Builtin.lenOf, Builtin.firstCells]
      · simp only [Value.slice.injEq] at hv
        obtain ⟨rfl, _, rfl⟩ := hv
        simp [Builtin.append_, run_underlying ht, sizeOf, typeInfo, hi, Builtin.lenOf, Builtin.firstCells, hnc, storeCells]
    unfold Oper.wp execOp
    simp only [ho, resolve, invoke, builtin, Sem.run_bind, Sem.run_pure, Result.andThen_ok, List.map_toArray, List.map_cons, List.map_nil, hs, hx, hrun]
    exact hK _ _ (h A0 c0 w (by simpa using hown) (World.grownBy.refl w _) (.inl rfl))
  · have hnews : ∀ j u, (ys.map enc)[j]? = some u → w.cell? (ad.add j) = some u := by
      intro j u hu
      have hj : j < m := by have := (List.getElem?_eq_some_iff.1 hu).1; rw [List.length_map, hr.len] at this; exact this
      obtain ⟨b, off, he, _, _, hc⟩ := hr.row (by omega)
      obtain rfl := Option.some.inj he
      rw [Addr.add_lit, hc j hj, ← hu, List.getElem?_map, List.getElem?_eq_getElem (by rw [hr.len]; exact hj)]
      rfl
    obtain ⟨v', w', hrun, h2, h3, _, h5⟩ := run_append_own_at (P := P) w base t o.type e i z 1 bytes ht hi hz hsize hby hzs (by omega) (.slice A0 n c0) n (xs.map enc) hown.own ad m c (ys.map enc) (by rw [List.length_map, hr.len, Nat.mul_one]) hnews
      (fun u hu => by obtain ⟨y, _, rfl⟩ := List.mem_map.1 hu; exact h1 y) h63 hbytes hbase
    rw [← List.map_append] at h2
    obtain ⟨A', c', rfl⟩ := hform v' w' h2
    unfold Oper.wp execOp
    simp only [ho, resolve, invoke, builtin, Sem.run_bind, Sem.run_pure, Result.andThen_ok, List.map_toArray, List.map_cons, List.map_nil, hs, hx, hrun]
    exact hK _ _ (h A' c' w' ⟨by rw [List.length_append, hown.len, hr.len], h2⟩ h3 h5)
end Go.Proofs.YtfipdoofgbjbjaaGreat

/- General words, second part: facts carried over a step that turns nothing old. No condition. -/
namespace Go.Proofs.YtfipdoofgbjbjaaGreat
open Go.RowKit
theorem below_box (w : World) (o : Obj) : Below w.heap.size w (w.alloc o) := (Below.refl _ w).alloc (Nat.le_refl _) o
theorem Blk.step {w w' : World} {g : Nat} {t : TypeId} {cs : Array Value} (h : Blk w g t cs) (hb : Below w.heap.size w w') : Blk w' g t cs := h.below hb h.lt
theorem Sl.step {α : Type} {enc : α → Value} {d : α} {w w' : World} {lo : Nat} {A : Option Addr} {n : Nat} {xs : List α} (h : Sl enc d w lo w.heap.size A n xs) (hb : Below w.heap.size w w') : Sl enc d w' lo w'.heap.size A n xs :=
  (h.below hb (Nat.le_refl _)).mono (Nat.le_refl _) hb.size
theorem below_then {w a b : World} (h : Below w.heap.size w a) (h' : Below a.heap.size a b) : Below w.heap.size w b := h.trans (h'.mono h.size)
theorem Ow.step {α : Type} {enc : α → Value} {w w' : World} {lo : Nat} {e : TypeId} {A : Option Addr} {n c : Nat} {xs : List α} (h : Ow enc w lo e A n c xs) (hb : Below w.heap.size w w') : Ow enc w' lo e A n c xs := h.below hb
/-- a literal row, as it was laid -/
theorem Sl.lit {α : Type} {enc : α → Value} {d : α} {w : World} {e : TypeId} {g : Nat} (xs : List α) (cs : Array Value) (hg : g = w.heap.size) (hc : cs = (xs.map enc).toArray) :
    Sl enc d (w.alloc (.cells cs e)) 0 (w.alloc (.cells cs e)).heap.size (some ⟨g, 0, none⟩) xs.length xs := by
  subst hg hc
  refine ⟨rfl, fun _ => ⟨w.heap.size, 0, rfl, Nat.zero_le _, by simp, fun k hk => ?_⟩⟩
  rw [Nat.zero_add, (Blk.new w e _).cell]
  simp [hk]
end Go.Proofs.YtfipdoofgbjbjaaGreat

/- slices.Clone and slices.Equal at []int, and afterglowref07.Has. No condition but sizes. -/
namespace Go.Proofs.YtfipdoofgbjbjaaGreat
open Go.RowKit
abbrev i64 : Int → Value := .int .i64
theorem one_i64 (y : Int) : (i64 y).oneCell' = true := rfl
theorem info_int : (Tryz.prog.info? 3).map (fun i => (i.zero, i.size, i.bytes)) = some (some (.int .i64 0), 1, 8) := by kernel_rfl

set_option maxHeartbeats 400000 in
theorem clone_int (A : Option Addr) (n c lo : Nat) (xs : List Int) (w : World) (h : Sl i64 0 w lo w.heap.size A n xs) (hn : n ≤ 1000000) :
    Calls Tryz.prog 27 #[.slice A n c] w fun e w' => ∃ A' c', e = .returned (.slice A' n c') ∧ Ow i64 w' w.heap.size 3 A' n c' xs ∧ Below w.heap.size w w' := by
  obtain ⟨i0, hi0, hz00, hz01, hz02⟩ := info_parts info_int
  have hq := fun W a n c => run_eqnil (P := Tryz.prog) (t := 22) Tryz.underlying22 W a n c
  rcases A with _ | ad
  · obtain ⟨rfl, rfl⟩ := h.none_
    go_enter Tryz.func27, Tryz.ntmps27
    go_wp2
    go_ret
    exact ⟨none, 0, rfl, Ow.nil _ _ _, Below.refl _ _⟩
  · go_enter Tryz.func27, Tryz.ntmps27
    go_wp2_with (at_builtin; refine wpList_app i64 0 _ rfl _ _ 22 rfl w.heap.size 3 i0 _ 8 Tryz.underlying22 hi0 hz00 hz01 hz02 rfl _ _ _ [] rfl (Ow.empty w _ _ (Nat.le_refl _)) lo w.heap.size (some ad) n c xs rfl (h.alloc (Nat.le_refl _) _) one_i64 (by simp only [maxLen]; omega) (by omega) (by simp) ?_; intro A1 c1 w1 hown1 hg1 hat1; simp only [Nat.zero_add, List.nil_append] at hown1)
    go_ret
    refine ⟨A1, c1, by simp, hown1, ?_⟩
    exact ((Below.refl _ w).alloc (Nat.le_refl _) _).grown hg1 (by simp) (fun k hk => by simp [Value.ownBlock] at hk; omega)

theorem below_succ {p : Nat → Prop} {k : Nat} (h : ∀ j, j < k → p j) (hk : p k) : ∀ j, j < k + 1 → p j := fun j hj => by
  by_cases e : j < k
  · exact h j e
  · obtain rfl : j = k := by omega
    exact hk
theorem ext_getD {xs ys : List Int} {n : Nat} (hx : xs.length = n) (hy : ys.length = n) (h : ∀ k, k < n → xs[k]?.getD 0 = ys[k]?.getD 0) : xs = ys := by
  apply List.ext_getElem (by omega)
  intro k h1 h2
  have := h k (by omega)
  rwa [List.getElem?_eq_getElem h1, List.getElem?_eq_getElem h2] at this

set_option maxHeartbeats 1000000 in
theorem equal_int (A B : Option Addr) (n c m c' lo hi lo' hi' : Nat) (xs ys : List Int) (w : World) (hx : Sl i64 0 w lo hi A n xs) (hy : Sl i64 0 w lo' hi' B m ys) (hn : n ≤ 1000000) (hm : m ≤ 1000000) :
    Calls Tryz.prog 100 #[.slice A n c, .slice B m c'] w fun e w' => e = .returned (.bool (decide (xs = ys))) ∧ ∃ q, w' = w.drewN q := by
  by_cases hnm : n = m
  · subst hnm
    go_enter Tryz.func100, Tryz.ntmps100
    go_wp2
    go_loopw [13] (fun i wr => ∃ k q : Nat, k ≤ n ∧ i = .int .i64 k ∧ (∀ j, j < k → xs[j]?.getD 0 = ys[j]?.getD 0) ∧ wr = w.drewN q) (fun i _ => n - (intOf i).toNat)
    case atStart => exact ⟨0, 0, Nat.zero_le _, rfl, fun j hj => absurd hj (Nat.not_lt_zero _), rfl⟩
    case round =>
      obtain ⟨k, q, hk, rfl, hall, rfl⟩ := hrel
      have HA := hid hall; clear hall
      have hL := hid hx.len; have hL' := hid hy.len
      by_cases hlt : k < n
      · obtain ⟨b, off, rfl, _, _, hc1⟩ := hx.row (by omega)
        obtain ⟨b', off', rfl, _, _, hc2⟩ := hy.row (by omega)
        clear hx hy
        have g1 := hc1 k hlt
        have g2 := hc2 k hlt
        clear hc1 hc2
        obtain ⟨x, hX⟩ : ∃ x, x = xs[k]?.getD 0 := ⟨_, rfl⟩
        obtain ⟨y, hY⟩ : ∃ y, y = ys[k]?.getD 0 := ⟨_, rfl⟩
        rw [← hX] at g1
        rw [← hY] at g2
        have HX := hid hX; have HY := hid hY
        clear hX hY
        by_cases hxy : x = y
        · have e1 : (x != y) = false := by simp [hxy]
          clear hxy
          go_wp2
          go_quiet (fail)
          go_wp2
          go_roundw
          case rel => exact ⟨k + 1, _, by omega, by go_num, below_succ HA.out (by rw [← HX.out, ← HY.out]; simpa using e1), rfl⟩
          case measure => simp [intOf]; omega
        · have e1 : (x != y) = true := by simp [hxy]
          have hd : decide (xs = ys) = false := by
            simp only [decide_eq_false_iff_not]; rintro rfl; exact hxy (by rw [HX.out, HY.out])
          have HD := hid hd
          clear hxy hd
          go_wp2
          go_quiet (fail)
          go_wp2
          go_ret
          exact ⟨ret_bool HD.out.symm, _, by rw [World.drewN_drewN]⟩
      · obtain rfl : k = n := by omega
        have hd : decide (xs = ys) = true := by
          simp only [decide_eq_true_eq]; exact ext_getD hL.out hL'.out HA.out
        have HD := hid hd
        clear hd hx hy
        go_wp2
        go_ret
        exact ⟨ret_bool HD.out.symm, _, rfl⟩
  · have hd : decide (xs = ys) = false := by
      simp only [decide_eq_false_iff_not]; rintro rfl; exact hnm (hx.len.symm.trans hy.len)
    have e1 : ((n : Int) != (m : Int)) = true := by simp; omega
    have HD := hid hd
    clear hd
    go_enter Tryz.func100, Tryz.ntmps100
    go_wp2
    go_ret
    exact ⟨ret_bool HD.out.symm, 0, rfl⟩

/-! ### afterglowref07.Has -/
end Go.Proofs.YtfipdoofgbjbjaaGreat

/- General words, third part: stores into an owned row. No condition. -/
namespace Go.Proofs.YtfipdoofgbjbjaaGreat
open Go.RowKit
section
variable {α : Type} {enc : α → Value} {d : α} {w : World} {lo : Nat} {e : TypeId} {A : Option Addr} {n c : Nat} {xs : List α}
theorem Ow.at_ (h : Ow enc w lo e A n c xs) (d : α) {k : Nat} (hk : k < n) : ∃ g, A = some ⟨g, 0, none⟩ ∧ lo ≤ g ∧ g < w.heap.size ∧ w.cell? ⟨g, k, none⟩ = some (enc (xs[k]?.getD d)) ∧ w.frozen? ⟨g, k, none⟩ = false := by
  obtain ⟨g, cap, hv, hlo, hhi⟩ := h.own.form (by omega)
  simp only [Value.slice.injEq] at hv
  obtain ⟨rfl, _, rfl⟩ := hv
  refine ⟨g, rfl, hlo, hhi, ?_, h.own.frozenAt k⟩
  rw [h.own.cellAt k (by omega), List.getElem?_map, List.getElem?_eq_getElem (by rw [h.len]; exact hk)]
  rfl
theorem Ow.stored {g : Nat} (h : Ow enc w lo e (some ⟨g, 0, none⟩) n c xs) (k : Nat) (v : α) : Ow enc (w.setCell ⟨g, k, none⟩ (enc v)) lo e (some ⟨g, 0, none⟩) n c (xs.set k v) := by
  refine ⟨by rw [List.length_set, h.len], ?_⟩
  rw [List.map_set]
  exact (h.own.stored k (enc v)).1
end
end Go.Proofs.YtfipdoofgbjbjaaGreat

/- General words, fourth part: what abides the turn of a block that is no cells (loops over functions, maps). No condition. -/
namespace Go.Proofs.YtfipdoofgbjbjaaGreat
open Go.RowKit Go.Shelf
theorem Blk.abides {W W' : World} {g : Nat} {t : TypeId} {cs : Array Value} {row : Option Nat} (h : Blk W g t cs) (hg : W.grownBy W' row) (hr : ∀ r, row = some r → ∃ o : Obj, W.heap[r]? = some o ∧ o.isCells = false) : Blk W' g t cs :=
  h.grown hg (fun e => by
    obtain ⟨o, ho, hc⟩ := hr g e.symm
    unfold Blk at h
    rw [h] at ho
    cases ho
    cases hc)
theorem Ow.abides {α : Type} {enc : α → Value} {W W' : World} {lo : Nat} {e : TypeId} {A : Option Addr} {n c : Nat} {xs : List α} {row : Option Nat} (h : Ow enc W lo e A n c xs) (hg : W.grownBy W' row) (hr : ∀ r, row = some r → ∃ o : Obj, W.heap[r]? = some o ∧ o.isCells = false) : Ow enc W' lo e A n c xs := by
  refine ⟨h.len, h.own.1, ?_⟩
  rcases h.own.2 with hh | ⟨g, cap, cur, hv, hb1, hgg, r⟩
  · exact .inl hh
  · refine .inr ⟨g, cap, cur, hv, hb1, ?_, r⟩
    exact Blk.abides (t := e) (cs := cur) hgg hg hr
end Go.Proofs.YtfipdoofgbjbjaaGreat

/- General words, fifth part: rows of structures, whose elements lie in so many cells each. No condition. -/
namespace Go.Proofs.YtfipdoofgbjbjaaGreat
open Go.RowKit
/-- a row of elements of sz cells each reads as xs; enc x j: the j-th cell of x -/
structure Sm {α : Type} (sz : Nat) (enc : α → Nat → Value) (d : α) (w : World) (lo hi : Nat) (A : Option Addr) (n : Nat) (xs : List α) : Prop where
  len : xs.length = n
  row : 0 < n → ∃ b off, A = some ⟨b, off, none⟩ ∧ lo ≤ b ∧ b < hi ∧ ∀ k, k < n → ∀ j, j < sz → w.cell? ⟨b, off + k * sz + j, none⟩ = some (enc (xs[k]?.getD d) j)
section
variable {α : Type} {sz : Nat} {enc : α → Nat → Value} {d : α} {w w' : World} {lo hi lo' hi' B : Nat} {A : Option Addr} {n : Nat} {xs : List α}
theorem Sm.nil (w : World) (lo hi : Nat) (A : Option Addr) : Sm sz enc d w lo hi A 0 [] := ⟨rfl, fun h => absurd h (by omega)⟩
theorem Sm.keep (h : Sm sz enc d w lo hi A n xs) (hk : ∀ b o, lo ≤ b → b < hi → w'.cell? ⟨b, o, none⟩ = w.cell? ⟨b, o, none⟩) : Sm sz enc d w' lo hi A n xs :=
  ⟨h.len, fun hn => by
    obtain ⟨b, off, e, h1, h2, h3⟩ := h.row hn
    exact ⟨b, off, e, h1, h2, fun k hkn j hj => (hk b _ h1 h2).trans (h3 k hkn j hj)⟩⟩
theorem Sm.below (h : Sm sz enc d w lo hi A n xs) (hb : Below B w w') (hB : hi ≤ B) : Sm sz enc d w' lo hi A n xs := h.keep fun b o _ h2 => hb.cell (p := ⟨b, o, none⟩) (Nat.lt_of_lt_of_le h2 hB)
theorem Sm.mono (h : Sm sz enc d w lo hi A n xs) (h1 : lo' ≤ lo) (h2 : hi ≤ hi') : Sm sz enc d w lo' hi' A n xs :=
  ⟨h.len, fun hn => by
    obtain ⟨b, off, e, g1, g2, g3⟩ := h.row hn
    exact ⟨b, off, e, by omega, by omega, g3⟩⟩
theorem Sm.step (h : Sm sz enc d w lo w.heap.size A n xs) (hb : Below w.heap.size w w') : Sm sz enc d w' lo w'.heap.size A n xs := (h.below hb (Nat.le_refl _)).mono (Nat.le_refl _) hb.size
theorem Sm.take (h : Sm sz enc d w lo hi A n xs) {k : Nat} (hk : k ≤ n) : Sm sz enc d w lo hi A k (xs.take k) :=
  ⟨by rw [List.length_take, h.len]; omega, fun hn => by
    obtain ⟨b, off, e, h1, h2, h3⟩ := h.row (by omega)
    refine ⟨b, off, e, h1, h2, fun j hj i hi => ?_⟩
    rw [h3 j (by omega) i hi, List.getElem?_take, if_pos hj]⟩
/-- one element, as it was laid -/
theorem Sm.one {e : TypeId} {cs : Array Value} {g : Nat} (x : α) (hg : g = w.heap.size) (hc : ∀ j, j < sz → cs[j]? = some (enc x j)) : Sm sz enc d (w.alloc (.cells cs e)) 0 (w.alloc (.cells cs e)).heap.size (some ⟨g, 0, none⟩) 1 [x] := by
  subst hg
  refine ⟨rfl, fun _ => ⟨w.heap.size, 0, rfl, Nat.zero_le _, by simp, fun k hk j hj => ?_⟩⟩
  obtain rfl : k = 0 := by omega
  have h0 : 0 + 0 * sz + j = j := by omega
  rw [h0, (Blk.new w e cs).cell, hc j hj]
  rfl
end
end Go.Proofs.YtfipdoofgbjbjaaGreat

/- General words, sixth part: rows that are made. No condition but sizes. -/
namespace Go.Proofs.YtfipdoofgbjbjaaGreat
open Go.RowKit
/-- so many cells that hold one value -/
def zrow (v : Value) (n : Nat) : Array Value := (List.replicate n v).toArray
theorem zrow_size (v : Value) (n : Nat) : (zrow v n).size = n := by simp [zrow]
theorem made_zrow (v : Value) (hv : v.cells = #[v]) (n : Nat) : madeCells v.cells (n * 1) = zrow v n := by
  rw [hv]
  apply Array.ext
  · simp [madeCells, zrow]
  · intro i h1 h2
    simp [madeCells, zrow, Nat.mod_one]
theorem Ow.made {α : Type} {enc : α → Value} {w : World} {lo g : Nat} {e : TypeId} {n : Nat} (x : α) (hlo : lo ≤ w.heap.size) (hn : n ≤ maxLen) (hg : g = w.heap.size) : Ow enc (w.alloc (.cells (zrow (enc x) n) e)) lo e (some ⟨g, 0, none⟩) n n (List.replicate n x) := by
  subst hg
  refine ⟨by simp, ?_⟩
  have := World.ownsRow_lit (e := e) (size := 1) (base := lo) w (zrow (enc x) n) n hlo hn (by rw [zrow_size, Nat.mul_one])
  simpa [zrow] using this
theorem run_make1 {P : Program} {t e : TypeId} {i : TypeInfo} {z : Value} (ht : P.underlying t = some (.slice e)) (hi : P.info? e = some i) (hz : i.zero = some z) (hs : i.size = 1) (hzc : z.cells = #[z]) (n : Nat) (hn : i.bytes * n ≤ 281474976710656) (hm : n ≤ 1000000) (w : World) :
    (Instr.makeSlice t (.int .i64 n) (.int .i64 n)).run P w = .ok (.slice (some ⟨w.heap.size, 0, none⟩) n n) (w.alloc (.cells (zrow z n) e)) := by
  have hb : (i.bytes : Int) * (n : Int) ≤ 281474976710656 := by
    have h' : ((i.bytes * n : Nat) : Int) ≤ 281474976710656 := by omega
    rwa [Int.natCast_mul] at h'
  have h := run_make (P := P) w t e i z ht hi hz .i64 .i64 n n (by omega) (Int.le_refl _) hb (by omega)
  rw [Int.toNat_natCast, hs, made_zrow z hzc] at h
  exact h
end Go.Proofs.YtfipdoofgbjbjaaGreat

/- slices.Clone and slices.Equal at rows of words and of flags. No condition but sizes. -/
namespace Go.Proofs.YtfipdoofgbjbjaaGreat
open Go.RowKit
abbrev u64v : Int → Value := .int .u64
abbrev blv : Bool → Value := .bool
theorem info_u64 : (Tryz.prog.info? 35).map (fun i => (i.zero, i.size, i.bytes)) = some (some (.int .u64 0), 1, 8) := by kernel_rfl
theorem info_bool : (Tryz.prog.info? 4).map (fun i => (i.zero, i.size, i.bytes)) = some (some (.bool false), 1, 1) := by kernel_rfl
theorem ext_getDg {α : Type} (d : α) {xs ys : List α} {n : Nat} (hx : xs.length = n) (hy : ys.length = n) (h : ∀ k, k < n → xs[k]?.getD d = ys[k]?.getD d) : xs = ys := by
  apply List.ext_getElem (by omega)
  intro k h1 h2
  have := h k (by omega)
  rwa [List.getElem?_eq_getElem h1, List.getElem?_eq_getElem h2] at this
set_option maxHeartbeats 400000 in
theorem clone_u64 (A : Option Addr) (n c lo : Nat) (xs : List _) (w : World) (h : Sl u64v 0 w lo w.heap.size A n xs) (hn : n ≤ 1000000) :
    Calls Tryz.prog 24 #[.slice A n c] w fun e w' => ∃ A' c', e = .returned (.slice A' n c') ∧ Ow u64v w' w.heap.size 35 A' n c' xs ∧ Below w.heap.size w w' := by
  obtain ⟨i0, hi0, hz00, hz01, hz02⟩ := info_parts info_u64
  have hq := fun W a n c => run_eqnil (P := Tryz.prog) (t := 40) Tryz.underlying40 W a n c
  rcases A with _ | ad
  · obtain ⟨rfl, rfl⟩ := h.none_
    go_enter Tryz.func24, Tryz.ntmps24
    go_wp2
    go_ret
    exact ⟨none, 0, rfl, Ow.nil _ _ _, Below.refl _ _⟩
  · go_enter Tryz.func24, Tryz.ntmps24
    go_wp2_with (at_builtin; refine wpList_app u64v 0 _ rfl _ _ 40 rfl w.heap.size 35 i0 _ 8 Tryz.underlying40 hi0 hz00 hz01 hz02 rfl _ _ _ [] rfl (Ow.empty w _ _ (Nat.le_refl _)) lo w.heap.size (some ad) n c xs rfl (h.alloc (Nat.le_refl _) _) (fun _ => rfl) (by simp only [maxLen]; omega) (by omega) (by simp) ?_; intro A1 c1 w1 hown1 hg1 hat1; simp only [Nat.zero_add, List.nil_append] at hown1)
    go_ret
    refine ⟨A1, c1, by simp, hown1, ?_⟩
    exact ((Below.refl _ w).alloc (Nat.le_refl _) _).grown hg1 (by simp) (fun k hk => by simp [Value.ownBlock] at hk; omega)

set_option maxHeartbeats 400000 in
theorem clone_bool (A : Option Addr) (n c lo : Nat) (xs : List _) (w : World) (h : Sl blv false w lo w.heap.size A n xs) (hn : n ≤ 1000000) :
    Calls Tryz.prog 28 #[.slice A n c] w fun e w' => ∃ A' c', e = .returned (.slice A' n c') ∧ Ow blv w' w.heap.size 4 A' n c' xs ∧ Below w.heap.size w w' := by
  obtain ⟨i0, hi0, hz00, hz01, hz02⟩ := info_parts info_bool
  have hq := fun W a n c => run_eqnil (P := Tryz.prog) (t := 25) Tryz.underlying25 W a n c
  rcases A with _ | ad
  · obtain ⟨rfl, rfl⟩ := h.none_
    go_enter Tryz.func28, Tryz.ntmps28
    go_wp2
    go_ret
    exact ⟨none, 0, rfl, Ow.nil _ _ _, Below.refl _ _⟩
  · go_enter Tryz.func28, Tryz.ntmps28
    go_wp2_with (at_builtin; refine wpList_app blv false _ rfl _ _ 25 rfl w.heap.size 4 i0 _ 1 Tryz.underlying25 hi0 hz00 hz01 hz02 rfl _ _ _ [] rfl (Ow.empty w _ _ (Nat.le_refl _)) lo w.heap.size (some ad) n c xs rfl (h.alloc (Nat.le_refl _) _) (fun _ => rfl) (by simp only [maxLen]; omega) (by omega) (by simp) ?_; intro A1 c1 w1 hown1 hg1 hat1; simp only [Nat.zero_add, List.nil_append] at hown1)
    go_ret
    refine ⟨A1, c1, by simp, hown1, ?_⟩
    exact ((Below.refl _ w).alloc (Nat.le_refl _) _).grown hg1 (by simp) (fun k hk => by simp [Value.ownBlock] at hk; omega)

set_option maxHeartbeats 1000000 in
theorem equal_u64 (A B : Option Addr) (n c m c' lo hi lo' hi' : Nat) (xs ys : List _) (w : World) (hx : Sl u64v 0 w lo hi A n xs) (hy : Sl u64v 0 w lo' hi' B m ys) (hn : n ≤ 1000000) (hm : m ≤ 1000000) :
    Calls Tryz.prog 15 #[.slice A n c, .slice B m c'] w fun e w' => e = .returned (.bool (decide (xs = ys))) ∧ Below w.heap.size w w' := by
  by_cases hnm : n = m
  · subst hnm
    go_enter Tryz.func15, Tryz.ntmps15
    go_wp2
    go_loopw [13] (fun i wr => ∃ k q : Nat, k ≤ n ∧ i = .int .i64 k ∧ (∀ j, j < k → xs[j]?.getD 0 = ys[j]?.getD 0) ∧ wr = w.drewN q) (fun i _ => n - (intOf i).toNat)
    case atStart => exact ⟨0, 0, Nat.zero_le _, rfl, fun j hj => absurd hj (Nat.not_lt_zero _), rfl⟩
    case round =>
      obtain ⟨k, q, hk, rfl, hall, rfl⟩ := hrel
      have HA := hid hall; clear hall
      have hL := hid hx.len; have hL' := hid hy.len
      by_cases hlt : k < n
      · obtain ⟨b, off, rfl, _, _, hc1⟩ := hx.row (by omega)
        obtain ⟨b', off', rfl, _, _, hc2⟩ := hy.row (by omega)
        clear hx hy
        have g1 := hc1 k hlt
        have g2 := hc2 k hlt
        clear hc1 hc2
        obtain ⟨x, hX⟩ : ∃ x, x = xs[k]?.getD 0 := ⟨_, rfl⟩
        obtain ⟨y, hY⟩ : ∃ y, y = ys[k]?.getD 0 := ⟨_, rfl⟩
        rw [← hX] at g1
        rw [← hY] at g2
        have HX := hid hX; have HY := hid hY
        clear hX hY
        by_cases hxy : x = y
        · have e1 : (x != y) = false := by simp [hxy]
          have e2 : (x == y) = true := by simp [hxy]
          have HXY := hid hxy
          clear hxy
          go_wp2
          go_quiet (fail)
          go_wp2
          go_roundw
          case rel => exact ⟨k + 1, _, by omega, by go_num, below_succ HA.out (by rw [← HX.out, ← HY.out]; exact HXY.out), rfl⟩
          case measure => simp [intOf]; omega
        · have e1 : (x != y) = true := by simp [hxy]
          have e2 : (x == y) = false := by simp [hxy]
          have HD := hid (show decide (xs = ys) = false from decide_eq_false (by rintro rfl; exact hxy (by rw [HX.out, HY.out])))
          clear hxy
          go_wp2
          go_quiet (fail)
          go_wp2
          go_ret
          exact ⟨ret_bool HD.out.symm, by rw [World.drewN_drewN]; exact below_drewN (Below.refl _ _) _⟩
      · obtain rfl : k = n := by omega
        have HD := hid (show decide (xs = ys) = true from decide_eq_true (ext_getDg 0 hL.out hL'.out HA.out))
        clear hx hy
        go_wp2
        go_ret
        exact ⟨ret_bool HD.out.symm, below_drewN (Below.refl _ _) _⟩
  · have HD := hid (show decide (xs = ys) = false from decide_eq_false (by rintro rfl; exact hnm (hx.len.symm.trans hy.len)))
    have e1 : ((n : Int) != (m : Int)) = true := by simp; omega
    clear hnm
    go_enter Tryz.func15, Tryz.ntmps15
    go_wp2
    go_ret
    exact ⟨ret_bool HD.out.symm, Below.refl _ _⟩

set_option maxHeartbeats 1000000 in
theorem equal_bool (A B : Option Addr) (n c m c' lo hi lo' hi' : Nat) (xs ys : List _) (w : World) (hx : Sl blv false w lo hi A n xs) (hy : Sl blv false w lo' hi' B m ys) (hn : n ≤ 1000000) (hm : m ≤ 1000000) :
    Calls Tryz.prog 101 #[.slice A n c, .slice B m c'] w fun e w' => e = .returned (.bool (decide (xs = ys))) ∧ Below w.heap.size w w' := by
  by_cases hnm : n = m
  · subst hnm
    go_enter Tryz.func101, Tryz.ntmps101
    go_wp2
    go_loopw [13] (fun i wr => ∃ k q : Nat, k ≤ n ∧ i = .int .i64 k ∧ (∀ j, j < k → xs[j]?.getD false = ys[j]?.getD false) ∧ wr = w.drewN q) (fun i _ => n - (intOf i).toNat)
    case atStart => exact ⟨0, 0, Nat.zero_le _, rfl, fun j hj => absurd hj (Nat.not_lt_zero _), rfl⟩
    case round =>
      obtain ⟨k, q, hk, rfl, hall, rfl⟩ := hrel
      have HA := hid hall; clear hall
      have hL := hid hx.len; have hL' := hid hy.len
      by_cases hlt : k < n
      · obtain ⟨b, off, rfl, _, _, hc1⟩ := hx.row (by omega)
        obtain ⟨b', off', rfl, _, _, hc2⟩ := hy.row (by omega)
        clear hx hy
        have g1 := hc1 k hlt
        have g2 := hc2 k hlt
        clear hc1 hc2
        obtain ⟨x, hX⟩ : ∃ x, x = xs[k]?.getD false := ⟨_, rfl⟩
        obtain ⟨y, hY⟩ : ∃ y, y = ys[k]?.getD false := ⟨_, rfl⟩
        rw [← hX] at g1
        rw [← hY] at g2
        have HX := hid hX; have HY := hid hY
        clear hX hY
        by_cases hxy : x = y
        · have e1 : (x != y) = false := by simp [hxy]
          have e2 : (x == y) = true := by simp [hxy]
          have HXY := hid hxy
          clear hxy
          go_wp2
          go_quiet (fail)
          go_wp2
          go_roundw
          case rel => exact ⟨k + 1, _, by omega, by go_num, below_succ HA.out (by rw [← HX.out, ← HY.out]; exact HXY.out), rfl⟩
          case measure => simp [intOf]; omega
        · have e1 : (x != y) = true := by simp [hxy]
          have e2 : (x == y) = false := by simp [hxy]
          have HD := hid (show decide (xs = ys) = false from decide_eq_false (by rintro rfl; exact hxy (by rw [HX.out, HY.out])))
          clear hxy
          go_wp2
          go_quiet (fail)
          go_wp2
          go_ret
          exact ⟨ret_bool HD.out.symm, by rw [World.drewN_drewN]; exact below_drewN (Below.refl _ _) _⟩
      · obtain rfl : k = n := by omega
        have HD := hid (show decide (xs = ys) = true from decide_eq_true (ext_getDg false hL.out hL'.out HA.out))
        clear hx hy
        go_wp2
        go_ret
        exact ⟨ret_bool HD.out.symm, below_drewN (Below.refl _ _) _⟩
  · have HD := hid (show decide (xs = ys) = false from decide_eq_false (by rintro rfl; exact hnm (hx.len.symm.trans hy.len)))
    have e1 : ((n : Int) != (m : Int)) = true := by simp; omega
    clear hnm
    go_enter Tryz.func101, Tryz.ntmps101
    go_wp2
    go_ret
    exact ⟨ret_bool HD.out.symm, Below.refl _ _⟩

end Go.Proofs.YtfipdoofgbjbjaaGreat

/- General words, seventh part: an append onto an owned row as one step of a region that draws its order. No condition. -/
namespace Go.Proofs.YtfipdoofgbjbjaaGreat
open Go.RowKit
/-- the run of an append onto an owned row -/
theorem run_app {P : Program} {α : Type} (enc : α → Value) (d : α) (w : World) (t ty : TypeId)
    (base : Nat) (e : TypeId) (i : TypeInfo) (z : Value) (bytes : Nat) (ht : P.underlying t = some (.slice e)) (hi : P.info? e = some i) (hz : i.zero = some z)
    (hsize : i.size = 1) (hby : i.bytes = bytes) (hzs : z.cells.size = 1)
    (A0 : Option Addr) (n c0 : Nat) (xs : List α) (hown : Ow enc w base e A0 n c0 xs)
    (lo hi' : Nat) (A : Option Addr) (m c : Nat) (ys : List α) (hr : Sl enc d w lo hi' A m ys) (h1 : ∀ y, (enc y).oneCell' = true)
    (h63 : n + m ≤ maxLen) (hbytes : (n + m) * bytes ≤ 140737488355328) (hbase : base ≤ w.heap.size) :
    ∃ A' c' w', (Builtin.append_ #[t, t] ty #[.slice A0 n c0, .slice A m c]).run P w = .ok (.slice A' (n + m) c') w' ∧ Ow enc w' base e A' (n + m) c' (xs ++ ys) ∧ w.grownBy w' (Value.slice A0 n c0).ownBlock ∧ ((Value.slice A' (n + m) c').ownBlock = (Value.slice A0 n c0).ownBlock ∨ (Value.slice A' (n + m) c').ownBlock = some w.heap.size) := by
  have hform : ∀ (v' : Value) (w' : World), w'.ownsRow base e 1 v' (n + m) ((xs ++ ys).map enc) → ∃ (A' : Option Addr) (c' : Nat), v' = Value.slice A' (n + m) c' := by
    intro v' w' ho
    rcases ho.2 with ⟨rfl, h0⟩ | ⟨g, cap, cur, rfl, _⟩
    · rw [h0]; exact ⟨_, _, rfl⟩
    · exact ⟨_, _, rfl⟩
  rcases A with _ | ad
  · obtain ⟨rfl, rfl⟩ := hr.none_
    refine ⟨A0, c0, w, ?_, by simpa using hown, World.grownBy.refl w _, .inl rfl⟩
    rcases hown.own.2 with ⟨hv, h0⟩ | ⟨g, cap, cur, hv, _, _, hnc, _⟩
    · simp only [Value.slice.injEq] at hv
      obtain ⟨rfl, rfl, rfl⟩ := hv
      simp [Builtin.append_, run_underlying ht, sizeOf, typeInfo, hi, Builtin.lenOf, Builtin.firstCells]
    · simp only [Value.slice.injEq] at hv
      obtain ⟨rfl, _, rfl⟩ := hv
      simp [Builtin.append_, run_underlying ht, sizeOf, typeInfo, hi, Builtin.lenOf, Builtin.firstCells, hnc, storeCells]
  · have hnews : ∀ j u, (ys.map enc)[j]? = some u → w.cell? (ad.add j) = some u := by
      intro j u hu
      have hj : j < m := by have := (List.getElem?_eq_some_iff.1 hu).1; rw [List.length_map, hr.len] at this; exact this
      obtain ⟨b, off, he, _, _, hc⟩ := hr.row (by omega)
      obtain rfl := Option.some.inj he
      rw [Addr.add_lit, hc j hj, ← hu, List.getElem?_map, List.getElem?_eq_getElem (by rw [hr.len]; exact hj)]
      rfl
    obtain ⟨v', w', hrun, h2, h3, _, h5⟩ := run_append_own_at (P := P) w base t ty e i z 1 bytes ht hi hz hsize hby hzs (by omega) (.slice A0 n c0) n (xs.map enc) hown.own ad m c (ys.map enc) (by rw [List.length_map, hr.len, Nat.mul_one]) hnews
      (fun u hu => by obtain ⟨y, _, rfl⟩ := List.mem_map.1 hu; exact h1 y) h63 hbytes hbase
    rw [← List.map_append] at h2
    obtain ⟨A', c', rfl⟩ := hform v' w' h2
    exact ⟨A', c', w', hrun, ⟨by rw [List.length_append, hown.len, hr.len], h2⟩, h3, h5⟩
/-- as one step of a region that draws: go_region_held3's arms take it -/
theorem step_app {P : Program} {α : Type} (enc : α → Value) (d : α) (w : World) {ops : Array Oper} {o : Oper} {a : Act} {K : Act → World → Prop} {Q : Exit → Act → World → Prop} {E : Prop} (hg : o.guard = none) (s x : Operand) (t : TypeId)
    (hop : o.op = .call { callee := .builtin .append, args := #[s, x], argTypes := #[t, t] })
    (base : Nat) (e : TypeId) (i : TypeInfo) (z : Value) (bytes : Nat) (ht : P.underlying t = some (.slice e)) (hi : P.info? e = some i) (hz : i.zero = some z)
    (hsize : i.size = 1) (hby : i.bytes = bytes) (hzs : z.cells.size = 1)
    (A0 : Option Addr) (n c0 : Nat) (xs : List α) (hs : a.eval s = .slice A0 n c0) (hown : Ow enc w base e A0 n c0 xs)
    (lo hi' : Nat) (A : Option Addr) (m c : Nat) (ys : List α) (hx : a.eval x = .slice A m c) (hr : Sl enc d w lo hi' A m ys) (h1 : ∀ y, (enc y).oneCell' = true)
    (h63 : n + m ≤ maxLen) (hbytes : (n + m) * bytes ≤ 140737488355328) (hbase : base ≤ w.heap.size)
    (hK : ∀ A' c' w', Ow enc w' base e A' (n + m) c' (xs ++ ys) → w.grownBy w' (Value.slice A0 n c0).ownBlock → ((Value.slice A' (n + m) c').ownBlock = (Value.slice A0 n c0).ownBlock ∨ (Value.slice A' (n + m) c').ownBlock = some w.heap.size) →
      K (a.put o.dst (.slice A' (n + m) c')) w') :
    if Region.wanted o (yielded ops a.tmps) = true then Oper.wp P o a w K Q else E := by
  have hw : Region.wanted o (yielded ops a.tmps) = true := by simp [Region.wanted, hg]
  rw [if_pos hw]
  obtain ⟨A', c', w', hrun, k1, k2, k3⟩ := run_app enc d w t o.type base e i z bytes ht hi hz hsize hby hzs A0 n c0 xs hown lo hi' A m c ys hr h1 h63 hbytes hbase
  unfold Oper.wp
  simp [execOp, hop, resolve, invoke, builtin, hs, hx, hrun, Result.andThen]
  exact hK A' c' w' k1 k2 k3

end Go.Proofs.YtfipdoofgbjbjaaGreat

/- General words: rows of structures that are owned; appends onto them. No condition. -/
namespace Go.Proofs.YtfipdoofgbjbjaaGreat
open Go.RowKit
def cellsOf {α : Type} (sz : Nat) (enc : α → Nat → Value) (x : α) : List Value := (List.range sz).map (enc x)
def flat {α : Type} (sz : Nat) (enc : α → Nat → Value) (xs : List α) : List Value := xs.flatMap (cellsOf sz enc)
theorem cellsOf_length {α : Type} (sz : Nat) (enc : α → Nat → Value) (x : α) : (cellsOf sz enc x).length = sz := by simp [cellsOf]
theorem flat_append {α : Type} (sz : Nat) (enc : α → Nat → Value) (xs ys : List α) : flat sz enc (xs ++ ys) = flat sz enc xs ++ flat sz enc ys := by simp [flat]
theorem flat_cons {α : Type} (sz : Nat) (enc : α → Nat → Value) (x : α) (xs : List α) : flat sz enc (x :: xs) = cellsOf sz enc x ++ flat sz enc xs := rfl
theorem flat_length {α : Type} (sz : Nat) (enc : α → Nat → Value) (xs : List α) : (flat sz enc xs).length = xs.length * sz := by
  induction xs with
  | nil => simp [flat]
  | cons x xs ih => rw [flat_cons, List.length_append, ih, cellsOf_length, List.length_cons, Nat.succ_mul, Nat.add_comm]
theorem flat_get {α : Type} {sz : Nat} {enc : α → Nat → Value} (d : α) : ∀ (xs : List α) (k j : Nat), k < xs.length → j < sz → (flat sz enc xs)[k * sz + j]? = some (enc (xs[k]?.getD d) j)
  | [], _, _, hk, _ => by simp at hk
  | x :: xs, 0, j, _, hj => by
    rw [flat_cons, List.getElem?_append_left (by rw [cellsOf_length]; omega)]
    simp [cellsOf, hj]
  | x :: xs, k + 1, j, hk, hj => by
    have e : (k + 1) * sz + j = sz + (k * sz + j) := by rw [Nat.succ_mul]; omega
    rw [flat_cons, e, List.getElem?_append_right (by rw [cellsOf_length]; omega), cellsOf_length, Nat.add_sub_cancel_left, flat_get d xs k j (by simpa using hk) hj]
    rfl
theorem flat_idx {sz n j : Nat} (hj : j < n * sz) : ∃ k i, k < n ∧ i < sz ∧ j = k * sz + i := by
  have hsz : 0 < sz := by
    rcases Nat.eq_zero_or_pos sz with h | h
    · subst h; simp at hj
    · exact h
  refine ⟨j / sz, j % sz, Nat.div_lt_of_lt_mul (by rwa [Nat.mul_comm]), Nat.mod_lt _ hsz, ?_⟩
  have := Nat.div_add_mod j sz
  rw [Nat.mul_comm] at this
  omega
/-- a row of structures that is owned -/
structure Om {α : Type} (sz : Nat) (enc : α → Nat → Value) (w : World) (lo : Nat) (e : TypeId) (A : Option Addr) (n c : Nat) (xs : List α) : Prop where
  len : xs.length = n
  own : w.ownsRow lo e sz (.slice A n c) n (flat sz enc xs)
section
variable {α : Type} {sz : Nat} {enc : α → Nat → Value} {d : α} {w w' : World} {lo lo' B : Nat} {e : TypeId} {A : Option Addr} {n c : Nat} {xs : List α}
theorem Om.cap (h : Om sz enc w lo e A n c xs) : n ≤ c ∧ c ≤ maxLen := by
  rcases h.own.2 with ⟨hv, h0⟩ | ⟨g, cap, cur, hv, _, _, h1, h2, _⟩
  · simp only [Value.slice.injEq] at hv; obtain ⟨_, rfl, rfl⟩ := hv; exact ⟨Nat.le_refl _, by simp [maxLen]⟩
  · simp only [Value.slice.injEq] at hv; obtain ⟨_, _, rfl⟩ := hv; exact ⟨h1, h2⟩
theorem Om.sm (h : Om sz enc w lo e A n c xs) : Sm sz enc d w lo w.heap.size A n xs := by
  refine ⟨h.len, fun hn => ?_⟩
  obtain ⟨g, cap, hv, hlo, hhi⟩ := h.own.form hn
  simp only [Value.slice.injEq] at hv
  obtain ⟨rfl, _, rfl⟩ := hv
  refine ⟨g, 0, rfl, hlo, hhi, fun k hk j hj => ?_⟩
  have hkj : k * sz + j < n * sz := by
    have : (k + 1) * sz ≤ n * sz := Nat.mul_le_mul_right _ hk
    rw [Nat.succ_mul] at this; omega
  rw [Nat.zero_add, h.own.cellAt _ hkj, flat_get d xs k j (by rw [h.len]; exact hk) hj]
theorem Om.nil (w : World) (lo : Nat) (e : TypeId) : Om sz enc w lo e none 0 0 [] := ⟨rfl, World.ownsRow_nil w lo e sz⟩
theorem Om.below (h : Om sz enc w lo e A n c xs) (hb : Below w.heap.size w w') : Om sz enc w' lo e A n c xs := by
  refine ⟨h.len, h.own.1, ?_⟩
  rcases h.own.2 with hh | ⟨g, cap, cur, hv, hb1, hg, r⟩
  · exact .inl hh
  · exact .inr ⟨g, cap, cur, hv, hb1, (hb.block g (Array.getElem?_eq_some_iff.1 hg).1).trans hg, r⟩
theorem Om.step (h : Om sz enc w lo e A n c xs) (hb : Below w.heap.size w w') : Om sz enc w' lo e A n c xs := h.below hb
theorem Om.mono (h : Om sz enc w lo e A n c xs) (h1 : lo' ≤ lo) : Om sz enc w lo' e A n c xs := by
  refine ⟨h.len, h.own.1, ?_⟩
  rcases h.own.2 with hh | ⟨g, cap, cur, hv, hb1, r⟩
  · exact .inl hh
  · exact .inr ⟨g, cap, cur, hv, by omega, r⟩
theorem Om.alloc (h : Om sz enc w lo e A n c xs) (o : Obj) : Om sz enc (w.alloc o) lo e A n c xs := ⟨h.len, h.own.alloc o⟩
theorem Om.drewN (h : Om sz enc w lo e A n c xs) (k : Nat) : Om sz enc (w.drewN k) lo e A n c xs := ⟨h.len, h.own⟩
theorem Om.drew (h : Om sz enc w lo e A n c xs) : Om sz enc w.drew lo e A n c xs := ⟨h.len, h.own⟩
theorem Om.setCell (h : Om sz enc w lo e A n c xs) {p : Addr} (hp : p.block < lo) (u : Value) : Om sz enc (w.setCell p u) lo e A n c xs := ⟨h.len, ownsRow_setCell_below h.own hp u⟩
theorem Om.row_ge (h : Om sz enc w lo e A n c xs) : ∀ k, (Value.slice A n c).ownBlock = some k → lo ≤ k := fun k hk => (h.own.lt k hk).1
theorem Om.ne_row (h : Om sz enc w lo e A n c xs) {g : Nat} (hg : g < lo) : some g ≠ (Value.slice A n c).ownBlock := fun he => by
  have := h.row_ge g he.symm; omega
end
/-- the run of an append onto an owned row of structures -/
theorem run_appm {P : Program} {α : Type} (sz : Nat) (enc : α → Nat → Value) (d : α) (w : World) (t ty : TypeId)
    (base : Nat) (e : TypeId) (i : TypeInfo) (z : Value) (bytes : Nat) (ht : P.underlying t = some (.slice e)) (hi : P.info? e = some i) (hz : i.zero = some z)
    (hsize : i.size = sz) (hby : i.bytes = bytes) (hzs : z.cells.size = sz) (hsz : 0 < sz)
    (A0 : Option Addr) (n c0 : Nat) (xs : List α) (hown : Om sz enc w base e A0 n c0 xs)
    (lo hi' : Nat) (A : Option Addr) (m c : Nat) (ys : List α) (hr : Sm sz enc d w lo hi' A m ys) (h1 : ∀ y j, j < sz → (enc y j).oneCell' = true)
    (h63 : n + m ≤ maxLen) (hbytes : (n + m) * bytes ≤ 140737488355328) (hbase : base ≤ w.heap.size) :
    ∃ A' c' w', (Builtin.append_ #[t, t] ty #[.slice A0 n c0, .slice A m c]).run P w = .ok (.slice A' (n + m) c') w' ∧ Om sz enc w' base e A' (n + m) c' (xs ++ ys) ∧ w.grownBy w' (Value.slice A0 n c0).ownBlock ∧ ((Value.slice A' (n + m) c').ownBlock = (Value.slice A0 n c0).ownBlock ∨ (Value.slice A' (n + m) c').ownBlock = some w.heap.size) := by
  have hform : ∀ (v' : Value) (w' : World), w'.ownsRow base e sz v' (n + m) (flat sz enc (xs ++ ys)) → ∃ (A' : Option Addr) (c' : Nat), v' = Value.slice A' (n + m) c' := by
    intro v' w' ho
    rcases ho.2 with ⟨rfl, h0⟩ | ⟨g, cap, cur, rfl, _⟩
    · rw [h0]; exact ⟨_, _, rfl⟩
    · exact ⟨_, _, rfl⟩
  by_cases hm : m = 0
  · subst hm
    obtain rfl : ys = [] := List.eq_nil_of_length_eq_zero hr.len
    refine ⟨A0, c0, w, ?_, by simpa using hown, World.grownBy.refl w _, .inl rfl⟩
    rcases hown.own.2 with ⟨hv, h0⟩ | ⟨g, cap, cur, hv, _, _, hnc, _⟩
    · simp only [Value.slice.injEq] at hv
      obtain ⟨rfl, rfl, rfl⟩ := hv
      cases A <;> simp [Builtin.append_, run_underlying ht, sizeOf, typeInfo, hi, Builtin.lenOf, Builtin.firstCells, loadCells, loadCellsFrom]
    · simp only [Value.slice.injEq] at hv
      obtain ⟨rfl, _, rfl⟩ := hv
      cases A <;> simp [Builtin.append_, run_underlying ht, sizeOf, typeInfo, hi, Builtin.lenOf, Builtin.firstCells, hnc, storeCells, loadCells, loadCellsFrom]
  · obtain ⟨b, off, rfl, _, _, hc⟩ := hr.row (by omega)
    have hnews : ∀ j u, (flat sz enc ys)[j]? = some u → w.cell? ((⟨b, off, none⟩ : Addr).add j) = some u := by
      intro j u hu
      have hj : j < m * sz := by have := (List.getElem?_eq_some_iff.1 hu).1; rwa [flat_length, hr.len] at this
      obtain ⟨k, i, hk, hi2, rfl⟩ := flat_idx hj
      rw [flat_get d ys k i (by rw [hr.len]; exact hk) hi2] at hu
      rw [Addr.add_lit, ← hu, ← hc k hk i hi2, Nat.add_assoc]
    obtain ⟨v', w', hrun, h2, h3, _, h5⟩ := run_append_own_at (P := P) w base t ty e i z sz bytes ht hi hz hsize hby hzs hsz (.slice A0 n c0) n (flat sz enc xs) hown.own ⟨b, off, none⟩ m c (flat sz enc ys) (by rw [flat_length, hr.len]) hnews
      (fun u hu => by
        obtain ⟨j, hj, rfl⟩ := List.getElem_of_mem hu
        have hj' : j < m * sz := by rwa [flat_length, hr.len] at hj
        obtain ⟨k, i, hk, hi2, rfl⟩ := flat_idx hj'
        have := flat_get (enc := enc) d ys k i (by rw [hr.len]; exact hk) hi2
        rw [List.getElem?_eq_getElem hj] at this
        rw [Option.some.inj this]
        exact h1 _ _ hi2) h63 hbytes hbase
    rw [← flat_append] at h2
    obtain ⟨A', c', rfl⟩ := hform v' w' h2
    exact ⟨A', c', w', hrun, ⟨by rw [List.length_append, hown.len, hr.len], h2⟩, h3, h5⟩
theorem step_appm {P : Program} {α : Type} (sz : Nat) (enc : α → Nat → Value) (d : α) (w : World) {ops : Array Oper} {o : Oper} {a : Act} {K : Act → World → Prop} {Q : Exit → Act → World → Prop} {E : Prop} (hg : o.guard = none) (s x : Operand) (t : TypeId)
    (hop : o.op = .call { callee := .builtin .append, args := #[s, x], argTypes := #[t, t] })
    (base : Nat) (e : TypeId) (i : TypeInfo) (z : Value) (bytes : Nat) (ht : P.underlying t = some (.slice e)) (hi : P.info? e = some i) (hz : i.zero = some z)
    (hsize : i.size = sz) (hby : i.bytes = bytes) (hzs : z.cells.size = sz) (hsz : 0 < sz)
    (A0 : Option Addr) (n c0 : Nat) (xs : List α) (hs : a.eval s = .slice A0 n c0) (hown : Om sz enc w base e A0 n c0 xs)
    (lo hi' : Nat) (A : Option Addr) (m c : Nat) (ys : List α) (hx : a.eval x = .slice A m c) (hr : Sm sz enc d w lo hi' A m ys) (h1 : ∀ y j, j < sz → (enc y j).oneCell' = true)
    (h63 : n + m ≤ maxLen) (hbytes : (n + m) * bytes ≤ 140737488355328) (hbase : base ≤ w.heap.size)
    (hK : ∀ A' c' w', Om sz enc w' base e A' (n + m) c' (xs ++ ys) → w.grownBy w' (Value.slice A0 n c0).ownBlock → ((Value.slice A' (n + m) c').ownBlock = (Value.slice A0 n c0).ownBlock ∨ (Value.slice A' (n + m) c').ownBlock = some w.heap.size) →
      K (a.put o.dst (.slice A' (n + m) c')) w') :
    if Region.wanted o (yielded ops a.tmps) = true then Oper.wp P o a w K Q else E := by
  have hw : Region.wanted o (yielded ops a.tmps) = true := by simp [Region.wanted, hg]
  rw [if_pos hw]
  obtain ⟨A', c', w', hrun, k1, k2, k3⟩ := run_appm sz enc d w t o.type base e i z bytes ht hi hz hsize hby hzs hsz A0 n c0 xs hown lo hi' A m c ys hr h1 h63 hbytes hbase
  unfold Oper.wp
  simp [execOp, hop, resolve, invoke, builtin, hs, hx, hrun, Result.andThen]
  exact hK A' c' w' k1 k2 k3
theorem wpList_appm {P : Program} {α : Type} (sz : Nat) (enc : α → Nat → Value) (d : α) (w : World) {ops : Array Oper} {rest : List Oper} {o : Oper} {a : Act} {Q : Exit → Act → World → Prop} (hgd : o.guard = none) (s x : Operand) (t : TypeId)
    (ho : o.op = .call { callee := .builtin .append, args := #[s, x], argTypes := #[t, t] })
    (base : Nat) (e : TypeId) (i : TypeInfo) (z : Value) (bytes : Nat) (ht : P.underlying t = some (.slice e)) (hi : P.info? e = some i) (hz : i.zero = some z)
    (hsize : i.size = sz) (hby : i.bytes = bytes) (hzs : z.cells.size = sz) (hsz : 0 < sz)
    (A0 : Option Addr) (n c0 : Nat) (xs : List α) (hs : a.eval s = .slice A0 n c0) (hown : Om sz enc w base e A0 n c0 xs)
    (lo hi' : Nat) (A : Option Addr) (m c : Nat) (ys : List α) (hx : a.eval x = .slice A m c) (hr : Sm sz enc d w lo hi' A m ys) (h1 : ∀ y j, j < sz → (enc y j).oneCell' = true)
    (h63 : n + m ≤ maxLen) (hbytes : (n + m) * bytes ≤ 140737488355328) (hbase : base ≤ w.heap.size)
    (h : ∀ A' c' w', Om sz enc w' base e A' (n + m) c' (xs ++ ys) → w.grownBy w' (Value.slice A0 n c0).ownBlock → ((Value.slice A' (n + m) c').ownBlock = (Value.slice A0 n c0).ownBlock ∨ (Value.slice A' (n + m) c').ownBlock = some w.heap.size) →
      wpList P ops Q rest (a.put o.dst (.slice A' (n + m) c')) w') :
    wpList P ops Q (o :: rest) a w := by
  refine wpList_plain hgd fun K hK => ?_
  obtain ⟨A', c', w', hrun, k1, k2, k3⟩ := run_appm sz enc d w t o.type base e i z bytes ht hi hz hsize hby hzs hsz A0 n c0 xs hown lo hi' A m c ys hr h1 h63 hbytes hbase
  unfold Oper.wp
  simp [execOp, ho, resolve, invoke, builtin, hs, hx, hrun, Result.andThen]
  exact hK _ _ (h A' c' w' k1 k2 k3)
end Go.Proofs.YtfipdoofgbjbjaaGreat

/- General words: owned rows, and blocks of another type. No condition. -/
namespace Go.Proofs.YtfipdoofgbjbjaaGreat
open Go.RowKit
section
variable {α : Type} {enc : α → Value} {w w' : World} {lo : Nat} {e : TypeId} {A : Option Addr} {n c : Nat} {xs : List α}
theorem Ow.blk (h : Ow enc w lo e A n c xs) : ∀ a, A = some a → lo ≤ a.block ∧ ∃ cs, Blk w a.block e cs := by
  intro a ha
  rcases h.own.2 with ⟨hv, h0⟩ | ⟨g, cap, cur, hv, hb1, hg, r⟩
  · simp only [Value.slice.injEq] at hv; obtain ⟨rfl, _⟩ := hv; cases ha
  · simp only [Value.slice.injEq] at hv; obtain ⟨rfl, _⟩ := hv; cases ha; exact ⟨hb1, cur, hg⟩
theorem Ow.ne_blk (h : Ow enc w lo e A n c xs) {g : Nat} {t : TypeId} {cs : Array Value} (hb : Blk w g t cs) (hne : t ≠ e) : ∀ a, A = some a → a.block ≠ g := by
  rintro a ha rfl
  obtain ⟨_, cs', h'⟩ := h.blk a ha
  unfold Blk at hb h'
  rw [hb] at h'
  simp only [Option.some.injEq, Obj.cells.injEq] at h'
  exact hne h'.2.1
/-- the row's block alone matters -/
theorem Ow.same (h : Ow enc w lo e A n c xs) (hs : ∀ a, A = some a → w'.heap[a.block]? = w.heap[a.block]?) : Ow enc w' lo e A n c xs := by
  refine ⟨h.len, h.own.1, ?_⟩
  rcases h.own.2 with hh | ⟨g, cap, cur, hv, hb1, hg, r⟩
  · exact .inl hh
  · refine .inr ⟨g, cap, cur, hv, hb1, ?_, r⟩
    simp only [Value.slice.injEq] at hv
    exact (hs ⟨g, 0, none⟩ hv.1).trans hg
theorem Ow.keptG {row : Option Nat} (h : Ow enc w lo e A n c xs) (hg : w.grownBy w' row) (hr : ∀ a, A = some a → some a.block ≠ row) : Ow enc w' lo e A n c xs :=
  h.same fun a ha => by
    obtain ⟨_, cs, hb⟩ := h.blk a ha
    exact hg.block _ hb.lt (hr a ha)
end
section
variable {α : Type} {sz : Nat} {enc : α → Nat → Value} {w w' : World} {lo : Nat} {e : TypeId} {A : Option Addr} {n c : Nat} {xs : List α}
theorem Om.blk (h : Om sz enc w lo e A n c xs) : ∀ a, A = some a → lo ≤ a.block ∧ ∃ cs, Blk w a.block e cs := by
  intro a ha
  rcases h.own.2 with ⟨hv, h0⟩ | ⟨g, cap, cur, hv, hb1, hg, r⟩
  · simp only [Value.slice.injEq] at hv; obtain ⟨rfl, _⟩ := hv; cases ha
  · simp only [Value.slice.injEq] at hv; obtain ⟨rfl, _⟩ := hv; cases ha; exact ⟨hb1, cur, hg⟩
theorem Om.ne_blk (h : Om sz enc w lo e A n c xs) {g : Nat} {t : TypeId} {cs : Array Value} (hb : Blk w g t cs) (hne : t ≠ e) : ∀ a, A = some a → a.block ≠ g := by
  rintro a ha rfl
  obtain ⟨_, cs', h'⟩ := h.blk a ha
  unfold Blk at hb h'
  rw [hb] at h'
  simp only [Option.some.injEq, Obj.cells.injEq] at h'
  exact hne h'.2.1
theorem Om.same (h : Om sz enc w lo e A n c xs) (hs : ∀ a, A = some a → w'.heap[a.block]? = w.heap[a.block]?) : Om sz enc w' lo e A n c xs := by
  refine ⟨h.len, h.own.1, ?_⟩
  rcases h.own.2 with hh | ⟨g, cap, cur, hv, hb1, hg, r⟩
  · exact .inl hh
  · refine .inr ⟨g, cap, cur, hv, hb1, ?_, r⟩
    simp only [Value.slice.injEq] at hv
    exact (hs ⟨g, 0, none⟩ hv.1).trans hg
theorem Om.keptG {row : Option Nat} (h : Om sz enc w lo e A n c xs) (hg : w.grownBy w' row) (hr : ∀ a, A = some a → some a.block ≠ row) : Om sz enc w' lo e A n c xs :=
  h.same fun a ha => by
    obtain ⟨_, cs, hb⟩ := h.blk a ha
    exact hg.block _ hb.lt (hr a ha)
theorem Om.at_ (h : Om sz enc w lo e A n c xs) (d : α) {k : Nat} (hk : k < n) : ∃ g, A = some ⟨g, 0, none⟩ ∧ lo ≤ g ∧ g < w.heap.size ∧ (∀ j, j < sz → w.cell? ⟨g, k * sz + j, none⟩ = some (enc (xs[k]?.getD d) j)) ∧ ∀ i, w.frozen? ⟨g, i, none⟩ = false := by
  obtain ⟨g, cap, hv, hlo, hhi⟩ := h.own.form (by omega)
  simp only [Value.slice.injEq] at hv
  obtain ⟨rfl, _, rfl⟩ := hv
  refine ⟨g, rfl, hlo, hhi, fun j hj => ?_, fun i => h.own.frozenAt i⟩
  have hkj : k * sz + j < n * sz := by
    have : (k + 1) * sz ≤ n * sz := Nat.mul_le_mul_right _ hk
    rw [Nat.succ_mul] at this; omega
  rw [h.own.cellAt _ hkj, flat_get d xs k j (by rw [h.len]; exact hk) hj]
end
theorem flat_set2 {α : Type} (enc : α → Nat → Value) : ∀ (xs : List α) (i : Nat) (s : α), flat 2 enc (xs.set i s) = if i < xs.length then ((flat 2 enc xs).set (i * 2) (enc s 0)).set (i * 2 + 1) (enc s 1) else flat 2 enc xs
  | [], i, s => by simp [flat]
  | x :: xs, 0, s => by simp [flat, cellsOf, List.range_succ]
  | x :: xs, i + 1, s => by
    have ih := flat_set2 enc xs i s
    rw [List.set_cons_succ, flat_cons, flat_cons, ih]
    have hc : cellsOf 2 enc x = [enc x 0, enc x 1] := rfl
    rw [hc, show (i + 1) * 2 = i * 2 + 1 + 1 by omega, show i * 2 + 1 + 1 + 1 = (i * 2 + 1) + 1 + 1 by omega]
    by_cases h : i < xs.length
    · rw [if_pos h, if_pos (by simp; omega)]
      rfl
    · rw [if_neg h, if_neg (by simp; omega)]
/-- a block that is laid gives the world a name -/
theorem named_alloc {K : World → Prop} {W : World} {t : TypeId} {cs : Array Value} (h : ∀ Wn : World, Blk Wn W.heap.size t cs → Below W.heap.size W Wn → Wn.heap.size = W.heap.size + 1 → K Wn) : K (W.alloc (.cells cs t)) :=
  h _ (Blk.new W t cs) (below_box W _) (by simp)
theorem grown_set {W Wn : World} {g : Nat} (h : W.grownBy Wn (some g)) (k : Nat) (u : Value) : W.grownBy (Wn.setCell ⟨g, k, none⟩ u) (some g) :=
  ⟨h.os, h.tape, h.output, by simpa using h.size, fun i hi hne => (Below.heap_setCell Wn ⟨g, k, none⟩ u i (fun e => hne (by rw [e]))).trans (h.block i hi hne)⟩
theorem named_store2 {K : World → Prop} {W : World} {g : Nat} {t : TypeId} {a0 b0 a b : Value} (hb : Blk W g t #[a0, b0]) (h : ∀ Wn : World, Blk Wn g t #[a, b] → W.grownBy Wn (some g) → Wn.heap.size = W.heap.size → K Wn) : K ((W.setCell ⟨g, 0, none⟩ a).setCell ⟨g, 1, none⟩ b) :=
  h _ ((hb.setCell 0 a).setCell 1 b) (grown_set (grown_set (World.grownBy.refl W (some g)) 0 a) 1 b) (by simp)
theorem named_store4 {K : World → Prop} {W : World} {g : Nat} {t : TypeId} {a0 b0 c0 d0 a b c d : Value} (hb : Blk W g t #[a0, b0, c0, d0]) (h : ∀ Wn : World, Blk Wn g t #[a, b, c, d] → W.grownBy Wn (some g) → Wn.heap.size = W.heap.size → K Wn) : K ((((W.setCell ⟨g, 0, none⟩ a).setCell ⟨g, 1, none⟩ b).setCell ⟨g, 2, none⟩ c).setCell ⟨g, 3, none⟩ d) :=
  h _ ((((hb.setCell 0 a).setCell 1 b).setCell 2 c).setCell 3 d) (grown_set (grown_set (grown_set (grown_set (World.grownBy.refl W (some g)) 0 a) 1 b) 2 c) 3 d) (by simp)
end Go.Proofs.YtfipdoofgbjbjaaGreat

/- General words: a copy of cells onto cells that hold the same; rows of structures that are made. No condition. -/
namespace Go.Proofs.YtfipdoofgbjbjaaGreat
open Go.RowKit
/-! ### what an append onto an owned row leaves as it was -/
theorem own_addr {A : Option Addr} {n c k : Nat} (h : (Value.slice A n c).ownBlock = some k) : ∃ a, A = some a ∧ a.block = k := by
  cases A with
  | none => simp [Value.ownBlock] at h
  | some a => exact ⟨a, rfl, by simpa [Value.ownBlock] using h⟩
section
variable {α β : Type} {sz : Nat} {encM : α → Nat → Value} {enc : α → Value} {encB : β → Value} {w w' : World} {lo lo2 : Nat} {e e2 : TypeId} {A A2 : Option Addr} {n c n2 c2 : Nat} {xs : List α} {ys : List β}
theorem Blk.keptM {g : Nat} {t : TypeId} {cs : Array Value} (hb : Blk w g t cs) (h : Om sz encM w lo e A n c xs) (hne : t ≠ e) (hg : w.grownBy w' (Value.slice A n c).ownBlock) : Blk w' g t cs :=
  hb.grown hg fun he => by obtain ⟨a, ha, hk⟩ := own_addr he.symm; exact h.ne_blk hb hne a ha hk
theorem Blk.keptO {g : Nat} {t : TypeId} {cs : Array Value} (hb : Blk w g t cs) (h : Ow enc w lo e A n c xs) (hne : t ≠ e) (hg : w.grownBy w' (Value.slice A n c).ownBlock) : Blk w' g t cs :=
  hb.grown hg fun he => by obtain ⟨a, ha, hk⟩ := own_addr he.symm; exact h.ne_blk hb hne a ha hk
theorem Ow.keptM (h2 : Ow encB w lo2 e2 A2 n2 c2 ys) (h : Om sz encM w lo e A n c xs) (hne : e2 ≠ e) (hg : w.grownBy w' (Value.slice A n c).ownBlock) : Ow encB w' lo2 e2 A2 n2 c2 ys :=
  h2.keptG hg fun a ha he => by
    obtain ⟨_, cs, hb⟩ := h2.blk a ha
    obtain ⟨a', ha', hk⟩ := own_addr he.symm
    exact h.ne_blk hb hne a' ha' hk
theorem Ow.keptO (h2 : Ow encB w lo2 e2 A2 n2 c2 ys) (h : Ow enc w lo e A n c xs) (hne : e2 ≠ e) (hg : w.grownBy w' (Value.slice A n c).ownBlock) : Ow encB w' lo2 e2 A2 n2 c2 ys :=
  h2.keptG hg fun a ha he => by
    obtain ⟨_, cs, hb⟩ := h2.blk a ha
    obtain ⟨a', ha', hk⟩ := own_addr he.symm
    exact h.ne_blk hb hne a' ha' hk
theorem Om.keptO {encN : β → Nat → Value} {sz2 : Nat} (h2 : Om sz2 encN w lo2 e2 A2 n2 c2 ys) (h : Ow enc w lo e A n c xs) (hne : e2 ≠ e) (hg : w.grownBy w' (Value.slice A n c).ownBlock) : Om sz2 encN w' lo2 e2 A2 n2 c2 ys :=
  h2.keptG hg fun a ha he => by
    obtain ⟨_, cs, hb⟩ := h2.blk a ha
    obtain ⟨a', ha', hk⟩ := own_addr he.symm
    exact h.ne_blk hb hne a' ha' hk
theorem Om.keptM {encN : β → Nat → Value} {sz2 : Nat} (h2 : Om sz2 encN w lo2 e2 A2 n2 c2 ys) (h : Om sz encM w lo e A n c xs) (hne : e2 ≠ e) (hg : w.grownBy w' (Value.slice A n c).ownBlock) : Om sz2 encN w' lo2 e2 A2 n2 c2 ys :=
  h2.keptG hg fun a ha he => by
    obtain ⟨_, cs, hb⟩ := h2.blk a ha
    obtain ⟨a', ha', hk⟩ := own_addr he.symm
    exact h.ne_blk hb hne a' ha' hk
end
end Go.Proofs.YtfipdoofgbjbjaaGreat

/- General words: a region that draws its order, whose last operations come one behind the other (stores); ahead of them loads may be taken first. No condition. -/
namespace Go.Proofs.YtfipdoofgbjbjaaGreat
open Go.RowKit
section
variable {P : Program} {ops : Array Oper} {Q : Exit → Act → World → Prop} {md : Region.Mode} {S : World → Prop} {n : Nat} {T : Array Bool → Act → World → Prop}
/-- the first operations, in whatever order; behind each S; behind all of them T -/
def wpAnyT (P : Program) (md : Region.Mode) (ops : Array Oper) (Q : Exit → Act → World → Prop) (S : World → Prop) (n : Nat) (T : Array Bool → Act → World → Prop) : Nat → Array Bool → Act → World → Prop
  | 0, listed, a, w => T listed a w
  | f + 1, listed, a, w => Region.ready md ops listed ≠ [] ∧ ∀ i ∈ Region.ready md ops listed, i < n ∧ wpOp P ops Q i (fun a' w' => S w' ∧ wpAnyT P md ops Q S n T f (listed.setIfInBounds i true) a' w') a w
theorem wpAny_of_T {g : Nat} (hT : ∀ listed a w, T listed a w → wpAny P md ops Q g listed a w) : ∀ (f : Nat) (listed : Array Bool) (a : Act) (w : World), wpAnyT P md ops Q S n T f listed a w → wpAny P md ops Q (f + g) listed a w
  | 0, listed, a, w, h => by rw [Nat.zero_add]; exact hT _ _ _ h
  | f + 1, listed, a, w, h => by
    rw [show f + 1 + g = (f + g) + 1 by omega]
    exact ⟨fun h0 => absurd h0 h.1, fun i hi => wpOp_mono (fun a' w' h' => wpAny_of_T hT f _ a' w' h'.2) (h.2 i hi).2⟩
theorem wpAnyT_first {i : Nat} {oi : Oper} {v : Value} (hi : ops[i]? = some oi) (hsel : ∀ (j : Nat) (o : Oper) cs b, ops[j]? = some o → o.op ≠ .select cs b)
    (hQ : ∀ c a w, Q (.panic c) (a.put oi.dst v) w → Q (.panic c) a w)
    (hs : Region.sinkB md ops n = true) (hc : Region.chainB md ops n = true) (hn : n < ops.size) (hin : i < n)
    (hdone : ∀ listed a w, T listed a w → ∀ j ∈ Region.ready md ops listed, n ≤ j) :
    ∀ (f : Nat) (listed : Array Bool) (a : Act) (w : World), HeadInv md ops n listed →
      (∀ j oj, ops[j]? = some oj → j ≠ i → listed.getD j true = false → (∀ e ∈ oj.after, Region.binds md e = true → e.on ≠ i) → oi.apart ops oj = true) →
      i ∈ Region.ready md ops listed → YieldsIf P ops S oi v a → S w →
      wpAnyT P md ops Q S n T f (listed.setIfInBounds i true) (a.put oi.dst v) w → wpAnyT P md ops Q S n T (f + 1) listed a w := by
  intro f
  induction f with
  | zero =>
    intro listed a w inv _ hr hy hS H
    have hun := (mem_ready.1 hr).1
    refine ⟨fun h => (by rw [h] at hr; cases hr), fun j hj => ?_⟩
    have hjn : j < n := by
      rcases Nat.lt_or_ge j n with h | h
      · exact h
      · exact absurd hj (tail_waits hs hc hn inv _ i rfl hin hun j h)
    refine ⟨hjn, ?_⟩
    by_cases hji : j = i
    · subst hji; exact hy.wpOp hi hS ⟨hS, H⟩
    · have := hdone _ _ _ H j (ready_mono hj hji)
      omega
  | succ f ih =>
    intro listed a w inv hfree hr hy hS H
    have hun := (mem_ready.1 hr).1
    refine ⟨fun h => (by rw [h] at hr; cases hr), fun j hj => ?_⟩
    have hjn : j < n := by
      rcases Nat.lt_or_ge j n with h | h
      · exact h
      · exact absurd hj (tail_waits hs hc hn inv _ i rfl hin hun j h)
    refine ⟨hjn, ?_⟩
    by_cases hji : j = i
    · subst hji; exact hy.wpOp hi hS ⟨hS, H⟩
    · have h1 := (H.2 j (ready_mono hj hji)).2
      obtain ⟨hjun, oj, hoj, hall⟩ := mem_ready.1 hj
      have hnot : ∀ e ∈ oj.after, Region.binds md e = true → e.on ≠ i := fun e he hb heq => by
        have h1 := hall e he hb
        rw [heq, getD_both hun] at h1
        cases h1
      have h2 := wpOp_putIf hoj (hfree j oj hoj hji hjun hnot) (fun cs b => hsel i oi cs b hi) (fun cs b => hsel j oj cs b hoj) hQ hy h1
      have hfree' : ∀ k ok, ops[k]? = some ok → k ≠ i → (listed.setIfInBounds j true).getD k true = false →
          (∀ e ∈ ok.after, Region.binds md e = true → e.on ≠ i) → oi.apart ops ok = true := fun k ok hk hki hun hno => by
        refine hfree k ok hk hki ?_ hno
        by_cases hjk : j = k
        · subst hjk; exact hjun
        · rw [getD_set_ne true hjk] at hun; exact hun
      refine wpOp_mono (fun a' w' h3 => ⟨h3.2.1, ih (listed.setIfInBounds j true) a' w' (inv.set hj hjn) hfree' (ready_mono hr (Ne.symm hji)) h3.1 h3.2.1 ?_⟩) h2
      rw [Array.setIfInBounds_comm _ _ hji]
      exact h3.2.2
def headInvB (md : Region.Mode) (ops : Array Oper) (n : Nat) (listed : Array Bool) : Bool :=
  decide (listed.size = ops.size) && ((List.range ops.size).all fun j => !listed.getD j false || ((ops[j]?).map (·.after.all fun e => !Region.binds md e || listed.getD e.on false)).getD true) && ((List.range ops.size).all fun t => decide (t < n) || !listed.getD t true)
theorem headInvB_spec {listed : Array Bool} (h : headInvB md ops n listed = true) : HeadInv md ops n listed := by
  unfold headInvB at h
  simp only [Bool.and_eq_true, decide_eq_true_eq] at h
  obtain ⟨⟨h1, h2⟩, h3⟩ := h
  refine ⟨h1, fun j oj hj hl e he hb => ?_, fun t ht htl => ?_⟩
  · have hjl : j < ops.size := (Array.getElem?_eq_some_iff.1 hj).1
    have := List.all_eq_true.1 h2 j (List.mem_range.2 hjl)
    rw [hl, hj] at this
    simp only [Bool.not_true, Bool.false_or, Option.map_some, Option.getD_some] at this
    have := Array.all_eq_true'.1 this e he
    rw [hb] at this
    simpa using this
  · have := List.all_eq_true.1 h3 t (List.mem_range.2 htl)
    simp only [Bool.or_eq_true, decide_eq_true_eq, Bool.not_eq_true'] at this
    rcases this with h | h
    · omega
    · exact h
/-- what the walk ends at: the last operations, one behind the other -/
def TailOf (P : Program) (Q : Exit → Act → World → Prop) (l : List Oper) (n : Nat) (listed : Array Bool) (a : Act) (w : World) : Prop :=
  Region.seqB .any l.toArray (l.length - n) n listed = true ∧ wpList P l.toArray Q (l.drop n) a w
def tailB (l : List Oper) (n : Nat) : Bool := Region.noSelect l.toArray && decide (n < l.length) && Region.sinkB .any l.toArray n && Region.chainB .any l.toArray n
theorem wpAnyT_take {l : List Oper} {i : Nat} {oi : Oper} {v : Value} {f : Nat} {listed : Array Bool} {a : Act} {w : World} (hB : tailB l n = true) (hi : l.toArray[i]? = some oi)
    (hb : (decide (i < n) && headInvB .any l.toArray n listed && Region.free .any l.toArray listed i && (Region.ready .any l.toArray listed).contains i) = true)
    (hQ : ∀ c a w, Q (.panic c) (a.put oi.dst v) w → Q (.panic c) a w) (hy : YieldsIf P l.toArray S oi v a) (hS : S w)
    (h : wpAnyT P .any l.toArray Q S n (TailOf P Q l n) f (listed.setIfInBounds i true) (a.put oi.dst v) w) : wpAnyT P .any l.toArray Q S n (TailOf P Q l n) (f + 1) listed a w := by
  simp only [tailB, Bool.and_eq_true, decide_eq_true_eq] at hB hb
  obtain ⟨⟨⟨hsel, hn⟩, hs⟩, hc⟩ := hB
  obtain ⟨⟨⟨hin, hinv⟩, hf⟩, hr⟩ := hb
  exact wpAnyT_first hi (Region.noSelect_spec hsel) hQ hs hc (by simpa using hn) hin (fun listed' a' w' hL => seqB_ready hL.1) f listed a w (headInvB_spec hinv) (Region.free_spec hi hf) (by simpa using hr) hy hS h
/-- each of these comes up next -/
def AllReadyT (P : Program) (ops : Array Oper) (Q : Exit → Act → World → Prop) (S : World → Prop) (n : Nat) (T : Array Bool → Act → World → Prop) (f : Nat) (listed : Array Bool) (a : Act) (w : World) (rs : List Nat) : Prop :=
  ∀ i ∈ rs, i < n ∧ wpOp P ops Q i (fun a' w' => S w' ∧ wpAnyT P .any ops Q S n T f (listed.setIfInBounds i true) a' w') a w
theorem AllReadyT.nil {f : Nat} {listed : Array Bool} {a : Act} {w : World} : AllReadyT P ops Q S n T f listed a w [] := fun _ h => by cases h
theorem AllReadyT.cons {f : Nat} {listed : Array Bool} {a : Act} {w : World} {i : Nat} {o : Oper} {rs : List Nat} (ho : ops[i]? = some o) (hin : decide (i < n) = true)
    (h : ∀ K' : Act → World → Prop, Shut (∀ a w, S w → wpAnyT P .any ops Q S n T f (listed.setIfInBounds i true) a w → K' a w) → if Region.wanted o (yielded ops a.tmps) = true then Oper.wp P o a w K' Q else K' (a.put o.dst undef) w)
    (hs : AllReadyT P ops Q S n T f listed a w rs) : AllReadyT P ops Q S n T f listed a w (i :: rs) := fun j hj => by
  rcases List.mem_cons.1 hj with rfl | hj
  · exact ⟨of_decide_eq_true hin, wpOp_step ho (fun K' hK => h K' (fun a w hS hW => hK a w ⟨hS, hW⟩))⟩
  · exact hs j hj
theorem wpAnyT_ready {f : Nat} {listed : Array Bool} {a : Act} {w : World} (rs : List Nat) (hr : Region.ready .any ops listed = rs) (hne : rs ≠ []) (h : AllReadyT P ops Q S n T f listed a w rs) : wpAnyT P .any ops Q S n T (f + 1) listed a w :=
  ⟨by rw [hr]; exact hne, by rw [hr]; exact h⟩
theorem wpAnyT_done {l : List Oper} {listed : Array Bool} {a : Act} {w : World} (hb : Region.seqB .any l.toArray (l.length - n) n listed = true) (h : wpList P l.toArray Q (l.drop n) a w) : wpAnyT P .any l.toArray Q S n (TailOf P Q l n) 0 listed a w := ⟨hb, h⟩
theorem wp_region_held_tail {id : Nat} {l : List Oper} {a : Act} {w : World} (n : Nat) (S : World → Prop) (L0 : Array Bool) (hm : P.follows .mixedOrders = true) (hS : S w.drew)
    (hn : decide (n ≤ l.length) = true) (hL0 : Array.replicate l.length false = L0) (h : S w.drew → wpAnyT P .any l.toArray Q S n (TailOf P Q l n) n L0 a w.drew) : (Code.region id l.toArray true).wp P Q a w := by
  subst hL0
  refine wp_region_any hm ?_
  have hn' := of_decide_eq_true hn
  have := wpAny_of_T (Q := Q) (g := l.length - n) (fun listed a' w' (hL : TailOf P Q l n listed a' w') => by
    have := wpAny_of_seq (md := .any) (Q' := Q) (l.drop n) n listed a' w' (fun j => by simp [List.getElem?_drop]) (by rw [List.length_drop]; exact hL.1) hL.2
    rwa [List.length_drop] at this) _ _ _ _ (h hS)
  rw [show n + (l.length - n) = l.length by omega] at this
  simpa using this
/-- what is laid down by an operation, shown again as a list -/
theorem pt : (∀ (a : Act) (d : Tmp) (v : Value), a.put (some d) v = { a with tmps := a.tmps.setIfInBounds d v }) ∧ (∀ (a : Act) (v : Value), a.put none v = a) ∧ (∀ {α : Type} (l : List α) (i : Nat) (x : α), l.toArray.setIfInBounds i x = (l.set i x).toArray) ∧
    (∀ {α : Type} (x y : α) (l : List α), (x :: l).set 0 y = y :: l) ∧ (∀ {α : Type} (x y : α) (l : List α) (n : Nat), (x :: l).set (n + 1) y = x :: l.set n y) :=
  ⟨fun _ _ _ => rfl, fun _ _ => rfl, fun _ _ _ => by simp, fun _ _ _ => rfl, fun _ _ _ _ => rfl⟩
/-- an operation that reads, taken next -/
theorem tk (i : Nat) {oi : Oper} {v : Value} {fuel : Nat} {listed l' : Array Bool} {a a' : Act} {w : World} (hS : S w) (h : wpAnyH P .any ops Q S fuel l' a' w)
    (hi : ops[i]? = some oi := by simp only [List.getElem?_toArray, List.getElem?_cons_succ, List.getElem?_cons_zero]; rfl)
    (hs : Region.noSelect ops = true := by kernel_rfl) (hf : Region.free .any ops listed i = true := by kernel_rfl) (hr : (Region.ready .any ops listed).contains i = true := by kernel_rfl)
    (hg : Region.wanted oi (yielded ops a.tmps) = true := by rfl) (hy : ∀ w', S w' → (execOp a.eval oi).run P w' = .ok (.value v) w' := by intro w' hSw; (try dsimp only at hSw); go_split_ands; go_simp; (try with_reducible rfl))
    (hQ : ∀ c a w, Q (.panic c) (a.put oi.dst v) w → Q (.panic c) a w := by exact fun _ _ _ h => h)
    (hl : listed.setIfInBounds i true = l' := by (try simp only [pt]) <;> exact rfl) (hp : a.put oi.dst v = a' := by (try simp only [pt]) <;> exact rfl) : wpAnyH P .any ops Q S (fuel + 1) listed a w :=
  wpAnyH_take hi hs hf hr hQ (Or.inl ⟨hg, hy⟩) hS (by rw [hl, hp]; exact h)
theorem tku (i : Nat) {oi : Oper} {fuel : Nat} {listed l' : Array Bool} {a a' : Act} {w : World} (hS : S w) (h : wpAnyH P .any ops Q S fuel l' a' w)
    (hi : ops[i]? = some oi := by simp only [List.getElem?_toArray, List.getElem?_cons_succ, List.getElem?_cons_zero]; rfl)
    (hs : Region.noSelect ops = true := by kernel_rfl) (hf : Region.free .any ops listed i = true := by kernel_rfl) (hr : (Region.ready .any ops listed).contains i = true := by kernel_rfl)
    (hg : Region.wanted oi (yielded ops a.tmps) = false := by rfl)
    (hQ : ∀ c a w, Q (.panic c) (a.put oi.dst undef) w → Q (.panic c) a w := by exact fun _ _ _ h => h)
    (hl : listed.setIfInBounds i true = l' := by (try simp only [pt]) <;> exact rfl) (hp : a.put oi.dst undef = a' := by (try simp only [pt]) <;> exact rfl) : wpAnyH P .any ops Q S (fuel + 1) listed a w :=
  wpAnyH_take hi hs hf hr hQ (Or.inr ⟨hg, rfl⟩) hS (by rw [hl, hp]; exact h)
theorem tkT (i : Nat) {l : List Oper} {oi : Oper} {v : Value} {f : Nat} {listed l' : Array Bool} {a a' : Act} {w : World} (hS : S w) (h : wpAnyT P .any l.toArray Q S n (TailOf P Q l n) f l' a' w)
    (hi : l.toArray[i]? = some oi := by simp only [List.getElem?_toArray, List.getElem?_cons_succ, List.getElem?_cons_zero]; rfl)
    (hB : tailB l n = true := by kernel_rfl)
    (hb : (decide (i < n) && headInvB .any l.toArray n listed && Region.free .any l.toArray listed i && (Region.ready .any l.toArray listed).contains i) = true := by kernel_rfl)
    (hg : Region.wanted oi (yielded l.toArray a.tmps) = true := by rfl) (hy : ∀ w', S w' → (execOp a.eval oi).run P w' = .ok (.value v) w' := by intro w' hSw; (try dsimp only at hSw); go_split_ands; go_simp; (try with_reducible rfl))
    (hQ : ∀ c a w, Q (.panic c) (a.put oi.dst v) w → Q (.panic c) a w := by exact fun _ _ _ h => h)
    (hl : listed.setIfInBounds i true = l' := by (try simp only [pt]) <;> exact rfl) (hp : a.put oi.dst v = a' := by (try simp only [pt]) <;> exact rfl) : wpAnyT P .any l.toArray Q S n (TailOf P Q l n) (f + 1) listed a w :=
  wpAnyT_take hB hi hb hQ (Or.inl ⟨hg, hy⟩) hS (by rw [hl, hp]; exact h)
theorem rdy {fuel : Nat} {listed : Array Bool} {a : Act} {w : World} (rs : List Nat) (h : AllReadyH P .any ops Q S fuel listed a w rs) (hr : Region.ready .any ops listed = rs := by kernel_rfl) (hne : rs ≠ [] := by simp) :
    wpAnyH P .any ops Q S (fuel + 1) listed a w := wpAnyH_ready hr hne h
theorem csy {fuel : Nat} {listed : Array Bool} {a : Act} {w : World} {i : Nat} {o : Oper} {rs : List Nat}
    (h : ∀ K' : Act → World → Prop, Shut (∀ a w, S w → (S w → wpAnyH P .any ops Q S fuel (listed.setIfInBounds i true) a w) → K' a w) → if Region.wanted o (yielded ops a.tmps) = true then Oper.wp P o a w K' Q else K' (a.put o.dst undef) w)
    (hs : AllReadyH P .any ops Q S fuel listed a w rs) (ho : ops[i]? = some o := by simp only [List.getElem?_toArray, List.getElem?_cons_succ, List.getElem?_cons_zero]; rfl) : AllReadyH P .any ops Q S fuel listed a w (i :: rs) := AllReadyH.cons ho h hs
theorem rdyT {f : Nat} {listed : Array Bool} {a : Act} {w : World} (rs : List Nat) (h : AllReadyT P ops Q S n T f listed a w rs) (hr : Region.ready .any ops listed = rs := by kernel_rfl) (hne : rs ≠ [] := by simp) :
    wpAnyT P .any ops Q S n T (f + 1) listed a w := wpAnyT_ready rs hr hne h
theorem csyT {f : Nat} {listed : Array Bool} {a : Act} {w : World} {i : Nat} {o : Oper} {rs : List Nat}
    (h : ∀ K' : Act → World → Prop, Shut (∀ a w, S w → wpAnyT P .any ops Q S n T f (listed.setIfInBounds i true) a w → K' a w) → if Region.wanted o (yielded ops a.tmps) = true then Oper.wp P o a w K' Q else K' (a.put o.dst undef) w)
    (hs : AllReadyT P ops Q S n T f listed a w rs) (ho : ops[i]? = some o := by simp only [List.getElem?_toArray, List.getElem?_cons_succ, List.getElem?_cons_zero]; rfl) (hin : decide (i < n) = true := by rfl) : AllReadyT P ops Q S n T f listed a w (i :: rs) := AllReadyT.cons ho hin h hs
/-- behind a call: S is shown anew -/
theorem ky {K : Act → World → Prop} {f i : Nat} {listed l' : Array Bool} {a a' : Act} {w : World} (hK : Shut (∀ a w, S w → (S w → wpAnyH P .any ops Q S f (listed.setIfInBounds i true) a w) → K a w)) (hX : S w)
    (h : S w → wpAnyH P .any ops Q S f l' a' w) (hl : listed.setIfInBounds i true = l' := by (try simp only [pt]) <;> exact rfl) (hp : a = a' := by (try simp only [pt]) <;> exact rfl) : K a w := hK.out _ _ hX (fun s => by rw [hl, hp]; exact h s)
theorem kyT {K : Act → World → Prop} {f i : Nat} {listed l' : Array Bool} {a a' : Act} {w : World} (hK : Shut (∀ a w, S w → wpAnyT P .any ops Q S n T f (listed.setIfInBounds i true) a w → K a w)) (hX : S w)
    (h : S w → wpAnyT P .any ops Q S n T f l' a' w) (hl : listed.setIfInBounds i true = l' := by (try simp only [pt]) <;> exact rfl) (hp : a = a' := by (try simp only [pt]) <;> exact rfl) : K a w := hK.out _ _ hX (by rw [hl, hp]; exact h hX)
end
end Go.Proofs.YtfipdoofgbjbjaaGreat

/- Short words for the steps of a region that draws. No condition. -/
namespace Go.Proofs.YtfipdoofgbjbjaaGreat
open Go.RowKit
/-- what many ways come to, proved once -/
structure KeyH (T : Prop) : Prop where
  out : T
theorem merge_by {T G : Prop} (h : KeyH T → G) (pf : T) : G := h ⟨pf⟩
section
variable {P : Program} {ops : Array Oper} {Q : Exit → Act → World → Prop} {S : World → Prop}
end
end Go.Proofs.YtfipdoofgbjbjaaGreat

/- General words, eighth part: copy onto a whole new row; rows out of blocks. No condition. -/
namespace Go.Proofs.YtfipdoofgbjbjaaGreat
open Go.RowKit
/-- the run of a copy over the whole of a row -/
theorem run_copy_full {P : Program} {w : World} {α : Type} (enc : α → Value) (dd : α) (dT sT ty elem : TypeId) (hu : P.underlying dT = some (.slice elem)) (hsz : (P.info? elem).map (·.size) = some 1)
    (g n c sc : Nat) (A : Option Addr) (cur : Array Value) (t : TypeId) (hg : Blk w g t cur) (hcur : cur.size = n) (lo hi : Nat) (xs : List α) (hr : Sl enc dd w lo hi A n xs) (h1 : ∀ y, (enc y).oneCell' = true) :
    (Builtin.copy_ #[dT, sT] ty #[.slice (some ⟨g, 0, none⟩) n c, .slice A n sc]).run P w = .ok (.int .i64 n) (w.setRow g (xs.map enc).toArray) := by
  have hl := hr.len
  by_cases h0 : n = 0
  · subst h0
    obtain rfl : xs = [] := List.eq_nil_of_length_eq_zero hl
    obtain rfl : cur = #[] := Array.eq_empty_of_size_eq_zero hcur
    have e : w.setRow g (List.map enc []).toArray = w := setRow_self w g #[] t (0, 0) hg
    rw [e]
    exact run_copy_none w dT sT ty elem _ _ 0 c 0 sc hu hsz rfl
  · obtain ⟨b, off, rfl, _, _, hc⟩ := hr.row (by omega)
    have hrun := run_copy_row (P := P) w dT sT ty elem g 0 n c ⟨b, off, none⟩ n sc cur t (xs.map enc) hu hsz hg (by simp [hl, Nat.min_def])
      (fun j v hj => by
        have hj' : j < n := by have := (List.getElem?_eq_some_iff.1 hj).1; rwa [List.length_map, hl] at this
        rw [Addr.add_lit, hc j hj', ← hj, List.getElem?_map, List.getElem?_eq_getElem (by rw [hl]; exact hj')]
        rfl) (by simp [hl, hcur]) (fun v hv => by obtain ⟨y, _, rfl⟩ := List.mem_map.1 hv; exact h1 y)
    have e : (cur.toList.take 0 ++ (xs.map enc ++ cur.toList.drop (0 + (xs.map enc).length))) = xs.map enc := by
      have : cur.toList.drop (0 + (xs.map enc).length) = [] := List.drop_eq_nil_of_le (by simp [hl, hcur])
      rw [this]; simp
    rw [hrun]
    simp only [← List.append_assoc] at e ⊢
    simp only [List.append_assoc] at e ⊢
    rw [e, List.length_map, hl]
    rfl
/-- a block known whole is an owned row -/
theorem Blk.ow {α : Type} {enc : α → Value} {w : World} {g : Nat} {e : TypeId} {cs : Array Value} {xs : List α} {n lo : Nat} (h : Blk w g e cs) (hcs : cs = (xs.map enc).toArray) (hn : xs.length = n) (hlo : lo ≤ g) (hm : n ≤ maxLen) : Ow enc w lo e (some ⟨g, 0, none⟩) n n xs := by
  subst hcs
  refine ⟨hn, by simp [hn], .inr ⟨g, n, (xs.map enc).toArray, rfl, hlo, h, Nat.le_refl _, hm, by simp [hn], ?_⟩⟩
  simp [hn, List.take_of_length_le]
theorem Sl.sub {α : Type} {enc : α → Value} {d : α} {w : World} {lo hi b off n : Nat} {xs : List α} (h : Sl enc d w lo hi (some ⟨b, off, none⟩) n xs) {i k : Nat} (hik : i + k ≤ n) : Sl enc d w lo hi (some ⟨b, off + i, none⟩) k ((xs.drop i).take k) := by
  refine ⟨by have := h.len; simp; omega, fun hn => ?_⟩
  obtain ⟨b', off', e, h1, h2, h3⟩ := h.row (by omega)
  obtain ⟨rfl, rfl⟩ : b = b' ∧ off = off' := by simpa using e
  refine ⟨b, off + i, rfl, h1, h2, fun j hj => ?_⟩
  rw [Nat.add_assoc, h3 (i + j) (by omega), List.getElem?_take, if_pos hj, List.getElem?_drop]
/-- a row whose places i .. i+k-1 hold v -/
def setR {α : Type} (xs : List α) (i : Nat) (v : α) : Nat → List α
  | 0 => xs
  | k + 1 => (setR xs i v k).set (i + k) v
theorem Ow.far {α : Type} {enc : α → Value} {W : World} {lo : Nat} {e : TypeId} {ga n c : Nat} {xs : List α} (h : Ow enc W lo e (some ⟨ga, 0, none⟩) n c xs) {p : Addr} (hp : ga ≠ p.block) (u : Value) : Ow enc (W.setCell p u) lo e (some ⟨ga, 0, none⟩) n c xs := by
  refine ⟨h.len, h.own.1, ?_⟩
  rcases h.own.2 with ⟨hv, _⟩ | ⟨g, cap, cur, hv, hb1, hgg, r⟩
  · simp at hv
  · simp only [Value.slice.injEq, Option.some.injEq, Addr.mk.injEq] at hv
    obtain ⟨⟨rfl, _⟩, _⟩ := hv
    exact .inr ⟨ga, cap, cur, by simp_all, hb1, (Below.heap_setCell W p u ga hp).trans hgg, r⟩
end Go.Proofs.YtfipdoofgbjbjaaGreat

/- A range over a function whose iterator writes one block of cells of its own between the rounds: what its caller owes. No condition. -/
namespace Go.Proofs.YtfipdoofgbjbjaaGreat
open Go.RowKit
/-- what the caller says abides a step of the iterator: new blocks, and a turn of block D -/
def StepsD (D : Nat) (J : Nat → World → Prop) : Prop := ∀ k A B, J k A → A.grownBy B (some D) → J k B
/-- what is said abides the law's own book-keeping: new blocks, and a turn of one that is no cells and lies from B0 on -/
def Books {β : Type} (B0 : Nat) (I : β → World → Prop) : Prop := ∀ s A B row, I s A → A.grownBy B row → (∀ r, row = some r → B0 ≤ r ∧ ∃ o : Obj, A.heap[r]? = some o ∧ o.isCells = false) → I s B
theorem Books.put {β : Type} {B0 : Nat} {I : β → World → Prop} (h : Books B0 I) {s : β} {W : World} {l : Nat} {o : Obj} (o' : Obj) (hs : I s W) (hB : B0 ≤ l) (hl : W.heap[l]? = some o) (ho : o.isCells = false) : I s (W.putObj l o') :=
  h s W _ (some l) hs (grownBy_putObj' W l o') fun r e => by cases e; exact ⟨hB, o, hl, ho⟩
theorem Books.alloc {β : Type} {B0 : Nat} {I : β → World → Prop} (h : Books B0 I) {s : β} {W : World} (o : Obj) (hs : I s W) : I s (W.alloc o) :=
  h s W _ none hs (World.grownBy_alloc W o none) fun r e => by cases e
/-- the contract of an iterator with a state: It k: k elements have been handed out; N: how many there are; vs k: what yield is handed -/
def StateSeq (F : Fence) (m : Nat) (P : Program) (gf : Nat) (lb : Array Value) (vs : Nat → Array Value) (N D : Nat) (It : Nat → World → Prop) : Prop :=
  ∀ (l : Nat) (J Jx : Nat → World → Prop) (W : World), StepsD D J →
    (∀ k W1, k < N → J k W1 → It (k + 1) W1 → YieldAt F (m - 1) P l (vs k) W1 fun e W' => (e = .returned (.bool true) ∧ J (k + 1) W' ∧ It (k + 1) W') ∨ (e = .returned (.bool false) ∧ Jx (k + 1) W')) →
    J 0 W → It 0 W → CallsIn F m P gf (#[.func (.yield l) #[] #[]] ++ lb) W fun e W' => (∃ v, e = .returned v) ∧ ((J N W' ∧ It N W') ∨ ∃ k, Jx k W')
/-- how a round may be left -/
def roundEnd (B0 : Nat) (I It : Nat → World → Prop) (Ix : Code → Nat → World → Prop) (k : Nat) (W : World) : Exit → Act → World → Prop
  | .normal, _, W' => KeepsFrom B0 W W' ∧ I k W' ∧ It k W'
  | .ret, _, W' => KeepsFrom B0 W W' ∧ Ix .ret k W'
  | .exit id, _, W' => KeepsFrom B0 W W' ∧ Ix (.exit id) k W'
  | .goto t, _, W' => KeepsFrom B0 W W' ∧ Ix (.goto t) k W'
  | .panic _, _, _ => False
  | .outgrown, _, _ => False
set_option maxHeartbeats 2000000 in
theorem wpIn_rangeFunc_state {F : Fence} {n : Nat} {P : Program} {g : Operand} {ps : Array Tmp} {assign body : Code} {Q : Exit → Act → World → Prop} {a : Act} {w : World} (hround : F.round = none) (h1 : 1 ≤ n)
    {gf : Nat} {lb : Array Value} (hg : a.eval g = .func (.func gf) #[] lb) (hin : F.fn gf) (eg : ∀ args w, (callFunc gf args).run P w = .ok (.enter gf args) w)
    {vs : Nat → Array Value} {N D : Nat} {It : Nat → World → Prop} (hseq : StateSeq F (n - 1) P gf lb vs N D It) (hvs : ∀ k, (vs k).size = ps.size) (hD : D < w.heap.size)
    (I : Nat → World → Prop) (Ix : Code → Nat → World → Prop) (hI : Books w.heap.size I) (hT : Books w.heap.size It) (hX : ∀ c, Books w.heap.size (Ix c)) (hID : StepsD D I) (h0 : I 0 w) (t0 : It 0 w) (after : Nat → Act)
    (hassign : ∀ (l k : Nat) (W : World) (K : Act → World → Prop), K (after k) W → assign.wpIn (F.inRound l) (n - 1 - 1) P (Exit.then K (fun _ _ _ => False)) { tmps := (ps.zip (vs k)).foldl (fun t (p, v) => t.setIfInBounds p v) a.tmps, defers := [] } W)
    (hbody : ∀ (l k : Nat) (W : World), k < N → I k W → It (k + 1) W → body.wpIn (F.inRound l) (n - 1 - 1) P (roundEnd w.heap.size I It Ix (k + 1) W) (after k) W)
    (hdone : ∀ (b : Nat) (W : World), w.heap.size ≤ b → I N W → It N W → W.heap[b]? = some (.deferred (some [])) → Q .normal { a with defers := { target := .collected b, args := #[] } :: a.defers } W)
    (hstop : ∀ (b k : Nat) (c : Code) (W : World), w.heap.size ≤ b → Ix c k W → W.heap[b]? = some (.deferred (some [])) → c.wpIn F n P Q { a with defers := { target := .collected b, args := #[] } :: a.defers } W) :
    (Code.rangeFunc g ps assign body).wpIn F n P Q a w := by
  refine wpIn_rangeFunc fun fn hfn => ?_
  rw [hround]
  -- the record, by its state and the jump that is pending
  let mk : LoopState → Option Code → Obj := fun st pe => .loop { state := st, pending := pe, fn, tmps := a.tmps, params := ps, assign, body, defers := w.heap.size }
  have hmk : ∀ st pe, (mk st pe).isCells = false := fun _ _ => rfl
  generalize hW1 : (w.alloc (.deferred (some []))).alloc (mk .ready none) = W1
  have rec1 : W1.heap[w.heap.size + 1]? = some (mk .ready none) := by
    have := World.alloc_heap_new (w.alloc (.deferred (some []))) (mk .ready none)
    rw [World.size_alloc] at this
    rw [← hW1]; exact this
  have def1 : W1.heap[w.heap.size]? = some (.deferred (some [])) := by
    rw [← hW1]; exact (Below.heap_alloc _ _ _ (by simp)).trans (World.alloc_heap_new w _)
  have keepD : ∀ {A B : World} {k : Nat} {o : Obj}, A.grownBy B (some D) → A.heap[k]? = some o → w.heap.size ≤ k → B.heap[k]? = some o := fun hg hk hle =>
    (hg.block _ (Array.getElem?_eq_some_iff.1 hk).1 (fun e => by cases e; omega)).trans hk
  refine ⟨w.heap.size + 1, [{ target := .collected w.heap.size, args := #[] }], W1, { target := .fn (.func gf) lb, args := #[.func (.yield (w.heap.size + 1)) #[] #[]] }, W1, gf, #[.func (.yield (w.heap.size + 1)) #[] #[]] ++ lb, W1,
    by rw [← hW1]; exact run_enterLoop_outer _ _ _ _ _, by simp only [resolve, hg]; simp [go_sem], fun f' hf' => by simp [Target.leads] at hf'; subst hf'; exact hin, by simp [invoke, go_sem, eg _ _], fun _ => h1, ?_⟩
  refine (hseq (w.heap.size + 1) (fun k W => I k W ∧ W.heap[w.heap.size + 1]? = some (mk .ready none) ∧ W.heap[w.heap.size]? = some (.deferred (some [])))
    (fun k W => ∃ c, Ix c k W ∧ W.heap[w.heap.size + 1]? = some (mk .done (some c)) ∧ W.heap[w.heap.size]? = some (.deferred (some []))) W1 ?_ ?_
    ⟨by rw [← hW1]; exact hI.alloc _ (hI.alloc _ h0), rec1, def1⟩ (by rw [← hW1]; exact hT.alloc _ (hT.alloc _ t0))).mono ?_
  · exact fun k A B hs hgr => ⟨hID k A B hs.1 hgr, keepD hgr hs.2.1 (by omega), keepD hgr hs.2.2 (Nat.le_refl _)⟩
  · -- a round
    rintro k W hk ⟨hi, hl, hd⟩ ht
    refine ⟨fn, _, assign, body, run_yield (P := P) (args := vs k) hl (by rw [hvs k]), roundIn_of_wpIn hfn (hassign _ k W _ ?_)⟩
    refine ⟨_, run_beginRound hl rfl, ?_⟩
    have hlt : w.heap.size + 1 < W.heap.size := (Array.getElem?_eq_some_iff.1 hl).1
    have hl2 : (W.putObj (w.heap.size + 1) (mk .busy none)).heap[w.heap.size + 1]? = some (mk .busy none) := World.putObj_heap_same hlt
    have hd2 : (W.putObj (w.heap.size + 1) (mk .busy none)).heap[w.heap.size]? = some (.deferred (some [])) := (World.putObj_heap_other (by omega)).trans hd
    refine wpIn_mono (hbody _ k _ hk (hI.put _ hi (by omega) hl rfl) (hT.put _ ht (by omega) hl rfl)) ?_
    have over : ∀ (jump : Option Code) (W3 : World), KeepsFrom w.heap.size (W.putObj (w.heap.size + 1) (mk .busy none)) W3 →
        W3.heap[w.heap.size + 1]? = some (mk .busy none) ∧ (Instr.endRound (w.heap.size + 1) jump).run P W3 = .ok (.bool jump.isNone) (W3.putObj (w.heap.size + 1) (mk (if jump.isNone then .ready else .done) jump)) ∧
        (W3.putObj (w.heap.size + 1) (mk (if jump.isNone then .ready else .done) jump)).heap[w.heap.size + 1]? = some (mk (if jump.isNone then .ready else .done) jump) ∧
        (W3.putObj (w.heap.size + 1) (mk (if jump.isNone then .ready else .done) jump)).heap[w.heap.size]? = some (.deferred (some [])) := fun jump W3 hk3 => by
      have hl3 := hk3.same _ _ (by omega) hl2 rfl
      exact ⟨hl3, run_endRound jump hl3, World.putObj_heap_same (Array.getElem?_eq_some_iff.1 hl3).1, (World.putObj_heap_other (by omega)).trans (hk3.same _ _ (Nat.le_refl _) hd2 rfl)⟩
    intro e a3 W3 hp
    cases e with
    | normal =>
      obtain ⟨hk3, hi3, ht3⟩ := hp
      obtain ⟨hl3, hr, hl4, hd4⟩ := over none W3 hk3
      exact ⟨_, _, hr, .inl ⟨rfl, ⟨hI.put _ hi3 (by omega) hl3 rfl, hl4, hd4⟩, hT.put _ ht3 (by omega) hl3 rfl⟩⟩
    | ret =>
      obtain ⟨hl3, hr, hl4, hd4⟩ := over (some .ret) W3 hp.1
      exact ⟨_, _, hr, .inr ⟨rfl, _, (hX _).put _ hp.2 (by omega) hl3 rfl, hl4, hd4⟩⟩
    | exit id =>
      obtain ⟨hl3, hr, hl4, hd4⟩ := over (some (.exit id)) W3 hp.1
      exact ⟨_, _, hr, .inr ⟨rfl, _, (hX _).put _ hp.2 (by omega) hl3 rfl, hl4, hd4⟩⟩
    | goto t =>
      obtain ⟨hl3, hr, hl4, hd4⟩ := over (some (.goto t)) W3 hp.1
      exact ⟨_, _, hr, .inr ⟨rfl, _, (hX _).put _ hp.2 (by omega) hl3 rfl, hl4, hd4⟩⟩
    | panic _ => exact hp.elim
    | outgrown => exact hp.elim
  · -- behind the iterator
    rintro e W2 ⟨⟨v, rfl⟩, ⟨⟨hi, hl, hd⟩, ht⟩ | ⟨k, c, hx, hl, hd⟩⟩
    · exact ⟨none, _, run_endLoop hl (by simp), hdone _ _ (Nat.le_refl _) (hI.put _ hi (by omega) hl rfl) (hT.put _ ht (by omega) hl rfl) ((World.putObj_heap_other (by omega)).trans hd)⟩
    · exact ⟨some c, _, run_endLoop hl (by simp), hstop _ k c _ (Nat.le_refl _) ((hX c).put _ hx (by omega) hl rfl) ((World.putObj_heap_other (by omega)).trans hd)⟩
end Go.Proofs.YtfipdoofgbjbjaaGreat

/- A range over a function whose iterator writes some blocks of cells of its own between the rounds: what its caller owes. No condition. -/
namespace Go.Proofs.YtfipdoofgbjbjaaGreat
open Go.RowKit
/-- new blocks, and turns of the blocks p -/
structure GrownP (p : Nat → Prop) (w w' : World) : Prop where
  os : w'.os = w.os
  tape : w'.tape = w.tape
  output : w'.output = w.output
  size : w.heap.size ≤ w'.heap.size
  block : ∀ i, i < w.heap.size → ¬ p i → w'.heap[i]? = w.heap[i]?
theorem GrownP.refl (p : Nat → Prop) (w : World) : GrownP p w w := ⟨rfl, rfl, rfl, Nat.le_refl _, fun _ _ _ => rfl⟩
theorem GrownP.trans {p : Nat → Prop} {a b c : World} (h : GrownP p a b) (k : GrownP p b c) : GrownP p a c :=
  ⟨k.os.trans h.os, k.tape.trans h.tape, k.output.trans h.output, Nat.le_trans h.size k.size, fun i hi hp => (k.block i (Nat.lt_of_lt_of_le hi h.size) hp).trans (h.block i hi hp)⟩
theorem GrownP.ofBelow {p : Nat → Prop} {w w' : World} (h : Below w.heap.size w w') : GrownP p w w' := ⟨h.os, h.tape, h.output, h.size, fun i hi _ => h.block i hi⟩
theorem GrownP.ofGrown {p : Nat → Prop} {w w' : World} {g : Nat} (h : w.grownBy w' (some g)) (hp : p g) : GrownP p w w' := ⟨h.os, h.tape, h.output, h.size, fun i hi hn => h.block i hi (fun e => by cases e; exact hn hp)⟩
theorem GrownP.below {p : Nat → Prop} {B : Nat} {a w w' : World} (h : Below B a w) (k : GrownP p w w') (hp : ∀ i, p i → B ≤ i) (hB : B ≤ w.heap.size) : Below B a w' :=
  ⟨k.os.trans h.os, k.tape.trans h.tape, k.output.trans h.output, Nat.le_trans h.size k.size, fun i hi => (k.block i (Nat.lt_of_lt_of_le hi hB) (fun e => by have := hp i e; omega)).trans (h.block i hi)⟩
/-- what the caller says abides a step of the iterator: new blocks, and turns of the blocks p -/
def StepsP (p : Nat → Prop) (J : Nat → World → Prop) : Prop := ∀ k A B, J k A → GrownP p A B → J k B
/-- the contract of an iterator with a state: It k: k elements have been handed out; N: how many there are; vs k: what yield is handed -/
def StateSeqP (F : Fence) (m : Nat) (P : Program) (gf : Nat) (lb : Array Value) (vs : Nat → Array Value) (N : Nat) (p : Nat → Prop) (It : Nat → World → Prop) : Prop :=
  ∀ (l : Nat) (J Jx : Nat → World → Prop) (W : World), StepsP p J →
    (∀ k W1, k < N → J k W1 → It (k + 1) W1 → YieldAt F (m - 1) P l (vs k) W1 fun e W' => (e = .returned (.bool true) ∧ J (k + 1) W' ∧ It (k + 1) W') ∨ (e = .returned (.bool false) ∧ Jx (k + 1) W')) →
    J 0 W → It 0 W → CallsIn F m P gf (#[.func (.yield l) #[] #[]] ++ lb) W fun e W' => (∃ v, e = .returned v) ∧ ((J N W' ∧ It N W') ∨ ∃ k, Jx k W')
end Go.Proofs.YtfipdoofgbjbjaaGreat

/- General words: the cells of greater boxes. No condition. -/
namespace Go.Proofs.YtfipdoofgbjbjaaGreat
open Go.RowKit
theorem Blk.cells8 {w : World} {g : Nat} {t : TypeId} {a0 a1 a2 a3 a4 a5 a6 a7 : Value} (h : Blk w g t #[a0, a1, a2, a3, a4, a5, a6, a7]) : w.cell? ⟨g, 0, none⟩ = some a0 ∧ w.cell? ⟨g, 1, none⟩ = some a1 ∧ w.cell? ⟨g, 2, none⟩ = some a2 ∧ w.cell? ⟨g, 3, none⟩ = some a3 ∧ w.cell? ⟨g, 4, none⟩ = some a4 ∧ w.cell? ⟨g, 5, none⟩ = some a5 ∧ w.cell? ⟨g, 6, none⟩ = some a6 ∧ w.cell? ⟨g, 7, none⟩ = some a7 ∧ ∀ i, w.frozen? ⟨g, i, none⟩ = false := ⟨h.cell 0, h.cell 1, h.cell 2, h.cell 3, h.cell 4, h.cell 5, h.cell 6, h.cell 7, h.frozen⟩
theorem Blk.cells11 {w : World} {g : Nat} {t : TypeId} {a0 a1 a2 a3 a4 a5 a6 a7 a8 a9 a10 : Value} (h : Blk w g t #[a0, a1, a2, a3, a4, a5, a6, a7, a8, a9, a10]) : w.cell? ⟨g, 0, none⟩ = some a0 ∧ w.cell? ⟨g, 1, none⟩ = some a1 ∧ w.cell? ⟨g, 2, none⟩ = some a2 ∧ w.cell? ⟨g, 3, none⟩ = some a3 ∧ w.cell? ⟨g, 4, none⟩ = some a4 ∧ w.cell? ⟨g, 5, none⟩ = some a5 ∧ w.cell? ⟨g, 6, none⟩ = some a6 ∧ w.cell? ⟨g, 7, none⟩ = some a7 ∧ w.cell? ⟨g, 8, none⟩ = some a8 ∧ w.cell? ⟨g, 9, none⟩ = some a9 ∧ w.cell? ⟨g, 10, none⟩ = some a10 ∧ ∀ i, w.frozen? ⟨g, i, none⟩ = false := ⟨h.cell 0, h.cell 1, h.cell 2, h.cell 3, h.cell 4, h.cell 5, h.cell 6, h.cell 7, h.cell 8, h.cell 9, h.cell 10, h.frozen⟩
end Go.Proofs.YtfipdoofgbjbjaaGreat

/- A range over a function whose iterator turns nothing but blocks of its own, laid behind its entry: what its caller owes. No condition. -/
namespace Go.Proofs.YtfipdoofgbjbjaaGreat
open Go.RowKit
/-- all blocks from B on are as they were -/
def KeptFrom (B : Nat) (W W' : World) : Prop := W.heap.size ≤ W'.heap.size ∧ ∀ i, B ≤ i → i < W.heap.size → W'.heap[i]? = W.heap[i]?
theorem KeptFrom.refl (B : Nat) (W : World) : KeptFrom B W W := ⟨Nat.le_refl _, fun _ _ _ => rfl⟩
theorem KeptFrom.trans {B : Nat} {a b c : World} (h : KeptFrom B a b) (k : KeptFrom B b c) : KeptFrom B a c := ⟨Nat.le_trans h.1 k.1, fun i hi hl => (k.2 i hi (Nat.lt_of_lt_of_le hl h.1)).trans (h.2 i hi hl)⟩
theorem KeptFrom.ofBelow {B : Nat} {a b : World} (h : Below a.heap.size a b) : KeptFrom B a b := ⟨h.size, fun i _ hl => h.block i hl⟩
theorem KeptFrom.ofGrown {B g : Nat} {a b : World} (h : a.grownBy b (some g)) (hg : g < B) : KeptFrom B a b := ⟨h.size, fun i hi hl => h.block i hl (fun e => by cases e; omega)⟩
theorem KeptFrom.mono {B C : Nat} {a b : World} (h : KeptFrom B a b) (hc : B ≤ C) : KeptFrom C a b := ⟨h.1, fun i hi hl => h.2 i (Nat.le_trans hc hi) hl⟩
/-- the contract of an iterator that turns its own new blocks alone: N: how many elements there are; vs k: what yield is handed; Kp: what a round keeps for it -/
def FreshSeq (F : Fence) (m : Nat) (P : Program) (gf : Nat) (lb : Array Value) (vs : Nat → Array Value) (N : Nat) (Kp : World → World → Prop) (w0 : World) : Prop :=
  ∀ (l : Nat) (J Jx : Nat → World → Prop) (W : World), Below w0.heap.size w0 W → (∀ k A B, J k A → Below W.heap.size A B → J k B) →
    (∀ k W1, k < N → J k W1 → YieldAt F (m - 1) P l (vs k) W1 fun e W' => (e = .returned (.bool true) ∧ J (k + 1) W' ∧ KeptFrom W.heap.size W1 W' ∧ Kp W1 W') ∨ (e = .returned (.bool false) ∧ Jx (k + 1) W')) →
    J 0 W → CallsIn F m P gf (#[.func (.yield l) #[] #[]] ++ lb) W fun e W' => (∃ v, e = .returned v) ∧ (J N W' ∨ ∃ k, Jx k W')
/-- how a round may be left -/
def freshEnd (B0 : Nat) (I : Nat → World → Prop) (Ix : Code → Nat → World → Prop) (Kp : World → World → Prop) (k : Nat) (W : World) : Exit → Act → World → Prop
  | .normal, _, W' => KeptFrom B0 W W' ∧ I k W' ∧ Kp W W'
  | .ret, _, W' => KeptFrom B0 W W' ∧ Ix .ret k W'
  | .exit id, _, W' => KeptFrom B0 W W' ∧ Ix (.exit id) k W'
  | .goto t, _, W' => KeptFrom B0 W W' ∧ Ix (.goto t) k W'
  | .panic _, _, _ => False
  | .outgrown, _, _ => False
theorem below_put {B l : Nat} {W : World} (o : Obj) (hl : B ≤ l) : Below B W (W.putObj l o) :=
  ⟨rfl, rfl, rfl, by simp [World.putObj], fun i hi => World.putObj_heap_other (by omega)⟩
set_option maxHeartbeats 2000000 in
theorem wpIn_rangeFunc_fresh {F : Fence} {n : Nat} {P : Program} {g : Operand} {ps : Array Tmp} {assign body : Code} {Q : Exit → Act → World → Prop} {a : Act} {w : World} (hround : F.round = none) (h1 : 1 ≤ n)
    {gf : Nat} {lb : Array Value} (hg : a.eval g = .func (.func gf) #[] lb) (hin : F.fn gf) (eg : ∀ args w, (callFunc gf args).run P w = .ok (.enter gf args) w)
    {vs : Nat → Array Value} {N : Nat} {Kp : World → World → Prop} {w0 : World} (hseq : FreshSeq F (n - 1) P gf lb vs N Kp w0) (hb0 : Below w0.heap.size w0 w) (hvs : ∀ k, (vs k).size = ps.size)
    (hKt : ∀ A B C, Kp A B → Kp B C → Kp A C) (hKb : ∀ (W : World) (l : Nat) (o : Obj), w.heap.size ≤ l → Kp W (W.putObj l o))
    (I : Nat → World → Prop) (Ix : Code → Nat → World → Prop) (hI : ∀ k A B, I k A → Below w.heap.size A B → I k B) (hX : ∀ c k A B, Ix c k A → Below w.heap.size A B → Ix c k B) (h0 : I 0 w) (after : Nat → Act)
    (hassign : ∀ (l k : Nat) (W : World) (K : Act → World → Prop), K (after k) W → assign.wpIn (F.inRound l) (n - 1 - 1) P (Exit.then K (fun _ _ _ => False)) { tmps := (ps.zip (vs k)).foldl (fun t (p, v) => t.setIfInBounds p v) a.tmps, defers := [] } W)
    (hbody : ∀ (l k : Nat) (W : World), k < N → w.heap.size ≤ W.heap.size → I k W → body.wpIn (F.inRound l) (n - 1 - 1) P (freshEnd w.heap.size I Ix Kp (k + 1) W) (after k) W)
    (hdone : ∀ (b : Nat) (W : World), w.heap.size ≤ b → I N W → W.heap[b]? = some (.deferred (some [])) → Q .normal { a with defers := { target := .collected b, args := #[] } :: a.defers } W)
    (hstop : ∀ (b k : Nat) (c : Code) (W : World), w.heap.size ≤ b → Ix c k W → W.heap[b]? = some (.deferred (some [])) → c.wpIn F n P Q { a with defers := { target := .collected b, args := #[] } :: a.defers } W) :
    (Code.rangeFunc g ps assign body).wpIn F n P Q a w := by
  refine wpIn_rangeFunc fun fn hfn => ?_
  rw [hround]
  -- the record, by its state and the jump that is pending
  let mk : LoopState → Option Code → Obj := fun st pe => .loop { state := st, pending := pe, fn, tmps := a.tmps, params := ps, assign, body, defers := w.heap.size }
  generalize hW1 : (w.alloc (.deferred (some []))).alloc (mk .ready none) = W1
  have hz1 : W1.heap.size = w.heap.size + 2 := by rw [← hW1]; simp
  have rec1 : W1.heap[w.heap.size + 1]? = some (mk .ready none) := by
    have := World.alloc_heap_new (w.alloc (.deferred (some []))) (mk .ready none)
    rw [World.size_alloc] at this
    rw [← hW1]; exact this
  have def1 : W1.heap[w.heap.size]? = some (.deferred (some [])) := by
    rw [← hW1]; exact (Below.heap_alloc _ _ _ (by simp)).trans (World.alloc_heap_new w _)
  have hb1 : Below w.heap.size w W1 := by rw [← hW1]; exact ((Below.refl _ w).alloc (Nat.le_refl _) _).alloc (by simp) _
  refine ⟨w.heap.size + 1, [{ target := .collected w.heap.size, args := #[] }], W1, { target := .fn (.func gf) lb, args := #[.func (.yield (w.heap.size + 1)) #[] #[]] }, W1, gf, #[.func (.yield (w.heap.size + 1)) #[] #[]] ++ lb, W1,
    by rw [← hW1]; exact run_enterLoop_outer _ _ _ _ _, by simp only [resolve, hg]; simp [go_sem], fun f' hf' => by simp [Target.leads] at hf'; subst hf'; exact hin, by simp [invoke, go_sem, eg _ _], fun _ => h1, ?_⟩
  have hbw1 : Below w0.heap.size w0 W1 := ⟨hb1.os.trans hb0.os, hb1.tape.trans hb0.tape, hb1.output.trans hb0.output, Nat.le_trans hb0.size hb1.size, fun i hi => (hb1.block i (Nat.lt_of_lt_of_le hi hb0.size)).trans (hb0.block i hi)⟩
  refine (hseq (w.heap.size + 1) (fun k W => (I k W ∧ W1.heap.size ≤ W.heap.size) ∧ W.heap[w.heap.size + 1]? = some (mk .ready none) ∧ W.heap[w.heap.size]? = some (.deferred (some [])))
    (fun k W => ∃ c, Ix c k W ∧ W.heap[w.heap.size + 1]? = some (mk .done (some c)) ∧ W.heap[w.heap.size]? = some (.deferred (some []))) W1 hbw1 ?_ ?_
    ⟨⟨hI _ _ _ h0 hb1, Nat.le_refl _⟩, rec1, def1⟩).mono ?_
  · rintro k A B ⟨⟨hi, hs⟩, hl, hd⟩ hbl
    exact ⟨⟨hI _ _ _ hi ⟨hbl.os, hbl.tape, hbl.output, hbl.size, fun i hi => hbl.block i (by omega)⟩, Nat.le_trans hs hbl.size⟩, (hbl.block _ (by omega)).trans hl, (hbl.block _ (by omega)).trans hd⟩
  · -- a round
    rintro k W hk ⟨⟨hi, hs⟩, hl, hd⟩
    refine ⟨fn, _, assign, body, run_yield (P := P) (args := vs k) hl (by rw [hvs k]), roundIn_of_wpIn hfn (hassign _ k W _ ?_)⟩
    refine ⟨_, run_beginRound hl rfl, ?_⟩
    have hlt : w.heap.size + 1 < W.heap.size := (Array.getElem?_eq_some_iff.1 hl).1
    have hzp : (W.putObj (w.heap.size + 1) (mk .busy none)).heap.size = W.heap.size := by simp [World.putObj]
    have hl2 : (W.putObj (w.heap.size + 1) (mk .busy none)).heap[w.heap.size + 1]? = some (mk .busy none) := World.putObj_heap_same hlt
    have hd2 : (W.putObj (w.heap.size + 1) (mk .busy none)).heap[w.heap.size]? = some (.deferred (some [])) := (World.putObj_heap_other (by omega)).trans hd
    refine wpIn_mono (hbody _ k _ hk (by rw [hzp]; omega) (hI _ _ _ hi (below_put _ (by omega)))) ?_
    have over : ∀ (jump : Option Code) (W3 : World), KeptFrom w.heap.size (W.putObj (w.heap.size + 1) (mk .busy none)) W3 →
        W3.heap[w.heap.size + 1]? = some (mk .busy none) ∧ (Instr.endRound (w.heap.size + 1) jump).run P W3 = .ok (.bool jump.isNone) (W3.putObj (w.heap.size + 1) (mk (if jump.isNone then .ready else .done) jump)) ∧
        (W3.putObj (w.heap.size + 1) (mk (if jump.isNone then .ready else .done) jump)).heap[w.heap.size + 1]? = some (mk (if jump.isNone then .ready else .done) jump) ∧
        (W3.putObj (w.heap.size + 1) (mk (if jump.isNone then .ready else .done) jump)).heap[w.heap.size]? = some (.deferred (some [])) := fun jump W3 hk3 => by
      have hl3 := (hk3.2 _ (by omega) (by rw [hzp]; omega)).trans hl2
      exact ⟨hl3, run_endRound jump hl3, World.putObj_heap_same (Array.getElem?_eq_some_iff.1 hl3).1, (World.putObj_heap_other (by omega)).trans ((hk3.2 _ (Nat.le_refl _) (by rw [hzp]; omega)).trans hd2)⟩
    have keeps : ∀ (o o' : Obj) (W3 : World), KeptFrom w.heap.size (W.putObj (w.heap.size + 1) o) W3 → KeptFrom W1.heap.size W (W3.putObj (w.heap.size + 1) o') := fun o o' W3 hk3 => by
      have hz : (W.putObj (w.heap.size + 1) o).heap.size = W.heap.size := by simp [World.putObj]
      have hz3 : (W3.putObj (w.heap.size + 1) o').heap.size = W3.heap.size := by simp [World.putObj]
      refine ⟨by rw [hz3]; have := hk3.1; omega, fun i hi1 hi2 => ?_⟩
      rw [World.putObj_heap_other (by omega), hk3.2 i (by omega) (by omega), World.putObj_heap_other (by omega)]
    intro e a3 W3 hp
    have hz3 : ∀ o, (W3.putObj (w.heap.size + 1) o).heap.size = W3.heap.size := fun o => by simp [World.putObj]
    cases e with
    | normal =>
      obtain ⟨hk3, hi3, hq3⟩ := hp
      obtain ⟨hl3, hr, hl4, hd4⟩ := over none W3 hk3
      exact ⟨_, _, hr, .inl ⟨rfl, ⟨⟨hI _ _ _ hi3 (below_put _ (by omega)), by rw [hz3]; exact Nat.le_trans hs (Nat.le_trans (Nat.le_of_eq hzp.symm) hk3.1)⟩, hl4, hd4⟩, keeps _ _ _ hk3, hKt _ _ _ (hKb _ _ _ (by omega)) (hKt _ _ _ hq3 (hKb _ _ _ (by omega)))⟩⟩
    | ret =>
      obtain ⟨hl3, hr, hl4, hd4⟩ := over (some .ret) W3 hp.1
      exact ⟨_, _, hr, .inr ⟨rfl, _, hX _ _ _ _ hp.2 (below_put _ (by omega)), hl4, hd4⟩⟩
    | exit id =>
      obtain ⟨hl3, hr, hl4, hd4⟩ := over (some (.exit id)) W3 hp.1
      exact ⟨_, _, hr, .inr ⟨rfl, _, hX _ _ _ _ hp.2 (below_put _ (by omega)), hl4, hd4⟩⟩
    | goto t =>
      obtain ⟨hl3, hr, hl4, hd4⟩ := over (some (.goto t)) W3 hp.1
      exact ⟨_, _, hr, .inr ⟨rfl, _, hX _ _ _ _ hp.2 (below_put _ (by omega)), hl4, hd4⟩⟩
    | panic _ => exact hp.elim
    | outgrown => exact hp.elim
  · -- behind the iterator
    rintro e W2 ⟨⟨v, rfl⟩, ⟨⟨hi, hs⟩, hl, hd⟩ | ⟨k, c, hx, hl, hd⟩⟩
    · exact ⟨none, _, run_endLoop hl (by simp), hdone _ _ (Nat.le_refl _) (hI _ _ _ hi (below_put _ (by omega))) ((World.putObj_heap_other (by omega)).trans hd)⟩
    · exact ⟨some c, _, run_endLoop hl (by simp), hstop _ k c _ (Nat.le_refl _) (hX _ _ _ _ hx (below_put _ (by omega))) ((World.putObj_heap_other (by omega)).trans hd)⟩
end Go.Proofs.YtfipdoofgbjbjaaGreat

/- package reader: own of the statements, and the rows of readers. No condition but sizes. -/
namespace Go.Proofs.YtfipdoofgbjbjaaGreat
open Go.RowKit
@[reducible] def rv (now : Int) (A : Option Addr) (n c : Nat) (B : Option Addr) (m d : Nat) : Value := .agg #[.int .i64 now, .slice A n c, .slice B m d]
end Go.Proofs.YtfipdoofgbjbjaaGreat

/- package reader: the iterator sections. No condition but sizes, and that the rows are of one length. -/
namespace Go.Proofs.YtfipdoofgbjbjaaGreat
open Go.RowKit Go.Shelf
attribute [local go_sem] Oper.semAt_some

theorem sections_any (now : Int) (A : Option Addr) (n c : Nat) (B : Option Addr) (m d : Nat) (w : World) :
    Calls Tryz.prog 95 #[rv now A n c B m d] w fun e w' => e = .returned (.func (.func 129) #[] #[.pointer (some ⟨w.heap.size, 0, none⟩)]) ∧ w.alloc (.cells #[.int .i64 now, .slice A n c, .slice B m d] 24) = w' := by
  go_enter Tryz.func95, Tryz.ntmps95
  go_wp2
  go_ret
  exact ⟨rfl, rfl⟩

/-- what the body of a loop over the sections must keep: all below n₀, and the iterator's box -/
def KeepsBox (n₀ Bs : Nat) (A B : World) : Prop := Below n₀ A B ∧ B.heap[Bs]? = A.heap[Bs]?
theorem KeepsBox.refl (n₀ Bs : Nat) (A : World) : KeepsBox n₀ Bs A A := ⟨Below.refl _ _, rfl⟩
theorem KeepsBox.trans {n₀ Bs : Nat} {A B C : World} (h : KeepsBox n₀ Bs A B) (k : KeepsBox n₀ Bs B C) : KeepsBox n₀ Bs A C := ⟨h.1.trans k.1, k.2.trans h.2⟩
theorem KeepsBox.blk {n₀ Bs : Nat} {A B : World} {t : TypeId} {cs : Array Value} (h : KeepsBox n₀ Bs A B) (hb : Blk A Bs t cs) : Blk B Bs t cs := h.2.trans hb
theorem keepsBox_put {n₀ Bs : Nat} {w : World} (hn : n₀ ≤ w.heap.size) (hb : Bs < w.heap.size) (W : World) (l : Nat) (o o' : Obj) (hl : w.heap.size ≤ l) (h : W.heap[l]? = some o) (h1 : o.isCells = false) (h2 : o.isWalk = false) : KeepsBox n₀ Bs W (W.putObj l o') :=
  ⟨belowK_b hn W l o o' hl h h1 h2, (grownBy_putObj' W l o').block Bs (by have := (Array.getElem?_eq_some_iff.1 h).1; omega) (by simp; omega)⟩

/-- the sections among the first k CPUs -/
def secL (ns os : List Int) : Nat → List (Int × Int)
  | 0 => []
  | k + 1 => if 0 < ns[k]?.getD 0 then secL ns os k ++ [((k : Int), os[k]?.getD 0)] else secL ns os k
theorem secL_length (ns os : List Int) : ∀ k, (secL ns os k).length ≤ k
  | 0 => by simp [secL]
  | k + 1 => by
    have := secL_length ns os k
    rw [secL]; split <;> simp <;> omega

set_option maxRecDepth 100000 in
set_option maxHeartbeats 2000000 in
theorem sec1_in (M l Bs n₀ : Nat) (now : Int) (A : Option Addr) (n c : Nat) (B : Option Addr) (d lo : Nat) (ns os : List Int) (hm : 1 ≤ M) (hn : n ≤ 1000000) (J Jx : List (Int × Int) → World → Prop)
    (hY : ∀ pre x W, J pre W → pre.length < n → YieldAt Fence.wide (M - 1) Tryz.prog l #[.int .i64 x.1, .int .i64 x.2] W fun e W' =>
      (e = .returned (.bool true) ∧ J (pre ++ [x]) W' ∧ KeepsBox n₀ Bs W W') ∨ (e = .returned (.bool false) ∧ Jx (pre ++ [x]) W'))
    (W : World) (hb : Blk W Bs 24 #[.int .i64 now, .slice A n c, .slice B n d]) (hx : Sl i64 0 W lo n₀ A n ns) (hy : Sl i64 0 W lo n₀ B n os) (h0 : J [] W) :
    CallsIn Fence.wide M Tryz.prog 129 #[.func (.yield l) #[] #[], .pointer (some ⟨Bs, 0, none⟩)] W fun e W' => (∃ v, e = .returned v) ∧
      (J (secL ns os n) W' ∨ ∃ k, k < n ∧ 0 < ns[k]?.getD 0 ∧ Jx (secL ns os (k + 1)) W') := by
  refine callsIn_of_wp Tryz.func129 rfl trivial ?_ rfl
  simp only [Tryz.ntmps129, List.size_toArray, List.length_cons, List.length_nil, Nat.reduceAdd, Nat.reduceSub, Array.replicate_succ, Array.replicate_zero, List.push_toArray, List.append_toArray, List.nil_append, List.cons_append]
  obtain ⟨k0, k1, k2, kf⟩ := hb.cells3
  have HX := hid hx; have HY := hid hy; clear hx hy
  gi_wp2
  gi_loopw [8] (fun i wr => ∃ k : Nat, k ≤ n ∧ i = .int .i64 k ∧ J (secL ns os k) wr ∧ KeepsBox n₀ Bs W wr) (fun i _ => n - (intOf i).toNat)
  case atStart => exact ⟨0, Nat.zero_le _, by simp, h0, KeepsBox.refl _ _ _⟩
  case round =>
    obtain ⟨k, hk, rfl, hJs, hnx⟩ := hrel
    obtain ⟨m0, m1, m2, mf⟩ := (hnx.blk hb).cells3
    by_cases hlt : k < n
    · obtain ⟨b, off, rfl, _, hbB, hc⟩ := HX.out.row (by omega)
      have g : wr.cell? ⟨b, off + k, none⟩ = some (.int .i64 (ns[k]?.getD 0)) := (hnx.1.cell (p := ⟨b, off + k, none⟩) hbB).trans (hc _ hlt)
      obtain ⟨b', off', rfl, _, hbB', hc'⟩ := HY.out.row (by omega)
      have g' : wr.cell? ⟨b', off' + k, none⟩ = some (.int .i64 (os[k]?.getD 0)) := (hnx.1.cell (p := ⟨b', off' + k, none⟩) hbB').trans (hc' _ hlt)
      clear hc hc'
      have hsucc := hid (show secL ns os (k + 1) = if 0 < ns[k]?.getD 0 then secL ns os k ++ [((k : Int), os[k]?.getD 0)] else secL ns os k from rfl)
      obtain ⟨x, hX⟩ : ∃ x, x = ns[k]?.getD 0 := ⟨_, rfl⟩
      obtain ⟨y, hY'⟩ : ∃ y, y = os[k]?.getD 0 := ⟨_, rfl⟩
      rw [← hX] at g hsucc
      rw [← hY'] at g' hsucc
      have HXk := hid hX
      clear hX hY'
      by_cases hpos : 0 < x
      · rw [if_pos hpos] at hsucc
        obtain ⟨fn, tmps, assign, body, hy, hR⟩ := hY _ ((k : Int), y) wr hJs (Nat.lt_of_le_of_lt (secL_length ns os k) hlt)
        gi_wp2
        refine hR.mono ?_
        rintro e W3 (⟨rfl, hJ3, hk3⟩ | ⟨rfl, hJx3⟩)
        · gi_wp2
          go_roundw
          case rel => exact ⟨k + 1, by omega, by go_num, by rw [hsucc.out]; exact hJ3, hnx.trans hk3⟩
          case measure => simp [intOf]; omega
        · gi_wp2
          refine bodyPost_ret (results_none rfl _ _ _) rfl ?_
          exact ⟨⟨_, rfl⟩, .inr ⟨k, hlt, by rw [← HXk.out]; exact hpos, by rw [hsucc.out]; exact hJx3⟩⟩
      · rw [if_neg hpos] at hsucc
        have hp' : decide (0 < x) = false := by simpa using hpos
        gi_wp2
        refine ⟨fun f h => (by cases h), ?_⟩
        gi_wp2
        go_roundw
        case rel => exact ⟨k + 1, by omega, by go_num, by rw [hsucc.out]; exact hJs, hnx⟩
        case measure => simp [intOf]; omega
    · obtain rfl : k = n := by omega
      gi_wp2
      go_end0
      exact ⟨⟨_, rfl⟩, .inl hJs⟩

theorem sec_stops (M Bs n₀ : Nat) (now : Int) (A : Option Addr) (n c : Nat) (B : Option Addr) (d lo : Nat) (ns os : List Int) (hm : 1 ≤ M) (hn : n ≤ 1000000) (w : World) (hBs : Bs < w.heap.size) (hn₀ : n₀ ≤ w.heap.size)
    (hb : Blk w Bs 24 #[.int .i64 now, .slice A n c, .slice B n d]) (hx : Sl i64 0 w lo n₀ A n ns) (hy : Sl i64 0 w lo n₀ B n os) :
    SeqStopsK Fence.wide M Tryz.prog 129 #[.pointer (some ⟨Bs, 0, none⟩)] (fun x : Int × Int => #[Value.int .i64 x.1, Value.int .i64 x.2]) (KeepsBox n₀ Bs) (fun ys => ys = secL ns os n) (fun pre => ∃ k, k < n ∧ 0 < ns[k]?.getD 0 ∧ pre = secL ns os (k + 1)) n w :=
  fun l J Jx W hW _ _ hY h0 => by
    refine (sec1_in M l Bs n₀ now A n c B d lo ns os hm hn J Jx hY W (hb.below hW hBs) (hx.below hW hn₀) (hy.below hW hn₀) h0).mono ?_
    rintro e W' ⟨he, hj | ⟨k, hk, hp, hj⟩⟩
    · exact ⟨he, .inl ⟨_, rfl, hj⟩⟩
    · exact ⟨he, .inr ⟨_, ⟨k, hk, hp, rfl⟩, hj⟩⟩
end Go.Proofs.YtfipdoofgbjbjaaGreat

/- package reader: Check. No condition but sizes. -/
namespace Go.Proofs.YtfipdoofgbjbjaaGreat
open Go.RowKit Go.Shelf Go.Maps

def Shape (now : Int) (ns os : List Int) : Prop := 1 ≤ ns.length ∧ ns.length ≤ 8 ∧ os.length = ns.length ∧ 0 ≤ now ∧ now ≤ 2147483647
def RowOk (ns os : List Int) (k : Nat) : Prop := 0 ≤ ns[k]?.getD 0 ∧ ns[k]?.getD 0 ≤ 8 ∧ (ns[k]?.getD 0 = 0 → os[k]?.getD 0 = 0)
def AtsOk (now : Int) (l : List Int) : Prop := (∀ a ∈ l, 1 ≤ a ∧ a ≤ now) ∧ l.Nodup
def Good (now : Int) (ns os : List Int) : Prop := Shape now ns os ∧ (∀ k, k < ns.length → RowOk ns os k) ∧ AtsOk now ((secL ns os ns.length).map Prod.snd)
section
variable {now : Int} {ns os l : List Int} {k : Nat}
instance : Decidable (Shape now ns os) := by unfold Shape; infer_instance
instance : Decidable (RowOk ns os k) := by unfold RowOk; infer_instance
instance : Decidable (AtsOk now l) := by unfold AtsOk; infer_instance
instance : Decidable (Good now ns os) := by unfold Good; infer_instance
end

set_option maxHeartbeats 2000000 in
theorem check_shape (now : Int) (A : Option Addr) (n c : Nat) (B : Option Addr) (m d lo : Nat) (ns os : List Int) (w : World) (hx : Sl i64 0 w lo w.heap.size A n ns) (hy : Sl i64 0 w lo w.heap.size B m os) (hn : n ≤ 1000000) (hm : m ≤ 1000000) (hs : ¬ Shape now ns os) :
    Calls Tryz.prog 58 #[rv now A n c B m d] w fun e w' => e = .returned (.int .i64 210) ∧ Below w.heap.size w w' := by
  have hs' : n < 1 ∨ 8 < n ∨ m ≠ n ∨ now < 0 ∨ 2147483647 < now := by
    unfold Shape at hs
    rw [hx.len, hy.len] at hs
    omega
  have h1' := fun h : ¬ n < 1 => (show ¬ (n : Int) < 1 by omega)
  clear hx hy hs
  have hB := hid (below_box w (.cells #[.int .i64 now, .slice A n c, .slice B m d] 24))
  obtain ⟨k0, k1, k2, kf⟩ := (Blk.new w 24 #[.int .i64 now, .slice A n c, .slice B m d]).cells3
  by_cases h1 : n < 1
  · have h1i : (n : Int) < 1 := by omega
    clear hs' h1'
    go_enter Tryz.func58, Tryz.ntmps58
    go_wp2_with fail
    go_step3
    go_wp2_with fail
    rw [Exit.noGoto_ret]
    go_ret
    exact ⟨rfl, hB.out⟩
  have h1i : ¬ (n : Int) < 1 := by omega
  by_cases h2 : 8 < n
  · have h2i : (8 : Int) < (n : Int) := by omega
    clear hs' h1'
    go_enter Tryz.func58, Tryz.ntmps58
    go_wp2_with fail
    go_step3
    go_wp2_with fail
    rw [Exit.noGoto_ret]
    go_ret
    exact ⟨rfl, hB.out⟩
  have h2i : ¬ (8 : Int) < (n : Int) := by omega
  by_cases h3 : m = n
  · subst h3
    by_cases h4 : now < 0
    · clear hs' h1'
      go_enter Tryz.func58, Tryz.ntmps58
      go_wp2_with fail
      go_step3
      go_wp2_with fail
      rw [Exit.noGoto_ret]
      go_ret
      exact ⟨rfl, hB.out⟩
    · have h5 : 2147483647 < now := by omega
      clear hs' h1'
      go_enter Tryz.func58, Tryz.ntmps58
      go_wp2_with fail
      go_step3
      go_wp2_with fail
      rw [Exit.noGoto_ret]
      go_ret
      exact ⟨rfl, hB.out⟩
  · have h3i : ((m : Int) == (n : Int)) = false := by simp; omega
    clear hs' h1'
    go_enter Tryz.func58, Tryz.ntmps58
    go_wp2_with fail
    go_step3
    go_wp2_with fail
    rw [Exit.noGoto_ret]
    go_ret
    exact ⟨rfl, hB.out⟩

set_option maxHeartbeats 2000000 in
theorem check_rows (now : Int) (A : Option Addr) (n c : Nat) (B : Option Addr) (d lo : Nat) (ns os : List Int) (w : World) (hx : Sl i64 0 w lo w.heap.size A n ns) (hy : Sl i64 0 w lo w.heap.size B n os) (h1 : 1 ≤ n) (h8 : n ≤ 8) (h3 : 0 ≤ now) (h4 : now ≤ 2147483647) (hs : ∃ k, k < n ∧ ¬ RowOk ns os k) :
    Calls Tryz.prog 58 #[rv now A n c B n d] w fun e w' => e = .returned (.int .i64 210) ∧ Below w.heap.size w w' := by
  have hB := below_then (below_then (below_box w (.cells #[.int .i64 now, .slice A n c, .slice B n d] 24)) (below_box _ (.map #[] 0))) (below_box _ (.cells #[.map (some (w.heap.size + 1))] 130))
  obtain ⟨k0, k1, k2, kf⟩ := (Blk.new w 24 #[.int .i64 now, .slice A n c, .slice B n d]).cells3
  have P := ((Blk.new w 24 #[.int .i64 now, .slice A n c, .slice B n d]).step (below_box _ (.map #[] 0))).step (below_box _ (.cells #[.map (some (w.heap.size + 1))] 130))
  have SX := (hx.mono (Nat.le_refl _) (Nat.le_refl _)).step hB
  have SY := (hy.mono (Nat.le_refl _) (Nat.le_refl _)).step hB
  have HS := hid hs
  clear hx hy hs
  have hmm := @run_makeMap Tryz.prog
  have i1 : ¬ (n : Int) < 1 := by omega
  have i2 : ¬ (8 : Int) < (n : Int) := by omega
  have HP := hid P; have HX := hid SX; have HY := hid SY; have HB := hid hB
  clear P SX SY hB
  go_enter Tryz.func58, Tryz.ntmps58
  go_wp2_with fail
  go_step3
  go_wp2_with fail
  clear k0 k1 k2 kf hmm
  generalize ((w.alloc (.cells #[.int .i64 now, .slice A n c, .slice B n d] 24)).alloc (.map #[] 0)).alloc (.cells #[.map (some (w.heap.size + 1))] 130) = W0 at *
  go_loopw [42] (fun i wr => ∃ k : Nat, k ≤ n ∧ i = .int .i64 k ∧ (∀ j, j < k → RowOk ns os j) ∧ wr = W0) (fun i _ => n - (intOf i).toNat)
  case atStart => exact ⟨0, Nat.zero_le _, rfl, fun j h => absurd h (Nat.not_lt_zero _), rfl⟩
  case round =>
    obtain ⟨k, hk, rfl, hall, rfl⟩ := hrel
    have HALL := hid hall
    clear hall
    by_cases hlt : k < n
    · obtain ⟨k0, k1, k2, kf⟩ := HP.out.cells3
      obtain ⟨b, off, rfl, _, _, hc⟩ := HX.out.row (by omega)
      have g : wr.cell? ⟨b, off + k, none⟩ = some (.int .i64 (ns[k]?.getD 0)) := hc k hlt
      obtain ⟨b', off', rfl, _, _, hc'⟩ := HY.out.row (by omega)
      have g' : wr.cell? ⟨b', off' + k, none⟩ = some (.int .i64 (os[k]?.getD 0)) := hc' k hlt
      clear hc hc'
      obtain ⟨x, hX⟩ : ∃ x, x = ns[k]?.getD 0 := ⟨_, rfl⟩
      obtain ⟨y, hY'⟩ : ∃ y, y = os[k]?.getD 0 := ⟨_, rfl⟩
      rw [← hX] at g
      rw [← hY'] at g'
      have HR : Hid (RowOk ns os k ↔ (0 ≤ x ∧ x ≤ 8 ∧ (x = 0 → y = 0))) := hid (by unfold RowOk; rw [← hX, ← hY'])
      clear hX hY'
      by_cases e1 : x < 0
      · go_wp2
        try rw [Exit.noGoto_ret]
        go_ret
        exact ⟨rfl, HB.out⟩
      by_cases e2 : 8 < x
      · go_wp2
        try rw [Exit.noGoto_ret]
        go_ret
        exact ⟨rfl, HB.out⟩
      by_cases e3 : x = 0
      · subst e3
        by_cases e4 : y = 0
        · subst e4
          go_wp2
          go_roundw
          case rel => exact ⟨k + 1, by omega, by go_num, below_succ HALL.out (HR.out.2 ⟨by omega, by omega, fun _ => rfl⟩), trivial⟩
          case measure => simp [intOf]; omega
        · have e4' : (y != 0) = true := by simpa using e4
          go_wp2
          try rw [Exit.noGoto_ret]
          go_ret
          exact ⟨rfl, HB.out⟩
      · have e3' : (x == 0) = false := by simpa using e3
        go_wp2
        go_roundw
        case rel => exact ⟨k + 1, by omega, by go_num, below_succ HALL.out (HR.out.2 ⟨by omega, by omega, fun h => absurd h e3⟩), trivial⟩
        case measure => simp [intOf]; omega
    · obtain rfl : k = n := by omega
      obtain ⟨j, hj, hbad⟩ := HS.out
      exact absurd (HALL.out j hj) hbad
end Go.Proofs.YtfipdoofgbjbjaaGreat

/- package reader: Check, where the rows may be: the loop over sections. No condition but sizes. -/
namespace Go.Proofs.YtfipdoofgbjbjaaGreat
open Go.RowKit Go.Shelf Go.Maps
attribute [local go_sem] Oper.semAt_some

/-- the map of what was met -/
def metD {H : Type} (pre : List (Int × Int)) : DataW H := pre.foldl (fun D x => D.put (.int .i64 x.2) (.lit (.int .i64 1))) (.map [])
theorem metD_snoc {H : Type} (pre : List (Int × Int)) (x : Int × Int) : metD (H := H) (pre ++ [x]) = (metD pre).put (.int .i64 x.2) (.lit (.int .i64 1)) := by simp [metD]
theorem metD_fold {H : Type} (a : Int) : ∀ (pre : List (Int × Int)) (D : DataW H), IsMap D → IsMap (pre.foldl (fun D x => D.put (.int .i64 x.2) (.lit (.int .i64 1))) D) ∧
    (pre.foldl (fun D x => D.put (.int .i64 x.2) (.lit (.int .i64 1))) D).atKey (.int .i64 a) (.lit (.int .i64 0)) = (if a ∈ pre.map Prod.snd then .lit (.int .i64 1) else D.atKey (.int .i64 a) (.lit (.int .i64 0)))
  | [], D, h => by simpa using h
  | x :: pre, D, h => by
    obtain ⟨h1, h2⟩ := metD_fold a pre (D.put (.int .i64 x.2) (.lit (.int .i64 1))) (h.put _ _)
    refine ⟨h1, ?_⟩
    rw [List.foldl_cons, h2]
    by_cases e : a ∈ pre.map Prod.snd
    · simp [e]
    · rw [if_neg e]
      by_cases e2 : a = x.2
      · subst e2
        rw [atKey_put_same h (by unfold WideAt.IsKeyLit; trivial)]
        simp
      · rw [atKey_put_other (fun h => e2 (by injection h))]
        simp [e2] at e ⊢
        simp [e]
theorem metD_at {H : Type} (pre : List (Int × Int)) (a : Int) : (metD (H := H) pre).atKey (.int .i64 a) (.lit (.int .i64 0)) = .lit (.int .i64 (if a ∈ pre.map Prod.snd then 1 else 0)) := by
  have := (metD_fold (H := H) a pre (.map []) isMap_empty).2
  rw [metD, this]
  by_cases e : a ∈ pre.map Prod.snd
  · rw [if_pos e, if_pos e]
  · rw [if_neg e, if_neg e]; rfl
theorem atsOk_snoc {now : Int} {l : List Int} {a : Int} : AtsOk now (l ++ [a]) ↔ AtsOk now l ∧ 1 ≤ a ∧ a ≤ now ∧ a ∉ l := by
  unfold AtsOk
  constructor
  · rintro ⟨h1, h2⟩
    rw [List.nodup_append] at h2
    refine ⟨⟨fun b hb => h1 b (by simp [hb]), h2.1⟩, (h1 a (by simp)).1, (h1 a (by simp)).2, fun hb => h2.2.2 a hb a (by simp) rfl⟩
  · rintro ⟨⟨h1, h2⟩, h3, h4, h5⟩
    refine ⟨fun b hb => ?_, ?_⟩
    · rcases List.mem_append.1 hb with hb | hb
      · exact h1 b hb
      · simp at hb; subst hb; exact ⟨h3, h4⟩
    · rw [List.nodup_append]
      exact ⟨h2, by simp, fun b hb c hc e => by simp at hc; subst hc; exact h5 (e ▸ hb)⟩

theorem secL_prefix (ns os : List Int) {k : Nat} : ∀ {n : Nat}, k ≤ n → secL ns os k <+: secL ns os n
  | 0, h => by obtain rfl : k = 0 := by omega
               exact List.prefix_rfl
  | n + 1, h => by
    by_cases e : k = n + 1
    · subst e; exact List.prefix_rfl
    · have ih := secL_prefix ns os (k := k) (n := n) (by omega)
      rw [secL]
      split
      · exact ih.trans (List.prefix_append _ _)
      · exact ih
theorem atsOk_prefix {now : Int} {a b : List (Int × Int)} (h : a <+: b) (hb : AtsOk now (b.map Prod.snd)) : AtsOk now (a.map Prod.snd) := by
  obtain ⟨t, rfl⟩ := h
  rw [List.map_append] at hb
  exact ⟨fun x hx => hb.1 x (List.mem_append_left _ hx), (List.nodup_append.1 hb.2).1⟩

set_option maxRecDepth 100000 in
set_option maxHeartbeats 4000000 in
theorem check_ats {H : Type} (now : Int) (A : Option Addr) (n c : Nat) (B : Option Addr) (d lo : Nat) (ns os : List Int) (w : World) (hx : Sl i64 0 w lo w.heap.size A n ns) (hy : Sl i64 0 w lo w.heap.size B n os) (h1 : 1 ≤ n) (h8 : n ≤ 8) (h3 : 0 ≤ now) (h4 : now ≤ 2147483647) (hs : ∀ k, k < n → RowOk ns os k) :
    CallsIn Fence.wide 5 Tryz.prog 58 #[rv now A n c B n d] w fun e w' => e = .returned (.int .i64 (if AtsOk now ((secL ns os n).map Prod.snd) then 0 else 210)) ∧ Below w.heap.size w w' := by
  have hB := below_then (below_then (below_box w (.cells #[.int .i64 now, .slice A n c, .slice B n d] 24)) (below_box _ (.map #[] 0))) (below_box _ (.cells #[.map (some (w.heap.size + 1))] 130))
  obtain ⟨k0, k1, k2, kf⟩ := (Blk.new w 24 #[.int .i64 now, .slice A n c, .slice B n d]).cells3
  have P := ((Blk.new w 24 #[.int .i64 now, .slice A n c, .slice B n d]).step (below_box _ (.map #[] 0))).step (below_box _ (.cells #[.map (some (w.heap.size + 1))] 130))
  have SX := (hx.mono (Nat.le_refl _) (Nat.le_refl _)).step hB
  have SY := (hy.mono (Nat.le_refl _) (Nat.le_refl _)).step hB
  have hmm := @run_makeMap Tryz.prog
  have i1 : ¬ (n : Int) < 1 := by omega
  have i2 : ¬ (8 : Int) < (n : Int) := by omega
  have HP := hid P; have HX := hid SX; have HY := hid SY; have HB := hid hB; have HSx := hid hx; have HSy := hid hy
  have HR := hid hs
  clear P SX SY hB hx hy hs
  refine callsIn_of_wp_marks Tryz.func58 rfl trivial ?_ rfl
  simp only [Tryz.ntmps58, List.size_toArray, List.length_cons, List.length_nil, Nat.reduceAdd, Nat.reduceSub, Array.replicate_succ, Array.replicate_zero, List.push_toArray, List.append_toArray, List.nil_append, List.cons_append]
  refine wpIn_wide.2 ?_
  go_wp2_with fail
  go_step3
  go_wp2_with fail
  clear k0 k1 k2 kf hmm
  have hz0 : (((w.alloc (.cells #[.int .i64 now, .slice A n c, .slice B n d] 24)).alloc (.map #[] 0)).alloc (.cells #[.map (some (w.heap.size + 1))] 130)).heap.size = w.heap.size + 3 := by simp
  have HM := hid ((World.ownsMap_made (w.alloc (.cells #[.int .i64 now, .slice A n c, .slice B n d] 24)) Tryz.prog 3 (plainElem (H := H) Tryz.prog 3)).alloc (.cells #[.map (some (w.heap.size + 1))] 130))
  have HMB := hid (Blk.new2 (w.alloc (.cells #[.int .i64 now, .slice A n c, .slice B n d] 24)) 130 #[.map (some (w.heap.size + 1))] (.map #[] 0))
  simp only [World.size_alloc] at HM HMB
  generalize ((w.alloc (.cells #[.int .i64 now, .slice A n c, .slice B n d] 24)).alloc (.map #[] 0)).alloc (.cells #[.map (some (w.heap.size + 1))] 130) = W0 at *
  have HZ0 := hid hz0
  clear hz0
  go_loopw [42] (fun i wr => ∃ k : Nat, k ≤ n ∧ i = .int .i64 k ∧ wr = W0) (fun i _ => n - (intOf i).toNat)
  case atStart => exact ⟨0, Nat.zero_le _, rfl, rfl⟩
  case round =>
    obtain ⟨k, hk, rfl, rfl⟩ := hrel
    by_cases hlt : k < n
    · obtain ⟨k0, k1, k2, kf⟩ := HP.out.cells3
      obtain ⟨b, off, rfl, _, _, hc⟩ := HX.out.row (by omega)
      have g : wr.cell? ⟨b, off + k, none⟩ = some (.int .i64 (ns[k]?.getD 0)) := hc k hlt
      obtain ⟨b', off', rfl, _, _, hc'⟩ := HY.out.row (by omega)
      have g' : wr.cell? ⟨b', off' + k, none⟩ = some (.int .i64 (os[k]?.getD 0)) := hc' k hlt
      clear hc hc'
      obtain ⟨x, hX⟩ : ∃ x, x = ns[k]?.getD 0 := ⟨_, rfl⟩
      obtain ⟨y, hY'⟩ : ∃ y, y = os[k]?.getD 0 := ⟨_, rfl⟩
      rw [← hX] at g
      rw [← hY'] at g'
      obtain ⟨e1, e2, e3⟩ : 0 ≤ x ∧ x ≤ 8 ∧ (x = 0 → y = 0) := by have := HR.out k hlt; unfold RowOk at this; rwa [← hX, ← hY'] at this
      have E1 : ¬ x < 0 := by omega
      have E2 : ¬ 8 < x := by omega
      clear hX hY' e1 e2
      by_cases e4 : x = 0
      · obtain rfl : y = 0 := e3 e4
        subst e4
        clear e3
        go_wp2
        go_roundw
        case rel => exact ⟨k + 1, by omega, by go_num, trivial⟩
        case measure => simp [intOf]; omega
      · have e3' : (x == 0) = false := by simpa using e4
        clear e3
        go_wp2
        go_roundw
        case rel => exact ⟨k + 1, by omega, by go_num, trivial⟩
        case measure => simp [intOf]; omega
    · obtain rfl : n = k := by omega
      obtain ⟨k0, k1, k2, kf⟩ := HP.out.cells3
      go_wp2_with fail
      go_step3
      have P1 := HP.out.alloc (.cells #[.bool true] 4)
      have POK := Blk.new wr 4 #[.bool true]
      have HM1 := HM.out.alloc (.cells #[.bool true] 4)
      have MB1 := HMB.out.alloc (.cells #[.bool true] 4)
      have hz1 : (wr.alloc (.cells #[.bool true] 4)).heap.size = w.heap.size + 4 := by have := HZ0.out; simp; omega
      have hB1 := below_then HB.out (below_box wr (.cells #[.bool true] 4))
      obtain ⟨q0, q1, q2, qf⟩ := P1.cells3
      have HZ1 := hid hz1
      clear k0 k1 k2 kf hz1
      go_wp2_with fail
      generalize wr.alloc (.cells #[.bool true] 4) = W1 at *
      clear q0 q1 q2 qf
      refine (sections_any _ _ _ _ _ _ _ _).mono ?_
      rintro e W2 ⟨rfl, rfl⟩
      go_wp2_with fail
      have B2 := Blk.new W1 24 #[.int .i64 now, .slice A n c, .slice B n d]
      have hs2 : (W1.alloc (.cells #[.int .i64 now, .slice A n c, .slice B n d] 24)).heap.size = W1.heap.size + 1 := by simp
      replace P1 := P1.alloc (.cells #[.int .i64 now, .slice A n c, .slice B n d] 24)
      replace POK := POK.alloc (.cells #[.int .i64 now, .slice A n c, .slice B n d] 24)
      replace MB1 := MB1.alloc (.cells #[.int .i64 now, .slice A n c, .slice B n d] 24)
      replace HM1 := HM1.alloc (.cells #[.int .i64 now, .slice A n c, .slice B n d] 24)
      have hB2 := below_then hB1 (below_box W1 (.cells #[.int .i64 now, .slice A n c, .slice B n d] 24))
      generalize W1.alloc (.cells #[.int .i64 now, .slice A n c, .slice B n d] 24) = W2 at *
      have hz0 := HZ0.out; have hz1 := HZ1.out
      refine (wpIn_wide (n := 5)).1 ?_
      refine' wpIn_rangeFunc_ownG rfl (by omega) (gf := 129) (lb := #[.pointer (some ⟨W1.heap.size, 0, none⟩)]) rfl trivial (enters_of Tryz.func129 (by kernel_rfl) rfl)
        (sec_stops (5 - 1) W1.heap.size w.heap.size now A n c B d lo ns os (by omega) (by omega) W2 (by omega) (by omega) B2 (HSx.out.below hB2 (Nat.le_refl _)) (HSy.out.below hB2 (Nat.le_refl _))) (fun h k => h.trans k) (keepsBox_put (by omega) (by omega)) (Below.refl _ _) (fun _ => rfl)
        (fun pre W => (Blk W w.heap.size 24 #[.int .i64 now, .slice A n c, .slice B n d] ∧ Blk W wr.heap.size 4 #[.bool true] ∧ Blk W (w.heap.size + 1 + 1) 130 #[.map (some (w.heap.size + 1))] ∧ W.ownsMap Tryz.prog 3 (plainElem (H := H) Tryz.prog 3) (w.heap.size + 1) pre.length (metD pre) ∧ AtsOk now (pre.map Prod.snd) ∧ W1.heap.size < W.heap.size) ∧ Below w.heap.size w W)
        (fun cc pre W => (cc = .exit 2 ∧ Blk W wr.heap.size 4 #[.bool false] ∧ ¬ AtsOk now (pre.map Prod.snd)) ∧ Below w.heap.size w W)
        ?own ?ownx ?start _ ?assign ?body ?done ?stop
      all_goals clear hz0 hz1
      case assign =>
        intro l x W K hK
        gi_wp2
        exact hK
      case own => exact OwnFrom.and (fun s A B row hs hg hr => ⟨hs.1.abides hg (fun r e => (hr r e).2), hs.2.1.abides hg (fun r e => (hr r e).2), hs.2.2.1.abides hg (fun r e => (hr r e).2), hs.2.2.2.1.kept hg (fun e => by have := (hr _ e.symm).1; have := HZ0.out; have := HZ1.out; omega), hs.2.2.2.2.1, Nat.lt_of_lt_of_le hs.2.2.2.2.2 hg.size⟩) (ownFrom_below (Nat.le_refl _) (by have := HZ0.out; have := HZ1.out; omega))
      case ownx => exact fun cc => OwnFrom.and (fun s A B row hs hg hr => ⟨hs.1, hs.2.1.abides hg (fun r e => (hr r e).2), hs.2.2⟩) (ownFrom_below (Nat.le_refl _) (by have := HZ0.out; have := HZ1.out; omega))
      case start => exact ⟨⟨P1, POK, MB1, HM1, by simp [AtsOk], by omega⟩, hB2⟩
      case body =>
        rintro l pre ⟨cpu, a⟩ W ⟨⟨P, POK, MB, HM2, hats, hsW⟩, hBr⟩ hlt
        obtain ⟨k0, k1, k2, kf⟩ := P.cells3
        obtain ⟨o0, of⟩ := POK.cells1
        obtain ⟨m0, mf⟩ := MB.cells1
        have g84 : (W.setCell ⟨wr.heap.size, 0, none⟩ (.bool false)).cell? ⟨wr.heap.size, 0, none⟩ = some (.bool false) := (POK.setCell 0 (.bool false)).cells1.1
        by_cases g1 : 1 ≤ a
        · by_cases g2 : a ≤ now
          · have hwf : (Lit.int .i64 a).wf = true := by simp [Lit.wf, IntKind.min, IntKind.max, IntKind.bits, IntKind.signed]; omega
            have hkey := Maps.keyOf_int_mk Tryz.underlying3 hwf
            obtain ⟨c0, hrun, hat, _⟩ := HM2.lookup_int (Maps.int_keyed Tryz.underlying3) Tryz.underlying130 Tryz.underlying3 (by kernel_rfl) hkey
            rw [metD_at] at hat
            by_cases hin : a ∈ pre.map Prod.snd
            · rw [if_pos hin] at hat
              obtain rfl : 1 = c0 := by simpa using hat
              clear hat
              gi_wp2
              have hz0 := HZ0.out; have hz1 := HZ1.out
              refine ⟨KeepsFrom.of_grownBy (grownBy_setCell' _ _ _) (fun j e => by cases e; omega), ⟨rfl, POK.setCell 0 (.bool false), ?_⟩, hBr.setCell (by simp; omega) _⟩
              rw [List.map_append]
              exact fun h => (atsOk_snoc.1 h).2.2.2 hin
            · rw [if_neg hin] at hat
              obtain rfl : 0 = c0 := by simpa using hat
              clear hat
              have POK2 := POK.setCell 0 (.bool true)
              have hcT := POK2.cells1.1
              have MB2 := MB.far (p := ⟨wr.heap.size, 0, none⟩) (by have := HZ0.out; simp; omega) (.bool true)
              have hcM := MB2.cells1.1
              have HM3 := HM2.kept (grownBy_setCell' W wr.heap.size (.bool true)) (by have := HZ0.out; simp; omega)
              have hlt' : pre.length < maxLen := by unfold maxLen; omega
              have P3 := P.far (p := ⟨wr.heap.size, 0, none⟩) (by have := HZ0.out; simp; omega) (.bool true)
              gi_wp2_with (gi_at_mapUpdate; refine wpListIn_mapUpdate_own _ rfl _ _ _ 130 rfl 3 3 (Maps.int_keyed Tryz.underlying3) Tryz.underlying130 (plainElem (H := H) Tryz.prog 3) (w.heap.size + 1) pre.length (metD pre) rfl HM3 hlt' _ _ _ rfl rfl hkey _ [] (plainElem_int Tryz.underlying3 (by decide)) ?_; intro w1 hown1 hgrow1)
              have hz0 := HZ0.out; have hz1 := HZ1.out
              have hg2 := grownBy_setCell' W wr.heap.size (.bool true)
              refine ⟨(KeepsFrom.of_grownBy hg2 (fun j e => by cases e; omega)).trans (KeepsFrom.of_grownBy hgrow1 (fun j e => by cases e; omega)), ⟨?_, ?_⟩, ⟨P3.grown hgrow1 (by simp <;> omega), POK2.grown hgrow1 (by simp <;> omega), MB2.grown hgrow1 (by simp), ?_, ?_, ?_⟩, (hBr.setCell (by simp; omega) _).grown hgrow1 (by have := hBr.size; simp <;> omega) (fun j e => by cases e; omega)⟩
              · exact ((Below.refl _ _).setCell (by simp; omega) _).grown hgrow1 (by have := hBr.size; simp <;> omega) (fun j e => by cases e; omega)
              · rw [hgrow1.block _ (by simp; omega) (by simp; omega)]
                exact Below.heap_setCell _ _ _ _ (by simp; omega)
              · rw [List.length_append, metD_snoc]; exact hown1
              · rw [List.map_append]; exact atsOk_snoc.2 ⟨hats, g1, g2, hin⟩
              · have := hgrow1.size; simp at this; omega
          · have g2' : decide (a ≤ now) = false := by simpa using g2
            gi_wp2
            have hz0 := HZ0.out; have hz1 := HZ1.out
            refine ⟨KeepsFrom.of_grownBy (grownBy_setCell' _ _ _) (fun j e => by cases e; omega), ⟨rfl, POK.setCell 0 (.bool false), ?_⟩, hBr.setCell (by simp; omega) _⟩
            rw [List.map_append]
            exact fun h => by have h' : a ≤ now := (atsOk_snoc.1 h).2.2.1; omega
        · have g1' : decide (1 ≤ a) = false := by simpa using g1
          gi_wp2
          have hz0 := HZ0.out; have hz1 := HZ1.out
          refine ⟨KeepsFrom.of_grownBy (grownBy_setCell' _ _ _) (fun j e => by cases e; omega), ⟨rfl, POK.setCell 0 (.bool false), ?_⟩, hBr.setCell (by simp; omega) _⟩
          rw [List.map_append]
          exact fun h => by have h' : 1 ≤ a := (atsOk_snoc.1 h).2.1; omega
      case done =>
        rintro D xs W hD rfl ⟨⟨P, POK, MB, HM2, hats, hsW⟩, hBr⟩ hK
        obtain ⟨o0, of⟩ := POK.cells1
        have E := hid (show (if AtsOk now ((secL ns os n).map Prod.snd) then (0 : Int) else 210) = 0 from if_pos hats)
        go_wp2
        rw [Exit.noGoto_ret]
        refine ⟨by simp, .inl ⟨_, _, rfl, run_takeDeferred hK, ?_⟩⟩
        exact ⟨.int .i64 0, by simp [results, Tryz.results58, go_sem], by rw [E.out], hBr.trans (belowK_b (w := w) (Nat.le_refl _) _ D _ _ (by have := HZ1.out; omega) hK rfl rfl)⟩
      case stop =>
        rintro D cc pre W hD ⟨k, hk, _, rfl⟩ ⟨⟨rfl, POK, hats⟩, hBr⟩ hK
        obtain ⟨o0, of⟩ := POK.cells1
        have E := hid (show (if AtsOk now ((secL ns os n).map Prod.snd) then (0 : Int) else 210) = 210 from if_neg (fun h => hats (atsOk_prefix (secL_prefix ns os hk) h)))
        gi_wp2
        go_wp2
        rw [Exit.noGoto_ret]
        refine ⟨by simp, .inl ⟨_, _, rfl, run_takeDeferred hK, ?_⟩⟩
        exact ⟨.int .i64 210, by simp [results, Tryz.results58, go_sem], by rw [E.out], hBr.trans (belowK_b (w := w) (Nat.le_refl _) _ D _ _ (by have := HZ1.out; omega) hK rfl rfl)⟩

theorem calls_of_callsIn5 {f : FuncId} {args : Array Value} {w : World} {R : Ending → World → Prop} (h : CallsIn Fence.wide 5 Tryz.prog f args w R) : Calls Tryz.prog f args w R := callsIn_wide.1 h
end Go.Proofs.YtfipdoofgbjbjaaGreat

/- package reader: Check as a whole, Quiet. No condition but sizes. -/
namespace Go.Proofs.YtfipdoofgbjbjaaGreat
open Go.RowKit Go.Shelf Go.Maps

/-- readers that can be read -/
structure Rds (W : World) (A : Option Addr) (n c : Nat) (B : Option Addr) (m d : Nat) (ns os : List Int) : Prop where
  hx : Sl i64 0 W 0 W.heap.size A n ns
  hy : Sl i64 0 W 0 W.heap.size B m os
  hnc : n ≤ c
  hmd : m ≤ d
  hn : n ≤ 1000
  hm : m ≤ 1000
section
variable {W W' : World} {A : Option Addr} {n c : Nat} {B : Option Addr} {m d : Nat} {ns os : List Int}
theorem Rds.step (h : Rds W A n c B m d ns os) (hb : Below W.heap.size W W') : Rds W' A n c B m d ns os := ⟨h.hx.step hb, h.hy.step hb, h.hnc, h.hmd, h.hn, h.hm⟩
theorem Rds.box (h : Rds W A n c B m d ns os) (o : Obj) : Rds (W.alloc o) A n c B m d ns os := h.step (below_box W o)
theorem Rds.lenx (h : Rds W A n c B m d ns os) : ns.length = n := h.hx.len
theorem Rds.leny (h : Rds W A n c B m d ns os) : os.length = m := h.hy.len
end
@[reducible] def rcs (now : Int) (A : Option Addr) (n c : Nat) (B : Option Addr) (m d : Nat) : Array Value := #[.int .i64 now, .slice A n c, .slice B m d]

theorem check_good (now : Int) (A : Option Addr) (n c : Nat) (B : Option Addr) (m d : Nat) (ns os : List Int) (w : World) (h : Rds w A n c B m d ns os) (hg : Good now ns os) :
    Calls Tryz.prog 58 #[rv now A n c B m d] w fun e w' => e = .returned (.int .i64 0) ∧ Below w.heap.size w w' := by
  obtain ⟨⟨h1, h2, h3, h4, h5⟩, hr, ha⟩ := hg
  have hl := h.lenx; have hl' := h.leny
  obtain rfl : m = n := by omega
  have := check_ats (H := Unit) now A m c B d 0 ns os w h.hx h.hy (by omega) (by omega) h4 h5 (by rw [← hl]; exact hr)
  rw [if_pos (by rw [← hl]; exact ha)] at this
  exact calls_of_callsIn5 this
theorem check_bad (now : Int) (A : Option Addr) (n c : Nat) (B : Option Addr) (m d : Nat) (ns os : List Int) (w : World) (h : Rds w A n c B m d ns os) (hg : ¬ Good now ns os) :
    Calls Tryz.prog 58 #[rv now A n c B m d] w fun e w' => e = .returned (.int .i64 210) ∧ Below w.heap.size w w' := by
  by_cases hs : Shape now ns os
  · have hl := h.lenx; have hl' := h.leny
    have hs' := hs
    obtain ⟨h1, h2, h3, h4, h5⟩ := hs
    obtain rfl : m = n := by omega
    by_cases hr : ∀ k, k < m → RowOk ns os k
    · have := check_ats (H := Unit) now A m c B d 0 ns os w h.hx h.hy (by omega) (by omega) h4 h5 hr
      rw [if_neg (fun ha => hg ⟨hs', by rw [hl]; exact hr, by rw [hl]; exact ha⟩)] at this
      exact calls_of_callsIn5 this
    · refine check_rows now A m c B d 0 ns os w h.hx h.hy (by omega) (by omega) h4 h5 ?_
      apply Classical.byContradiction
      intro hno
      exact hr fun k hk => Classical.byContradiction fun hk' => hno ⟨k, hk, hk'⟩
  · exact check_shape now A n c B m d 0 ns os w h.hx h.hy (by have := h.hn; omega) (by have := h.hm; omega) hs

def QuietP (now : Int) (ns os : List Int) (cpu : Int) : Prop := Good now ns os ∧ 0 ≤ cpu ∧ cpu < ns.length ∧ ns[cpu.toNat]?.getD 0 = 0
instance {now : Int} {ns os : List Int} {cpu : Int} : Decidable (QuietP now ns os cpu) := by unfold QuietP; infer_instance

set_option maxHeartbeats 1000000 in
theorem quiet_any (now : Int) (A : Option Addr) (n c : Nat) (B : Option Addr) (m d : Nat) (ns os : List Int) (cpu : Int) (w : World) (h : Rds w A n c B m d ns os) :
    Calls Tryz.prog 84 #[rv now A n c B m d, .int .i64 cpu] w fun e w' => e = .returned (.bool (decide (QuietP now ns os cpu))) ∧ Below w.heap.size w w' := by
  have hB := below_box w (.cells (rcs now A n c B m d) 24)
  have h0 := h.box (.cells (rcs now A n c B m d) 24)
  have HL := hid h.lenx; have hn := h.hn
  by_cases hg : Good now ns os
  · have H := hid (check_good now A n c B m d ns os _ h0 hg)
    have HS := hid h0
    clear h0 h
    go_enter Tryz.func84, Tryz.ntmps84
    go_wp2_with fail
    refine H.out.mono ?_
    rintro e w1 ⟨rfl, hb⟩
    have P := (Blk.new w 24 (rcs now A n c B m d)).step hb
    have HS1 := hid (HS.out.step hb)
    have hB1 := below_then hB hb
    obtain ⟨k0, k1, k2, kf⟩ := P.cells3
    clear hb HS P
    by_cases h1 : 0 ≤ cpu
    · obtain ⟨k, rfl⟩ := Int.eq_ofNat_of_zero_le h1
      by_cases h2 : k < n
      · obtain ⟨b, off, rfl, _, _, hc⟩ := HS1.out.hx.row (by omega)
        have g := hc k h2
        obtain ⟨x, hX⟩ : ∃ x, x = ns[k]?.getD 0 := ⟨_, rfl⟩
        rw [← hX] at g
        have E := hid (show decide (QuietP now ns os k) = decide (x = 0) by
          have := HL.out
          refine decide_eq_decide.2 ⟨fun h => hX.trans h.2.2.2, fun h => ⟨hg, by omega, by omega, hX.symm.trans h⟩⟩)
        clear hc hX
        go_wp2
        go_ret
        exact ⟨ret_bool (by rw [E.out]; first | rfl | (cases h : (x == 0) <;> simp_all)), hB1⟩
      · have E := hid (show decide (QuietP now ns os k) = false by have := HL.out; exact decide_eq_false (fun h => by have := h.2.2.1; omega))
        have h2' : decide ((k : Int) < (n : Int)) = false := decide_eq_false (by omega)
        go_wp2
        go_ret
        exact ⟨ret_bool E.out.symm, hB1⟩
    · have E := hid (show decide (QuietP now ns os cpu) = false by exact decide_eq_false (fun h => by have := h.2.1; omega))
      have h1' : decide (0 ≤ cpu) = false := by simpa using h1
      go_wp2
      go_ret
      exact ⟨ret_bool E.out.symm, hB1⟩
  · have H := hid (check_bad now A n c B m d ns os _ h0 hg)
    have E := hid (show decide (QuietP now ns os cpu) = false by exact decide_eq_false (fun h => hg h.1))
    clear h0 h hg
    go_enter Tryz.func84, Tryz.ntmps84
    go_wp2_with fail
    refine H.out.mono ?_
    rintro e w1 ⟨rfl, hb⟩
    have hB1 := below_then hB hb
    go_wp2
    go_ret
    exact ⟨ret_bool E.out.symm, hB1⟩

/-! ### Oldest -/
def older (out at_ : Int) : Int := if out = 0 ∨ at_ < out then at_ else out
def oldF (l : List (Int × Int)) : Int := (l.map Prod.snd).foldl older 0
end Go.Proofs.YtfipdoofgbjbjaaGreat

/- package reader: Oldest. No condition but sizes. -/
namespace Go.Proofs.YtfipdoofgbjbjaaGreat
open Go.RowKit Go.Shelf Go.Maps
attribute [local go_sem] Oper.semAt_some

/-! ### Passed -/
def PassedP (now : Int) (ns os : List Int) (step : Int) : Prop := Good now ns os ∧ 0 ≤ step ∧ step ≤ now ∧ ∀ a ∈ (secL ns os ns.length).map Prod.snd, step < a
instance {now : Int} {ns os : List Int} {step : Int} : Decidable (PassedP now ns os step) := by unfold PassedP; infer_instance
end Go.Proofs.YtfipdoofgbjbjaaGreat

/- package reader and afterglowref11: Same. No condition but sizes. -/
namespace Go.Proofs.YtfipdoofgbjbjaaGreat
open Go.RowKit Go.Shelf Go.Maps
def sameR (now : Int) (ns os : List Int) (now' : Int) (ns' os' : List Int) : Bool := decide (now = now' ∧ ns = ns' ∧ os = os')

theorem eq_below (A B : Option Addr) (n c m c' : Nat) (xs ys : List Int) {w : World} (hx : Sl i64 0 w 0 w.heap.size A n xs) (hy : Sl i64 0 w 0 w.heap.size B m ys) (hn : n ≤ 1000) (hm : m ≤ 1000) :
    Calls Tryz.prog 100 #[.slice A n c, .slice B m c'] w fun e w' => e = .returned (.bool (decide (xs = ys))) ∧ Below w.heap.size w w' :=
  (equal_int A B n c m c' _ _ _ _ xs ys w hx hy (by omega) (by omega)).mono fun _ _ ⟨he, q, hw⟩ => ⟨he, by subst hw; exact below_drewN (Below.refl _ _) q⟩

end Go.Proofs.YtfipdoofgbjbjaaGreat

/- afterglowref11: Right. No condition but sizes. -/
namespace Go.Proofs.YtfipdoofgbjbjaaGreat
open Go.RowKit Go.Shelf Go.Maps

def RowR (now : Int) (ns os : List Int) (i : Nat) : Prop :=
  0 ≤ ns[i]?.getD 0 ∧ ns[i]?.getD 0 ≤ 8 ∧ (ns[i]?.getD 0 = 0 → os[i]?.getD 0 = 0) ∧ (0 < ns[i]?.getD 0 → 1 ≤ os[i]?.getD 0 ∧ os[i]?.getD 0 ≤ now) ∧ ∀ j, j < i → os[i]?.getD 0 ≠ 0 → os[j]?.getD 0 ≠ os[i]?.getD 0
theorem mem_sec {ns os : List Int} {a : Int} : ∀ {k : Nat}, a ∈ (secL ns os k).map Prod.snd ↔ ∃ i, i < k ∧ 0 < ns[i]?.getD 0 ∧ a = os[i]?.getD 0
  | 0 => by simp [secL]
  | k + 1 => by
    have ih := mem_sec (ns := ns) (os := os) (a := a) (k := k)
    rw [secL]
    split
    · rename_i h
      rw [List.map_append, List.mem_append, ih]
      constructor
      · rintro (⟨i, h1, h2⟩ | h2)
        · exact ⟨i, by omega, h2⟩
        · simp at h2; exact ⟨k, by omega, h, h2⟩
      · rintro ⟨i, h1, h2, h3⟩
        by_cases e : i < k
        · exact .inl ⟨i, e, h2, h3⟩
        · obtain rfl : i = k := by omega
          exact .inr (by simp [h3])
    · rename_i h
      rw [ih]
      constructor
      · rintro ⟨i, h1, h2⟩; exact ⟨i, by omega, h2⟩
      · rintro ⟨i, h1, h2, h3⟩
        by_cases e : i < k
        · exact ⟨i, e, h2, h3⟩
        · obtain rfl : i = k := by omega
          exact absurd h2 h
theorem ats_iff {now : Int} {ns os : List Int} : ∀ {k : Nat}, (∀ i, i < k → RowOk ns os i) → (AtsOk now ((secL ns os k).map Prod.snd) ↔ ∀ i, i < k → RowR now ns os i)
  | 0, _ => by simp [secL, AtsOk]
  | k + 1, hr => by
    have ih := ats_iff (now := now) (ns := ns) (os := os) (k := k) (fun i hi => hr i (by omega))
    have hk := hr k (by omega)
    obtain ⟨r1, r2, r3⟩ := hk
    rw [secL]
    by_cases h : 0 < ns[k]?.getD 0
    · rw [if_pos h, List.map_append, show List.map Prod.snd [((k : Int), os[k]?.getD 0)] = [os[k]?.getD 0] from rfl, atsOk_snoc, ih]
      constructor
      · rintro ⟨h1, h2, h3, h4⟩ i hi
        by_cases e : i < k
        · exact h1 i e
        · obtain rfl : i = k := by omega
          refine ⟨r1, r2, r3, fun _ => ⟨h2, h3⟩, fun j hj hne heq => ?_⟩
          by_cases hj0 : 0 < ns[j]?.getD 0
          · exact h4 (mem_sec.2 ⟨j, hj, hj0, heq.symm⟩)
          · have := (hr j (by omega)).2.2 (by have := (hr j (by omega)).1; omega)
            omega
      · intro hall
        refine ⟨fun i hi => hall i (by omega), ((hall k (by omega)).2.2.2.1 h).1, ((hall k (by omega)).2.2.2.1 h).2, fun hm => ?_⟩
        obtain ⟨j, h1, h2, h3⟩ := mem_sec.1 hm
        have := ((hall k (by omega)).2.2.2.1 h).1
        exact (hall k (by omega)).2.2.2.2 j h1 (by omega) h3.symm
    · rw [if_neg h, ih]
      constructor
      · intro hall i hi
        by_cases e : i < k
        · exact hall i e
        · obtain rfl : i = k := by omega
          have h0 : ns[i]?.getD 0 = 0 := by omega
          exact ⟨r1, r2, r3, fun h' => absurd h' h, fun j _ hne => absurd (r3 h0) hne⟩
      · exact fun hall i hi => hall i (by omega)
theorem good_iff {now : Int} {ns os : List Int} : Good now ns os ↔ Shape now ns os ∧ ∀ i, i < ns.length → RowR now ns os i := by
  unfold Good
  constructor
  · rintro ⟨h1, h2, h3⟩; exact ⟨h1, (ats_iff h2).1 h3⟩
  · rintro ⟨h1, h2⟩
    have hr : ∀ i, i < ns.length → RowOk ns os i := fun i hi => ⟨(h2 i hi).1, (h2 i hi).2.1, (h2 i hi).2.2.1⟩
    exact ⟨h1, hr, (ats_iff hr).2 h2⟩

end Go.Proofs.YtfipdoofgbjbjaaGreat

/- package reader: hand's enter and leave. No condition but sizes, and that rows hold numbers up to 8. -/
namespace Go.Proofs.YtfipdoofgbjbjaaGreat
open Go.RowKit Go.Shelf Go.Maps

/-- a hand: a box at g, and two rows that it owns, apart -/
structure Hand (W : World) (lo g : Nat) (now : Int) (A : Option Addr) (n c : Nat) (B : Option Addr) (d : Nat) (ns os : List Int) : Prop where
  box : Blk W g 193 (rcs now A n c B n d)
  oa : Ow i64 W lo 3 A n c ns
  ob : Ow i64 W lo 3 B n d os
  apart : ∀ ga gb, A = some ⟨ga, 0, none⟩ → B = some ⟨gb, 0, none⟩ → ga ≠ gb ∧ ga ≠ g ∧ gb ≠ g
  hlo : lo ≤ g
theorem Hand.step {W W' : World} {lo g : Nat} {now : Int} {A : Option Addr} {n c : Nat} {B : Option Addr} {d : Nat} {ns os : List Int} (h : Hand W lo g now A n c B d ns os) (hb : Below W.heap.size W W') : Hand W' lo g now A n c B d ns os :=
  ⟨h.box.step hb, h.oa.step hb, h.ob.step hb, h.apart, h.hlo⟩
def enterO (now x : Int) (os : List Int) (k : Nat) : List Int := if x = 0 then os.set k (now + 1) else os
def leaveO (x : Int) (os : List Int) (k : Nat) : List Int := if x = 1 then os.set k 0 else os
def HPost (W : World) (lo g : Nat) (now : Int) (A : Option Addr) (n c : Nat) (B : Option Addr) (d : Nat) (ns os : List Int) (e : Ending) (W' : World) : Prop :=
  e = .returned (.int .i64 0) ∧ Hand W' lo g now A n c B d ns os ∧ Below lo W W' ∧ W'.heap.size = W.heap.size

set_option maxHeartbeats 2000000 in
theorem enter_full (g : Nat) (lo : Nat) (now : Int) (A : Option Addr) (n c : Nat) (B : Option Addr) (d : Nat) (ns os : List Int) (k : Nat) (W : World) (h : Hand W lo g now A n c B d ns os) (hk : k < n) (hx : ns[k]?.getD 0 = 8) :
    Calls Tryz.prog 158 #[.pointer (some ⟨g, 0, none⟩), .int .i64 k] W fun e w' => e = .returned (.int .i64 6) ∧ W = w' := by
  obtain ⟨ga, rfl, _, _, a0, af⟩ := h.oa.at_ 0 hk
  obtain ⟨k0, k1, k2, kf⟩ := h.box.cells3
  rw [hx] at a0
  clear h hx
  go_enter Tryz.func158, Tryz.ntmps158
  go_wp2
  go_ret
  exact ⟨rfl, rfl⟩
set_option maxHeartbeats 2000000 in
theorem enter_ok (g : Nat) (lo : Nat) (now : Int) (A : Option Addr) (n c : Nat) (B : Option Addr) (d : Nat) (ns os : List Int) (k : Nat) (W : World) (h : Hand W lo g now A n c B d ns os) (hk : k < n) (h0 : 0 ≤ ns[k]?.getD 0) (h8 : ns[k]?.getD 0 < 8) (hn0 : 0 ≤ now) (hn1 : now < 2147483647) :
    Calls Tryz.prog 158 #[.pointer (some ⟨g, 0, none⟩), .int .i64 k] W (HPost W lo g (now + 1) A n c B d (ns.set k (ns[k]?.getD 0 + 1)) (enterO now (ns[k]?.getD 0) os k)) := by
  obtain ⟨ga, rfl, hga, hga', a0, af⟩ := h.oa.at_ 0 hk
  obtain ⟨gb, rfl, hgb, hgb', b0, bf⟩ := h.ob.at_ 0 hk
  obtain ⟨d1, d2, d3⟩ := h.apart ga gb rfl rfl
  obtain ⟨k0, k1, k2, kf⟩ := h.box.cells3
  obtain ⟨x, hX⟩ : ∃ x, x = ns[k]?.getD 0 := ⟨_, rfl⟩
  rw [← hX] at a0 h0 h8 ⊢
  have HX := hid hX
  have HH := hid h
  have e8 : (x == 8) = false := by simp; omega
  have P1 := h.box.setCell 0 (.int .i64 (now + 1))
  obtain ⟨m0, m1, m2, mf⟩ := P1.cells3
  have A1 : (W.setCell ⟨g, 0, none⟩ (.int .i64 (now + 1))).cell? ⟨ga, k, none⟩ = some (.int .i64 x) := by rw [World.cell?_setCell_other _ _ _ _ (by simp [Ne.symm d2])]; exact a0
  clear hX h P1
  by_cases hx0 : x = 0
  · subst hx0
    go_enter Tryz.func158, Tryz.ntmps158
    go_wp2
    go_region
    have h1 := HH.out
    have bx := (((h1.box.setCell 0 (.int .i64 (now + 1))).far (p := ⟨gb, k, none⟩) (Ne.symm d3) (.int .i64 (now + 1))).drew)
    have oa := ((h1.oa.far (p := ⟨g, 0, none⟩) d2 (.int .i64 (now + 1))).far (p := ⟨gb, k, none⟩) d1 (.int .i64 (now + 1)))
    have ob := (h1.ob.far (p := ⟨g, 0, none⟩) d3 (.int .i64 (now + 1))).stored k (now + 1)
    have be := ((Below.refl lo W).setCell (p := ⟨g, 0, none⟩) h1.hlo (.int .i64 (now + 1))).setCell (p := ⟨gb, k, none⟩) hgb (.int .i64 (now + 1))
    have oa' := oa.drewN 1
    have ob' := ob.drewN 1
    have be' := below_drewN be 1
    have hsz : (((W.setCell ⟨g, 0, none⟩ (.int .i64 (now + 1))).setCell ⟨gb, k, none⟩ (.int .i64 (now + 1))).drewN 1).heap.size = W.heap.size := by simp
    have hd1 : ((W.setCell ⟨g, 0, none⟩ (.int .i64 (now + 1))).setCell ⟨gb, k, none⟩ (.int .i64 (now + 1))).drewN 1 = ((W.setCell ⟨g, 0, none⟩ (.int .i64 (now + 1))).setCell ⟨gb, k, none⟩ (.int .i64 (now + 1))).drew := rfl
    rw [hd1] at oa' ob' be' hsz
    clear oa ob be hd1 m0 m1 m2 mf k0 k1 k2 kf A1 a0 b0 af bf
    generalize ((W.setCell ⟨g, 0, none⟩ (.int .i64 (now + 1))).setCell ⟨gb, k, none⟩ (.int .i64 (now + 1))).drew = W2 at *
    obtain ⟨k0, k1, k2, kf⟩ := bx.cells3
    obtain ⟨ga', hq, _, _, a0, af⟩ := oa'.at_ 0 hk
    obtain rfl : ga = ga' := by simpa using hq
    rw [← HX.out] at a0
    have HSZ := hid hsz; have HBX := hid bx
    clear hq hsz bx
    go_wp2
    go_ret
    refine ⟨rfl, ⟨HBX.out.far (p := ⟨ga, k, none⟩) (Ne.symm d2) _, oa'.stored k _, by rw [show enterO now 0 os k = os.set k (now + 1) from if_pos rfl]; exact ob'.far (p := ⟨ga, k, none⟩) (Ne.symm d1) _, h1.apart, h1.hlo⟩, be'.setCell hga _, by simp [HSZ.out]⟩
  · have e0 : (x == 0) = false := by simp [hx0]
    go_enter Tryz.func158, Tryz.ntmps158
    go_wp2
    go_ret
    have h1 := HH.out
    have E1 : enterO now x os k = os := if_neg hx0
    refine ⟨rfl, ⟨(h1.box.setCell 0 _).far (p := ⟨ga, k, none⟩) (Ne.symm d2) _, (h1.oa.far (p := ⟨g, 0, none⟩) d2 _).stored k _, by rw [E1]; exact (h1.ob.far (p := ⟨g, 0, none⟩) d3 _).far (p := ⟨ga, k, none⟩) (Ne.symm d1) _, h1.apart, h1.hlo⟩, ((Below.refl _ _).setCell h1.hlo _).setCell hga _, by simp⟩

set_option maxHeartbeats 2000000 in
theorem leave_none (g : Nat) (lo : Nat) (now : Int) (A : Option Addr) (n c : Nat) (B : Option Addr) (d : Nat) (ns os : List Int) (k : Nat) (W : World) (h : Hand W lo g now A n c B d ns os) (hk : k < n) (hx : ns[k]?.getD 0 = 0) :
    Calls Tryz.prog 157 #[.pointer (some ⟨g, 0, none⟩), .int .i64 k] W fun e w' => e = .returned (.int .i64 4) ∧ W = w' := by
  obtain ⟨ga, rfl, _, _, a0, af⟩ := h.oa.at_ 0 hk
  obtain ⟨k0, k1, k2, kf⟩ := h.box.cells3
  rw [hx] at a0
  clear h hx
  go_enter Tryz.func157, Tryz.ntmps157
  go_wp2
  go_ret
  exact ⟨rfl, rfl⟩
set_option maxHeartbeats 2000000 in
theorem leave_ok (g : Nat) (lo : Nat) (now : Int) (A : Option Addr) (n c : Nat) (B : Option Addr) (d : Nat) (ns os : List Int) (k : Nat) (W : World) (h : Hand W lo g now A n c B d ns os) (hk : k < n) (h0 : 0 < ns[k]?.getD 0) (h8 : ns[k]?.getD 0 ≤ 8) (hn0 : 0 ≤ now) (hn1 : now < 2147483647) :
    Calls Tryz.prog 157 #[.pointer (some ⟨g, 0, none⟩), .int .i64 k] W (HPost W lo g (now + 1) A n c B d (ns.set k (ns[k]?.getD 0 - 1)) (leaveO (ns[k]?.getD 0) os k)) := by
  obtain ⟨ga, rfl, hga, hga', a0, af⟩ := h.oa.at_ 0 hk
  obtain ⟨gb, rfl, hgb, hgb', b0, bf⟩ := h.ob.at_ 0 hk
  obtain ⟨d1, d2, d3⟩ := h.apart ga gb rfl rfl
  obtain ⟨k0, k1, k2, kf⟩ := h.box.cells3
  obtain ⟨x, hX⟩ : ∃ x, x = ns[k]?.getD 0 := ⟨_, rfl⟩
  rw [← hX] at a0 h0 h8 ⊢
  have HX := hid hX
  have HH := hid h
  have e8 : (x == 0) = false := by simp; omega
  have P1 := h.box.setCell 0 (.int .i64 (now + 1))
  obtain ⟨m0, m1, m2, mf⟩ := P1.cells3
  have A1 : (W.setCell ⟨g, 0, none⟩ (.int .i64 (now + 1))).cell? ⟨ga, k, none⟩ = some (.int .i64 x) := by rw [World.cell?_setCell_other _ _ _ _ (by simp [Ne.symm d2])]; exact a0
  have bx := P1.far (p := ⟨ga, k, none⟩) (Ne.symm d2) (.int .i64 (x - 1))
  have oa := (h.oa.far (p := ⟨g, 0, none⟩) d2 (.int .i64 (now + 1))).stored k (x - 1)
  have ob := (h.ob.far (p := ⟨g, 0, none⟩) d3 (.int .i64 (now + 1))).far (p := ⟨ga, k, none⟩) (Ne.symm d1) (.int .i64 (x - 1))
  have be := ((Below.refl lo W).setCell (p := ⟨g, 0, none⟩) h.hlo (.int .i64 (now + 1))).setCell (p := ⟨ga, k, none⟩) hga (.int .i64 (x - 1))
  obtain ⟨q0, q1, q2, qf⟩ := bx.cells3
  obtain ⟨ga', hq, _, _, a2, af2⟩ := oa.at_ 0 hk
  obtain rfl : ga = ga' := by simpa using hq
  rw [show (ns.set k (x - 1))[k]?.getD 0 = x - 1 by have := h.oa.len; rw [List.getElem?_set_self (by omega)]; rfl] at a2
  have HBX := hid bx
  clear hX h P1 hq bx
  by_cases hx1 : x = 1
  · subst hx1
    have E1 := hid (show leaveO 1 os k = os.set k 0 from if_pos rfl)
    go_enter Tryz.func157, Tryz.ntmps157
    go_wp2
    go_ret
    refine ⟨rfl, ⟨HBX.out.far (p := ⟨gb, k, none⟩) (Ne.symm d3) _, oa.far (p := ⟨gb, k, none⟩) d1 _, by rw [E1.out]; exact ob.stored k _, HH.out.apart, HH.out.hlo⟩, be.setCell hgb _, by simp⟩
  · have e0 : (x - 1 == 0) = false := by simp; omega
    have E1 := hid (show leaveO x os k = os from if_neg hx1)
    go_enter Tryz.func157, Tryz.ntmps157
    go_wp2
    go_ret
    refine ⟨rfl, ⟨HBX.out, oa, by rw [E1.out]; exact ob, HH.out.apart, HH.out.hlo⟩, be, by simp⟩
end Go.Proofs.YtfipdoofgbjbjaaGreat

/- General words: rows of ints that are made. No condition but sizes. -/
namespace Go.Proofs.YtfipdoofgbjbjaaGreat
open Go.RowKit
theorem run_make_int (n : Nat) (hn : n ≤ 1000000) (w : World) :
    (Instr.makeSlice 22 (.int .i64 n) (.int .i64 n)).run Tryz.prog w = .ok (.slice (some ⟨w.heap.size, 0, none⟩) n n) (w.alloc (.cells (zrow (.int .i64 0) n) 3)) := by
  obtain ⟨i0, hi0, hz00, hz01, hz02⟩ := info_parts info_int
  exact run_make1 Tryz.underlying22 hi0 hz00 hz01 rfl n (by rw [hz02]; omega) hn w
end Go.Proofs.YtfipdoofgbjbjaaGreat

/- General words: stores into boxes, the new world named. No condition. -/
namespace Go.Proofs.YtfipdoofgbjbjaaGreat
open Go.RowKit
theorem named_store_8_8_0 {K : World → Prop} {W : World} {g : Nat} {t : TypeId} {x0 x1 x2 x3 x4 x5 x6 x7 y0 y1 y2 y3 y4 y5 y6 y7 : Value} (hb : Blk W g t #[x0, x1, x2, x3, x4, x5, x6, x7]) (h : ∀ Wn : World, Blk Wn g t #[y0, y1, y2, y3, y4, y5, y6, y7] → W.grownBy Wn (some g) → Wn.heap.size = W.heap.size → K Wn) : K ((((((((W.setCell ⟨g, 0, none⟩ y0).setCell ⟨g, 1, none⟩ y1).setCell ⟨g, 2, none⟩ y2).setCell ⟨g, 3, none⟩ y3).setCell ⟨g, 4, none⟩ y4).setCell ⟨g, 5, none⟩ y5).setCell ⟨g, 6, none⟩ y6).setCell ⟨g, 7, none⟩ y7) := by
  have b0 : Blk (W.setCell ⟨g, 0, none⟩ y0) g t #[y0, x1, x2, x3, x4, x5, x6, x7] := hb.setCell 0 y0
  have b1 : Blk ((W.setCell ⟨g, 0, none⟩ y0).setCell ⟨g, 1, none⟩ y1) g t #[y0, y1, x2, x3, x4, x5, x6, x7] := b0.setCell 1 y1
  have b2 : Blk (((W.setCell ⟨g, 0, none⟩ y0).setCell ⟨g, 1, none⟩ y1).setCell ⟨g, 2, none⟩ y2) g t #[y0, y1, y2, x3, x4, x5, x6, x7] := b1.setCell 2 y2
  have b3 : Blk ((((W.setCell ⟨g, 0, none⟩ y0).setCell ⟨g, 1, none⟩ y1).setCell ⟨g, 2, none⟩ y2).setCell ⟨g, 3, none⟩ y3) g t #[y0, y1, y2, y3, x4, x5, x6, x7] := b2.setCell 3 y3
  have b4 : Blk (((((W.setCell ⟨g, 0, none⟩ y0).setCell ⟨g, 1, none⟩ y1).setCell ⟨g, 2, none⟩ y2).setCell ⟨g, 3, none⟩ y3).setCell ⟨g, 4, none⟩ y4) g t #[y0, y1, y2, y3, y4, x5, x6, x7] := b3.setCell 4 y4
  have b5 : Blk ((((((W.setCell ⟨g, 0, none⟩ y0).setCell ⟨g, 1, none⟩ y1).setCell ⟨g, 2, none⟩ y2).setCell ⟨g, 3, none⟩ y3).setCell ⟨g, 4, none⟩ y4).setCell ⟨g, 5, none⟩ y5) g t #[y0, y1, y2, y3, y4, y5, x6, x7] := b4.setCell 5 y5
  have b6 : Blk (((((((W.setCell ⟨g, 0, none⟩ y0).setCell ⟨g, 1, none⟩ y1).setCell ⟨g, 2, none⟩ y2).setCell ⟨g, 3, none⟩ y3).setCell ⟨g, 4, none⟩ y4).setCell ⟨g, 5, none⟩ y5).setCell ⟨g, 6, none⟩ y6) g t #[y0, y1, y2, y3, y4, y5, y6, x7] := b5.setCell 6 y6
  have b7 : Blk ((((((((W.setCell ⟨g, 0, none⟩ y0).setCell ⟨g, 1, none⟩ y1).setCell ⟨g, 2, none⟩ y2).setCell ⟨g, 3, none⟩ y3).setCell ⟨g, 4, none⟩ y4).setCell ⟨g, 5, none⟩ y5).setCell ⟨g, 6, none⟩ y6).setCell ⟨g, 7, none⟩ y7) g t #[y0, y1, y2, y3, y4, y5, y6, y7] := b6.setCell 7 y7
  exact h _ b7 (grown_set (grown_set (grown_set (grown_set (grown_set (grown_set (grown_set (grown_set (World.grownBy.refl W (some g)) 0 y0) 1 y1) 2 y2) 3 y3) 4 y4) 5 y5) 6 y6) 7 y7) (by simp)
end Go.Proofs.YtfipdoofgbjbjaaGreat

/- General words: a region that draws its order, in which a call may panic. No condition. -/
namespace Go.Proofs.YtfipdoofgbjbjaaGreat
open Go
/-- what is asked of a panic says nothing of the slots -/
def QP (Q : Exit → Act → World → Prop) : Exit → Act → World → Prop
  | .panic ch, a, w => ∀ tm, Q (.panic ch) { tmps := tm, defers := a.defers } w
  | .normal, a, w => Q .normal a w
  | _, _, _ => False
theorem QP.normal {Q : Exit → Act → World → Prop} {a : Act} {w : World} (h : Q .normal a w) : QP Q .normal a w := h
theorem QP.imp {Q : Exit → Act → World → Prop} : ∀ (e : Exit) (a : Act) (w : World), QP Q e a w → Q e a w := fun e a w h => by
  cases e with
  | normal => exact h
  | panic ch => exact h a.tmps
  | _ => exact h.elim
theorem QP.put {Q : Exit → Act → World → Prop} {ch : List PanicEntry} {a : Act} {d : Option Tmp} {v : Value} {w : World} (h : QP Q (.panic ch) (a.put d v) w) : QP Q (.panic ch) a w := by
  cases d with
  | none => exact h
  | some d => exact h
theorem wp_region_qp {P : Program} {id : Nat} {ops : Array Oper} {b : Bool} {Q : Exit → Act → World → Prop} {a : Act} {w : World} (h : (Code.region id ops b).wp P (QP Q) a w) : (Code.region id ops b).wp P Q a w :=
  Code.wp_mono QP.imp h
end Go.Proofs.YtfipdoofgbjbjaaGreat

/- General words: rows of structures that are cloned. No condition. -/
namespace Go.Proofs.YtfipdoofgbjbjaaGreat
open Go.RowKit
section
variable {α : Type} {sz : Nat} {enc : α → Nat → Value} {d : α} {w w' : World} {lo hi : Nat} {e : TypeId} {A : Option Addr} {n c : Nat} {xs : List α}
theorem Sm.none_ (h : Sm sz enc d w lo hi none n xs) : n = 0 ∧ xs = [] := by
  have hn : n = 0 := by
    rcases Nat.eq_zero_or_pos n with h0 | h0
    · exact h0
    · obtain ⟨b, off, e, _⟩ := h.row h0
      cases e
  exact ⟨hn, List.eq_nil_of_length_eq_zero (h.len.trans hn)⟩
theorem Sm.alloc (h : Sm sz enc d w lo hi A n xs) (hB : hi ≤ w.heap.size) (o : Obj) : Sm sz enc d (w.alloc o) lo hi A n xs :=
  h.keep fun b i _ h2 => World.cell?_alloc_lt w o ⟨b, i, none⟩ (Nat.lt_of_lt_of_le h2 hB)
theorem Om.empty (w : World) (lo : Nat) (e : TypeId) (hlo : lo ≤ w.heap.size) : Om sz enc (w.alloc (.cells #[] e)) lo e (some ⟨w.heap.size, 0, none⟩) 0 0 [] :=
  ⟨rfl, World.ownsRow_made w #[] 0 hlo (by simp [maxLen]) (by simp)⟩
end
end Go.Proofs.YtfipdoofgbjbjaaGreat

/- General words: an append onto a full row of structures. No condition. -/
namespace Go.Proofs.YtfipdoofgbjbjaaGreat
open Go.RowKit
/-- an append onto a row that has no room: a new row, whoever owns the old one -/
theorem run_appmf {P : Program} {α : Type} (sz : Nat) (enc : α → Nat → Value) (d : α) (w : World) (t ty : TypeId)
    (e : TypeId) (i : TypeInfo) (z : Value) (bytes : Nat) (ht : P.underlying t = some (.slice e)) (hi : P.info? e = some i) (hz : i.zero = some z)
    (hsize : i.size = sz) (hby : i.bytes = bytes) (hzs : z.cells.size = sz) (hsz : 0 < sz)
    (lo0 hi0 : Nat) (A0 : Option Addr) (n c0 : Nat) (xs : List α) (h0 : Sm sz enc d w lo0 hi0 A0 n xs)
    (lo1 hi1 : Nat) (A : Option Addr) (m c : Nat) (ys : List α) (hr : Sm sz enc d w lo1 hi1 A m ys) (hm : 0 < m) (h1 : ∀ y j, j < sz → (enc y j).oneCell' = true)
    (hfull : c0 < n + m) (h63 : n + m ≤ maxLen) (hcap : c0 ≤ n + m) (hbytes : (n + m) * bytes ≤ 70368744177664) (lo : Nat) (hlo : lo ≤ w.heap.size) :
    ∃ c' w', (Builtin.append_ #[t, t] ty #[.slice A0 n c0, .slice A m c]).run P w = .ok (.slice (some ⟨w.heap.size, 0, none⟩) (n + m) c') w' ∧ Om sz enc w' lo e (some ⟨w.heap.size, 0, none⟩) (n + m) c' (xs ++ ys) ∧ Below w.heap.size w w' ∧ w'.heap.size = w.heap.size + 1 := by
  subst hby
  subst hsize
  obtain ⟨b, off, rfl, _, _, hc⟩ := hr.row hm
  have cells : ∀ {lo hi : Nat} {b off k : Nat} {zs : List α}, zs.length = k → (∀ q, q < k → ∀ j, j < i.size → w.cell? ⟨b, off + q * i.size + j, none⟩ = some (enc (zs[q]?.getD d) j)) → ∀ j u, (flat i.size enc zs)[j]? = some u → w.cell? ((⟨b, off, none⟩ : Addr).add j) = some u := by
    intro _ _ b off k zs hlen hcc j u hu
    have hj : j < k * i.size := by have := (List.getElem?_eq_some_iff.1 hu).1; rwa [flat_length, hlen] at this
    obtain ⟨q, r, hq, hr2, rfl⟩ := flat_idx hj
    rw [flat_get d zs q r (by rw [hlen]; exact hq) hr2] at hu
    rw [Addr.add_lit, ← hu, ← hcc q hq r hr2, Nat.add_assoc]
  have ones : ∀ (zs : List α), ∀ u ∈ flat i.size enc zs, u.oneCell' = true := by
    intro zs u hu
    obtain ⟨x, _, hx⟩ := List.mem_flatMap.1 hu
    obtain ⟨j, hj, rfl⟩ := List.mem_map.1 hx
    exact h1 _ _ (List.mem_range.1 hj)
  have hold : (Builtin.firstCells i.size n (.slice A0 n c0)).run P w.drew = .ok (flat i.size enc xs).toArray w.drew := by
    rcases Nat.eq_zero_or_pos n with hn | hn
    · subst hn
      have hx : xs = [] := List.eq_nil_of_length_eq_zero h0.len
      subst hx
      cases A0 <;> simp [Builtin.firstCells, loadCells, loadCellsFrom, flat]
    · obtain ⟨b0, off0, rfl, _, _, hc0⟩ := h0.row hn
      exact run_firstCells_some w.drew i.size n _ n c0 (flat i.size enc xs) (by rw [flat_length, h0.len]) (cells (lo := 0) (hi := 0) h0.len hc0)
  have hs : Src P i.size t (.slice (some ⟨b, off, none⟩) m c) m (flat i.size enc ys) w :=
    Src.ofSlice w ht ⟨b, off, none⟩ m c (flat i.size enc ys) (by rw [flat_length, hr.len]) (cells (lo := 0) (hi := 0) hr.len hc) (ones ys)
  have hnc : Builtin.nextslicecap (n + m) c0 ≤ 2 * (n + m) := by
    unfold Builtin.nextslicecap
    split
    · omega
    split
    · omega
    · have : ∀ r k, k ≤ 2 * (n + m) → (k < n + m → k + (k + 768) / 4 ≤ 2 * (n + m)) → 256 ≤ k → Builtin.growBy (n + m) r k ≤ 2 * (n + m) := by
        intro r
        induction r with
        | zero => intro k h _ _; exact h
        | succ r ih =>
          intro k h h' h256
          unfold Builtin.growBy
          split
          · exact h
          · exact ih _ (h' (by omega)) (by omega) (by omega)
      exact this 4 c0 (by omega) (by omega) (by omega)
  have hrun := run_append_grow_src (P := P) (w := w) t t ty e i z ht hi hz A0 n c0 (flat i.size enc xs) hold (.slice (some ⟨b, off, none⟩) m c) m (flat i.size enc ys) hs hfull (by have := h63; simp only [maxLen] at this; omega)
    (Nat.le_trans (Nat.mul_le_mul_right _ hnc) (by rw [Nat.mul_assoc]; omega))
  have hge := grownCap_ge w (n + m) c0 e
  have hcm : grownCap w (n + m) c0 e ≤ maxLen := grownCap_le_maxLen w (n + m) c0 e h63
  have hlen : (flat i.size enc xs ++ flat i.size enc ys).length = (n + m) * i.size := by rw [List.length_append, flat_length, flat_length, h0.len, hr.len, Nat.add_mul]
  refine ⟨_, _, hrun, ⟨by rw [List.length_append, h0.len, hr.len], ?_⟩, ?_, by simp⟩
  · refine ⟨by rw [flat_length, List.length_append, h0.len, hr.len], .inr ⟨w.heap.size, _, _, rfl, hlo, heap_alloc_new w.drew _, hge, hcm, ?_, ?_⟩⟩
    · simp only [Array.size_append, List.size_toArray, size_zeroCells, hzs, hlen]
      rw [← Nat.add_mul]
      congr 1
      omega
    · rw [flat_append]
      simp only [Array.toList_append]
      rw [← hlen]
      exact List.take_left
  · exact ((Below.refl _ w).drew).alloc (by simp) _
theorem step_appmf {P : Program} {α : Type} (sz : Nat) (enc : α → Nat → Value) (d : α) (w : World) {ops : Array Oper} {o : Oper} {a : Act} {K : Act → World → Prop} {Q : Exit → Act → World → Prop} {E : Prop} (hg : o.guard = none) (s x : Operand) (t : TypeId)
    (hop : o.op = .call { callee := .builtin .append, args := #[s, x], argTypes := #[t, t] })
    (e : TypeId) (i : TypeInfo) (z : Value) (bytes : Nat) (ht : P.underlying t = some (.slice e)) (hi : P.info? e = some i) (hz : i.zero = some z)
    (hsize : i.size = sz) (hby : i.bytes = bytes) (hzs : z.cells.size = sz) (hsz : 0 < sz)
    (lo0 hi0 : Nat) (A0 : Option Addr) (n c0 : Nat) (xs : List α) (hs : a.eval s = .slice A0 n c0) (h0 : Sm sz enc d w lo0 hi0 A0 n xs)
    (lo1 hi1 : Nat) (A : Option Addr) (m c : Nat) (ys : List α) (hx : a.eval x = .slice A m c) (hr : Sm sz enc d w lo1 hi1 A m ys) (hm : 0 < m) (h1 : ∀ y j, j < sz → (enc y j).oneCell' = true)
    (hfull : c0 < n + m) (h63 : n + m ≤ maxLen) (hcap : c0 ≤ n + m) (hbytes : (n + m) * bytes ≤ 70368744177664) (lo : Nat) (hlo : lo ≤ w.heap.size)
    (hK : ∀ c' w', Om sz enc w' lo e (some ⟨w.heap.size, 0, none⟩) (n + m) c' (xs ++ ys) → Below w.heap.size w w' → w'.heap.size = w.heap.size + 1 → K (a.put o.dst (.slice (some ⟨w.heap.size, 0, none⟩) (n + m) c')) w') :
    if Region.wanted o (yielded ops a.tmps) = true then Oper.wp P o a w K Q else E := by
  have hw : Region.wanted o (yielded ops a.tmps) = true := by simp [Region.wanted, hg]
  rw [if_pos hw]
  obtain ⟨c', w', hrun, k1, k2, k3⟩ := run_appmf sz enc d w t o.type e i z bytes ht hi hz hsize hby hzs hsz lo0 hi0 A0 n c0 xs h0 lo1 hi1 A m c ys hr hm h1 hfull h63 hcap hbytes lo hlo
  unfold Oper.wp
  simp [execOp, hop, resolve, invoke, builtin, hs, hx, hrun, Result.andThen]
  exact hK c' w' k1 k2 k3

theorem Sm.setC {α : Type} {sz : Nat} {enc : α → Nat → Value} {d : α} {W : World} {A : Option Addr} {n lo hi : Nat} {xs : List α} (h : Sm sz enc d W lo hi A n xs) {p : Addr} (hp : p.block < lo ∨ hi ≤ p.block) (u : Value) : Sm sz enc d (W.setCell p u) lo hi A n xs :=
  h.keep fun b i h1 h2 => World.cell?_setCell_other W p ⟨b, i, none⟩ u (fun e => by subst e; simp at hp; omega)
end Go.Proofs.YtfipdoofgbjbjaaGreat

/- General words: an append onto an owned row in a fenced walk. No condition. -/
namespace Go.Proofs.YtfipdoofgbjbjaaGreat
open Go.RowKit Go.Shelf
attribute [local go_sem] Oper.semAt_some
theorem wpListIn_app {F : Fence} {n₁ : Nat} {P : Program} {α : Type} (enc : α → Value) (d : α) (w : World) {ops : Array Oper} {rest : List Oper} {o : Oper} {a : Act} {Q : Exit → Act → World → Prop} (hgd : o.guard = none) (s x : Operand) (t : TypeId)
    (ho : o.op = .call { callee := .builtin .append, args := #[s, x], argTypes := #[t, t] })
    (base : Nat) (e : TypeId) (i : TypeInfo) (z : Value) (bytes : Nat) (ht : P.underlying t = some (.slice e)) (hi : P.info? e = some i) (hz : i.zero = some z)
    (hsize : i.size = 1) (hby : i.bytes = bytes) (hzs : z.cells.size = 1)
    (A0 : Option Addr) (n c0 : Nat) (xs : List α) (hs : a.eval s = .slice A0 n c0) (hown : Ow enc w base e A0 n c0 xs)
    (lo hi' : Nat) (A : Option Addr) (m c : Nat) (ys : List α) (hx : a.eval x = .slice A m c) (hr : Sl enc d w lo hi' A m ys) (h1 : ∀ y, (enc y).oneCell' = true)
    (h63 : n + m ≤ maxLen) (hbytes : (n + m) * bytes ≤ 140737488355328) (hbase : base ≤ w.heap.size)
    (h : ∀ A' c' w', Ow enc w' base e A' (n + m) c' (xs ++ ys) → w.grownBy w' (Value.slice A0 n c0).ownBlock → ((Value.slice A' (n + m) c').ownBlock = (Value.slice A0 n c0).ownBlock ∨ (Value.slice A' (n + m) c').ownBlock = some w.heap.size) →
      wpListIn F n₁ P ops Q rest (a.put o.dst (.slice A' (n + m) c')) w') :
    wpListIn F n₁ P ops Q (o :: rest) a w := by
  refine wpListIn_plain hgd fun K hK' => ?_
  obtain ⟨A', c', w', hrun, k1, k2, k3⟩ := run_app enc d w t o.type base e i z bytes ht hi hz hsize hby hzs A0 n c0 xs hown lo hi' A m c ys hr h1 h63 hbytes hbase
  unfold Oper.wpIn
  refine ⟨?_, ?_⟩
  · simp [Oper.about, ho, resolve, Target.leads, Sem.run_pure]
  · rw [Oper.semAt_plain F _ _ (by rw [ho]; intro c hc'; cases hc')]
    simp [execOp, ho, resolve, invoke, builtin, hs, hx, hrun, Result.andThen]
    exact hK' _ _ (h A' c' w' k1 k2 k3)
theorem Ow.keeps {α : Type} {enc : α → Value} {W W' : World} {lo B : Nat} {e : TypeId} {A : Option Addr} {n c : Nat} {xs : List α} (h : Ow enc W lo e A n c xs) (hg : W.grownBy W' (Value.slice A n c).ownBlock) : KeepsFrom B W W' := by
  refine ⟨hg.size, fun k o _ hk ho => ?_⟩
  refine (hg.block k (Array.getElem?_eq_some_iff.1 hk).1 (fun he => ?_)).trans hk
  rcases h.own.2 with ⟨hv, _⟩ | ⟨g, cap, cur, hv, hb1, hgg, r⟩
  · simp only [Value.slice.injEq] at hv
    obtain ⟨rfl, _, rfl⟩ := hv
    simp [Value.ownBlock] at he
  · rw [hv] at he
    have : g = k := by simpa [Value.ownBlock] using he.symm
    subst this
    rw [hgg] at hk
    cases hk
    cases ho
end Go.Proofs.YtfipdoofgbjbjaaGreat

/- General words: maps by int that a function lays and looks into. No condition. -/
namespace Go.Proofs.YtfipdoofgbjbjaaGreat
open Go.RowKit
theorem find_ne {k j : Int} (h : ¬ k = j) (v : Value) (b : Nat) (es : List MapEntry) (i : Nat) : Instr.findNow (.int .i64) (.int .i64 k) (⟨.int .i64 j, v, b⟩ :: es) i = Instr.findNow (.int .i64) (.int .i64 k) es (i + 1) := by
  have h' : (k == j) = false := by simpa using h
  simp [Instr.findNow, Instr.sameNow, h']
section
variable {P : Program} {T K E : TypeId}
theorem run_mk_new (t : TypeId) (w : World) : (Instr.makeMap t none).run P w = .ok (.map (some w.heap.size)) (w.alloc (.map #[] 0)) := rfl
theorem alloc_set (W : World) (o o' : Obj) : { W.alloc o with heap := (W.alloc o).heap.setIfInBounds W.heap.size o' } = W.alloc o' := by
  have e : (W.alloc o).heap.setIfInBounds W.heap.size o' = (W.alloc o').heap := by
    show (W.heap.push o).setIfInBounds W.heap.size o' = W.heap.push o'
    apply Array.ext
    · simp
    · intro i h1 h2
      simp only [Array.size_push, Array.size_setIfInBounds] at h1 h2
      by_cases hi : i = W.heap.size
      · subst hi; simp
      · rw [Array.getElem_setIfInBounds_ne (by simpa using h1) (Ne.symm hi), Array.getElem_push_lt (by omega), Array.getElem_push_lt (by omega)]
  rw [e]
  rfl
theorem run_upd_new (hT : P.underlying T = some (.map K E)) (hK : P.underlying K = some (.int .i64)) (W : World) (es : Array MapEntry) (c : Nat) (k : Int) (v : Value) (hno : Instr.findNow (.int .i64) (.int .i64 k) es.toList 0 = some none) :
    (Instr.mapUpdate T (.map (some W.heap.size)) (.int .i64 k) v).run P (W.alloc (.map es c)) = .ok () (W.alloc (.map (es.push ⟨.int .i64 k, v, c⟩) (c + 1))) := by
  have hb : (W.alloc (.map es c)).heap[W.heap.size]? = some (.map es c) := (MapKept.heap_alloc W _).1
  have hk : MapKept.IsKey (.int .i64) (.int .i64 k) := by simp [MapKept.IsKey]
  simp only [Instr.mapUpdate, Sem.run_bind, run_underlying hT, MapKept.run_getObj_map hb, MapKept.run_checkKey hK hk, MapKept.run_findKey hK hno, MapKept.run_setObj_map _ hb, Result.andThen]
  rw [alloc_set]
theorem run_look_yes (hT : P.underlying T = some (.map K E)) (hK : P.underlying K = some (.int .i64)) {w : World} {g : Nat} {es : Array MapEntry} {c : Nat} (hb : w.heap[g]? = some (.map es c)) (k : Int) {i : Nat} {v : Value} (h : Instr.findNow (.int .i64) (.int .i64 k) es.toList 0 = some (some (i, v))) :
    (Instr.lookup T (.map (some g)) (.int .i64 k) true).run P w = .ok (.tuple #[v, .bool true]) w := by
  have hk : MapKept.IsKey (.int .i64) (.int .i64 k) := by simp [MapKept.IsKey]
  simp [Instr.lookup, Sem.run_bind, run_underlying hT, MapKept.run_getObj_map hb, MapKept.run_checkKey hK hk, MapKept.run_findKey hK h, Result.andThen]
theorem run_look_no (hT : P.underlying T = some (.map K E)) (hK : P.underlying K = some (.int .i64)) {w : World} {g : Nat} {es : Array MapEntry} {c : Nat} (hb : w.heap[g]? = some (.map es c)) (k : Int) {z : Value} (hz : (zeroValue E).run P w = .ok z w) (h : Instr.findNow (.int .i64) (.int .i64 k) es.toList 0 = some none) :
    (Instr.lookup T (.map (some g)) (.int .i64 k) true).run P w = .ok (.tuple #[z, .bool false]) w := by
  have hk : MapKept.IsKey (.int .i64) (.int .i64 k) := by simp [MapKept.IsKey]
  simp [Instr.lookup, Sem.run_bind, run_underlying hT, MapKept.run_getObj_map hb, MapKept.run_checkKey hK hk, MapKept.run_findKey hK h, hz, Result.andThen]
end
end Go.Proofs.YtfipdoofgbjbjaaGreat

/- General words: a function with a label to which it jumps back: its rounds are walked once. No condition. -/
namespace Go.Proofs.YtfipdoofgbjbjaaGreat
open Go.RowKit
section
variable {P : Program} {a : Act} {w : World} {Q : Exit → Act → World → Prop}
theorem wp_scope_label {c X : Code} (l : Nat) (J : Act → World → Prop) (μ : Act → World → Nat) (hf : findLabel c l = some (Code.skip.seq X))
    (first : Hid (∀ a w, J a w → X.wp P (Exit.jump l J Q) a w) → c.wp P (Exit.jump l J Q) a w)
    (pass : ∀ a w, J a w → X.wp P (Exit.jump l (fun a' w' => J a' w' ∧ μ a' w' < μ a w) Q) a w) : (Code.scope c).wp P Q a w :=
  wp_scope_jumps l J μ hf (first (hid fun a w h => wp_mono (pass a w h) (fun e a' w' hq => by
    cases e with
    | goto l' => exact ⟨hq.1, hq.2.1⟩
    | _ => exact hq))) (fun a w h => wp_seq (wp_skip (pass a w h)))
end
end Go.Proofs.YtfipdoofgbjbjaaGreat

/- General words: an append onto an owned row as a guarded operation of a region. No condition. -/
namespace Go.Proofs.YtfipdoofgbjbjaaGreat
open Go.RowKit
end Go.Proofs.YtfipdoofgbjbjaaGreat

/- General words: an append onto a row that has no room, in a list of operations. No condition. -/
namespace Go.Proofs.YtfipdoofgbjbjaaGreat
open Go.RowKit
end Go.Proofs.YtfipdoofgbjbjaaGreat

/- What a law is told of its arguments: a row of ints that came in; a pool that came in. No condition. -/
namespace Go.Proofs.YtfipdoofgbjbjaaGreat
open Go.ChangeShapes Go.WideShapes Go.ChangeAt Go.RowKit

theorem own_ : ownKnob Tryz.prog.godebug = none := by kernel_rfl
theorem laidOut : laidOutB Tryz.prog = true := by kernel_rfl

theorem block_lt {w : World} {b o : Nat} {v : Value} (h : w.cell? ⟨b, o, none⟩ = some v) : b < w.heap.size := World.block_lt_of_cell? w ⟨b, o, none⟩ h

section
variable {H : Type} {enc : TypeId × Value → H} {w : World} {base : Nat} {spare : Nat → Bool} {held : Bool}
set_option maxRecDepth 100000 in
theorem open_islice {fuel : Nat} {v : Value} {x : DataW H × List MemPlace} (h : DataW.trod enc Tryz.prog w base spare held fuel 22 [v] = some x) :
    ∃ A n c xs, v = .slice A n c ∧ n ≤ c ∧ c ≤ maxLen ∧ Sl i64 0 w 0 w.heap.size A n xs ∧ ∀ y ∈ xs, -9223372036854775808 ≤ y ∧ y ≤ 9223372036854775807 := by
  rcases open_ints Tryz.underlying22 Tryz.underlying3 (by kernel_rfl) h with ⟨hcs, _⟩ | ⟨a, l, c, zs, hcs, _, hl, hm, hz, _, hcell, hwz⟩
  · simp at hcs
    exact ⟨none, 0, 0, [], hcs, Nat.le_refl _, by simp [maxLen], Sl.nil _ _ _ _, by simp⟩
  · simp at hcs
    have hlz : l ≤ zs.length := by rw [hz]; split <;> omega
    refine ⟨some a, l, c, zs.take l, hcs, hl, hm, ⟨by rw [List.length_take]; omega, fun hn => ?_⟩, fun y hy => ?_⟩
    · obtain ⟨b, off, spot⟩ := a
      have h0 := hcell 0 (by omega)
      obtain rfl : spot = none := by simpa [Addr.add] using World.cell?_spot h0
      rw [Addr.add_lit] at h0
      refine ⟨b, off, rfl, Nat.zero_le _, block_lt h0, fun k hk => ?_⟩
      have := hcell k (by omega)
      rw [Addr.add_lit] at this
      rw [this, List.getElem?_take, if_pos hk]
      simp [List.getD]
    · have := hwz y (List.mem_of_mem_take hy)
      simp only [Lit.wf, IntKind.min, IntKind.max, IntKind.signed, IntKind.bits, Bool.and_eq_true, decide_eq_true_eq, if_true] at this
      omega
end
end Go.Proofs.YtfipdoofgbjbjaaGreat

/- What a law is told of a row of structures that came in. No condition. -/
namespace Go.Proofs.YtfipdoofgbjbjaaGreat
open Go.ChangeShapes Go.WideShapes Go.ChangeAt Go.RowKit Go.Joins Go.Deep

section
variable {H : Type} {enc : TypeId × Value → H} {w : World} {base : Nat} {spare : Nat → Bool} {held : Bool}
theorem open_sm {α : Type} {t e : TypeId} (ht : Tryz.prog.underlying t = some (.slice e)) {sz : Nat} (hC : Tryz.prog.cellsOf e = sz) (hs0 : 0 < sz) (ef : α → Nat → Value) (dflt : α) (ok : α → Prop)
    (hel : ∀ (n : Nat) (cs' : List Value) (y : DataW H × List MemPlace), DataW.trod enc Tryz.prog w base spare held n e cs' = some y → ∃ x, ok x ∧ ∀ j, j < sz → cs'[j]? = some (ef x j))
    {fuel : Nat} {v : Value} {x : DataW H × List MemPlace} (h : DataW.trod enc Tryz.prog w base spare held fuel t [v] = some x) :
    ∃ A n c xs, v = .slice A n c ∧ n ≤ c ∧ c ≤ maxLen ∧ Sm sz ef dflt w 0 w.heap.size A n xs ∧ ∀ y ∈ xs, ok y := by
  rcases open_slice ht h with ⟨hcs, _⟩ | ⟨a, l, c, m, n, D, Pl, hcs, hb, hl, hm, hmm, _, hi⟩
  · simp at hcs
    exact ⟨none, 0, 0, [], hcs, Nat.le_refl _, by simp [maxLen], Sm.nil _ _ _ _, by simp⟩
  · simp at hcs
    have each : ∀ i, i < l → ∃ x : α, ok x ∧ ∀ j, j < sz → w.cell? ((a.add (i * sz)).add j) = some (ef x j) := by
      intro i hil
      obtain ⟨cs', h1, h2⟩ := hi i (by rw [hmm]; split <;> omega)
      rw [hC] at h1
      obtain ⟨_, hlen, hcell⟩ := World.cells?_some h1
      obtain ⟨x, hx, hxj⟩ := hel n cs' _ h2
      exact ⟨x, hx, fun j hj => (hcell j hj).trans (hxj j hj)⟩
    obtain ⟨f, hf⟩ := Classical.axiomOfChoice (fun i : {i : Nat // i < l} => each i.1 i.2)
    let g : Nat → α := fun i => if hi : i < l then f ⟨i, hi⟩ else dflt
    have hg : ∀ i, i < l → ok (g i) ∧ ∀ j, j < sz → w.cell? ((a.add (i * sz)).add j) = some (ef (g i) j) := fun i hi => by
      have := hf ⟨i, hi⟩
      simpa only [g, dif_pos hi] using this
    refine ⟨some a, l, c, (List.range l).map g, hcs, hl, hm, ⟨by simp, fun hn => ?_⟩, fun y hy => ?_⟩
    · obtain ⟨b, off, spot⟩ := a
      have h0 := (hg 0 hn).2 0 hs0
      obtain rfl : spot = none := by simpa [Addr.add] using World.cell?_spot h0
      refine ⟨b, off, rfl, Nat.zero_le _, ?_, fun k hk j hj => ?_⟩
      · rw [Nat.zero_mul, Addr.add_lit, Addr.add_lit] at h0
        exact block_lt h0
      · have := (hg k hk).2 j hj
        rw [Addr.add_lit, Addr.add_lit] at this
        rw [this]
        simp [hk]
    · obtain ⟨i, hi, rfl⟩ := List.mem_map.1 hy
      exact (hg i (List.mem_range.1 hi)).1
end
end Go.Proofs.YtfipdoofgbjbjaaGreat
