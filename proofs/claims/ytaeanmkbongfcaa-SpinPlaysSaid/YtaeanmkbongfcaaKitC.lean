/- General words: rows of structures that are cloned. No condition. -/
import Derived.Test.YtaeanmkbongfcaaKitO
namespace Go.Proofs.Ytaeanmkbongfcaa
open Go.RowKit
section
variable {α : Type} {sz : Nat} {enc : α → Nat → Value} {d : α} {w w' : World} {lo hi : Nat} {e : TypeId} {A : Option Addr} {n c : Nat} {xs : List α}
theorem Sm.none_ (h : Sm sz enc d w lo hi none n xs) : n = 0 ∧ xs = [] := by
  have hn : n = 0 := by
    rcases Nat.eq_zero_or_pos n with h0 | h0
    · exact h0
    · obtain ⟨b, off, e, _⟩ := h.row h0
      cases e
  exact ⟨hn, List.eq_nil_of_length_eq_zero (h.len.trans hn)⟩
theorem Sm.alloc (h : Sm sz enc d w lo hi A n xs) (hB : hi ≤ w.heap.size) (o : Obj) : Sm sz enc d (w.alloc o) lo hi A n xs :=
  h.keep fun b i _ h2 => World.cell?_alloc_lt w o ⟨b, i, none⟩ (Nat.lt_of_lt_of_le h2 hB)
theorem Om.empty (w : World) (lo : Nat) (e : TypeId) (hlo : lo ≤ w.heap.size) : Om sz enc (w.alloc (.cells #[] e)) lo e (some ⟨w.heap.size, 0, none⟩) 0 0 [] :=
  ⟨rfl, World.ownsRow_made w #[] 0 hlo (by simp [maxLen]) (by simp)⟩
end
/-- a guard: the operation at hand is an append (the arm of go_region_held3 fails at once where it is none) -/
theorem at_app {P : Program} {ops : Array Oper} {dst : Option Tmp} {args : Array Operand} {tys : Array TypeId} {ty : TypeId} {pos : String} {aft : Array Edge} {g : Option (Nat × Bool)} {tmps : Array Value} {a : Act} {w : World} {K : Act → World → Prop} {Q : Exit → Act → World → Prop} {E : Prop}
    (h : if Region.wanted { dst := dst, op := .call { callee := .builtin .append, args := args, argTypes := tys }, type := ty, pos := pos, after := aft, guard := g } (yielded ops tmps) = true then Oper.wp P { dst := dst, op := .call { callee := .builtin .append, args := args, argTypes := tys }, type := ty, pos := pos, after := aft, guard := g } a w K Q else E) :
    if Region.wanted { dst := dst, op := .call { callee := .builtin .append, args := args, argTypes := tys }, type := ty, pos := pos, after := aft, guard := g } (yielded ops tmps) = true then Oper.wp P { dst := dst, op := .call { callee := .builtin .append, args := args, argTypes := tys }, type := ty, pos := pos, after := aft, guard := g } a w K Q else E := h
end Go.Proofs.Ytaeanmkbongfcaa
