/- package sched: Split. No condition but sizes. -/
import Derived.Test.YtijofgbealikaaaSc10
import Derived.Test.YtijofgbealikaaaKitA
namespace Go.Proofs.Ytijofgbealikaaa
open Go.RowKit
/-- a row in a row: its numbers, and where they lie -/
abbrev RwE := List Int × Option Addr × Nat × Nat
def zRw : RwE := ([], none, 0, 0)
def encR (x : RwE) : Value := .slice x.2.1 x.2.2.1 x.2.2.2
def RwAll (W : World) (lo : Nat) (es : List RwE) : Prop := (∀ k, k < es.length → Ow i64 W lo 3 (es[k]?.getD zRw).2.1 (es[k]?.getD zRw).2.2.1 (es[k]?.getD zRw).2.2.2 (es[k]?.getD zRw).1) ∧
  ∀ k l, k < es.length → l < es.length → k ≠ l → ∀ a b, (es[k]?.getD zRw).2.1 = some a → (es[l]?.getD zRw).2.1 = some b → a.block ≠ b.block
section
variable {W W' : World} {lo : Nat} {es : List RwE}
theorem RwAll.step (h : RwAll W lo es) (hb : Below W.heap.size W W') : RwAll W' lo es := ⟨fun k hk => (h.1 k hk).step hb, h.2⟩
theorem RwAll.kept {g : Nat} {t : TypeId} {cs : Array Value} (h : RwAll W lo es) (hb : Blk W g t cs) (h1 : t ≠ 3) (hg : W.grownBy W' (some g)) : RwAll W' lo es :=
  ⟨fun k hk => (h.1 k hk).keptG hg (fun v hv e => (h.1 k hk).ne_blk hb h1 v hv (by simpa using e)), h.2⟩
theorem RwAll.nils (W : World) (lo n : Nat) : RwAll W lo (List.replicate n zRw) := by
  have e : ∀ k, (List.replicate n zRw)[k]?.getD zRw = zRw := fun k => by
    rw [List.getElem?_replicate]; split <;> rfl
  refine ⟨fun k hk => by rw [e]; exact Ow.nil _ _ _, fun k l _ _ _ a b ha _ => by rw [e] at ha; cases ha⟩
/-- behind an append onto row p -/
theorem RwAll.put {p m c : Nat} {A A' : Option Addr} {n c0 : Nat} {xs ys : List Int} (h : RwAll W lo es) (hp : p < es.length) (hx : es[p]?.getD zRw = (xs, A, n, c0)) (hg : W.grownBy W' (Value.slice A n c0).ownBlock)
    (hat : (Value.slice A' m c).ownBlock = (Value.slice A n c0).ownBlock ∨ (Value.slice A' m c).ownBlock = some W.heap.size) (ho : Ow i64 W' lo 3 A' m c ys) : RwAll W' lo (es.set p (ys, A', m, c)) := by
  have hget : ∀ k, k < es.length → (es.set p (ys, A', m, c))[k]?.getD zRw = if p = k then (ys, A', m, c) else es[k]?.getD zRw := fun k hk => by
    rw [List.getElem?_set]
    by_cases e : p = k
    · subst e; rw [if_pos rfl, if_pos hp, if_pos rfl]; rfl
    · rw [if_neg e, if_neg e]
  have hown : ∀ (B : Option Addr) (i d : Nat) (a : Addr), B = some a → a.off = 0 → (Value.slice B i d).ownBlock = some a.block ∨ True := fun _ _ _ _ _ _ => .inr trivial
  have hrow : ∀ k, k < es.length → p ≠ k → ∀ a, (es[k]?.getD zRw).2.1 = some a → some a.block ≠ (Value.slice A n c0).ownBlock := fun k hk hpk a ha e => by
    obtain ⟨b, hb, hbb⟩ := own_addr e.symm
    exact h.2 p k hp hk hpk b a (by rw [hx]; exact hb) ha hbb
  refine ⟨fun k hk => ?_, fun k l hk hl hkl a b ha hb => ?_⟩
  · rw [List.length_set] at hk
    rw [hget k hk]
    by_cases e : p = k
    · rw [if_pos e]; exact ho
    · rw [if_neg e]; exact (h.1 k hk).keptG hg (hrow k hk e)
  · rw [List.length_set] at hk hl
    rw [hget k hk] at ha
    rw [hget l hl] at hb
    have hnew : ∀ i, i < es.length → p ≠ i → ∀ a b, A' = some a → (es[i]?.getD zRw).2.1 = some b → a.block ≠ b.block := fun i hi hpi a b ha hb e => by
      obtain ⟨_, cs, hbb⟩ := (h.1 i hi).blk b hb
      have hlt := hbb.lt
      have hA : (Value.slice A' m c).ownBlock = some a.block := by subst ha; rfl
      rcases hat with h1 | h1
      · exact hrow i hi hpi b hb (by rw [← h1, hA, e])
      · rw [hA] at h1
        have := Option.some.inj h1
        omega
    by_cases e1 : p = k
    · rw [if_pos e1] at ha
      rw [if_neg (fun e => hkl (e1.symm.trans e))] at hb
      exact hnew l hl (fun e => hkl (e1.symm.trans e)) a b ha hb
    · rw [if_neg e1] at ha
      by_cases e2 : p = l
      · rw [if_pos e2] at hb
        exact (hnew k hk e1 b a hb ha).symm
      · rw [if_neg e2] at hb
        exact h.2 k l hk hl hkl a b ha hb
end
end Go.Proofs.Ytijofgbealikaaa
