/- afterglowref02: Live, Free, Step. afterglowlaw02: spoil. No condition but sizes. -/
import Derived.Test.YtnkaajkdjbdpaaaMWith
namespace Go.Proofs.Ytnkaajkdjbdpaaa
open Go.RowKit
/-- block g is no part of the rows -/
def FarM (n : Nat) (A B : Option Addr) (g : Nat) : Prop := 0 < n → (∀ a, A = some a → a.block ≠ g) ∧ (∀ b, B = some b → b.block ≠ g)
section
variable {W W' : World} {lo : Nat} {A : Option Addr} {n c : Nat} {B : Option Addr} {d : Nat} {ws : List Int} {ls : List Bool} {g : Nat}
theorem Mem.far (h : Mem W A n c B n d ws ls) (hg : W.heap.size ≤ g) : FarM n A B g := fun hn => by
  obtain ⟨b, off, rfl, _, h1, _⟩ := h.hx.row hn
  obtain ⟨b', off', rfl, _, h2, _⟩ := h.hy.row hn
  exact ⟨fun a ha => by simp at ha; subst ha; simp; omega, fun a ha => by simp at ha; subst ha; simp; omega⟩
theorem Mown.far (h : Mown W lo A n c B n d ws ls) (hg : g < lo) : FarM n A B g := fun _ =>
  ⟨fun a ha => by subst ha; have := h.oa.own.lt a.block rfl; omega, fun a ha => by subst ha; have := h.ob.own.lt a.block rfl; omega⟩
theorem Mem.setFar (h : Mem W A n c B n d ws ls) (hf : FarM n A B g) (o : Nat) (u : Value) : Mem (W.setCell ⟨g, o, none⟩ u) A n c B n d ws ls := by
  refine ⟨⟨h.hx.len, fun hn => ?_⟩, ⟨h.hy.len, fun hn => ?_⟩, h.hnc, h.hmd, h.hn, h.hm⟩
  · obtain ⟨b, off, rfl, h0, h1, h2⟩ := h.hx.row hn
    exact ⟨b, off, rfl, h0, by simpa using h1, fun k hk => (World.cell?_setCell_other W _ _ u (fun e => (hf hn).1 _ rfl (congrArg Addr.block e).symm)).trans (h2 k hk)⟩
  · obtain ⟨b, off, rfl, h0, h1, h2⟩ := h.hy.row hn
    exact ⟨b, off, rfl, h0, by simpa using h1, fun k hk => (World.cell?_setCell_other W _ _ u (fun e => (hf hn).2 _ rfl (congrArg Addr.block e).symm)).trans (h2 k hk)⟩
end
/-- a memory that can be read -/
def RMPost (W : World) (A : Option Addr) (n : Nat) (B : Option Addr) (r : MSt) (e : Ending) (W' : World) : Prop :=
  ∃ A' c' B' d', e = .returned (mv A' n c' B' n d' r.2.2) ∧ Mem W' A' n c' B' n d' r.1 r.2.1 ∧ Below W.heap.size W W' ∧ ∀ g, g < W.heap.size → FarM n A B g → FarM n A' B' g
def FarK (N m : Nat) (A B A' B' : Option Addr) : Prop := FarM m A' B' (N + 1) ∧ ∀ g, g < N → FarM m A B g → FarM m A' B' g
end Go.Proofs.Ytnkaajkdjbdpaaa
