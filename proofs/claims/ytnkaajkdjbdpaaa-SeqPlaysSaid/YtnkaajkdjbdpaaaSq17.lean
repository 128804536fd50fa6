/- Chapter 06: own of the statements, owned; what a read's step leaves as it was. No condition but sizes. -/
import Derived.Test.YtnkaajkdjbdpaaaSq16
import Derived.Test.YtnkaajkdjbdpaaaSqP
namespace Go.Proofs.Ytnkaajkdjbdpaaa
open Go.RowKit
theorem mown_of {W : World} {lo n c m d : Nat} {A B : Option Addr} {ws : List Int} {ls : List Bool} (oa : Ow u64v W lo 27 A n c ws) (ob : Ow blv W lo 4 B m d ls) (hn : n ≤ 100000) (hm : m ≤ 100000) : Mown W lo A n c B m d ws ls :=
  ⟨oa, ob, fun a b ha hb e => by
    obtain ⟨_, ca, h1⟩ := oa.blk a ha
    obtain ⟨_, cb, h2⟩ := ob.blk b hb
    rw [e] at h1
    exact absurd rfl (Blk.ne h1 h2 (by decide)), hn, hm⟩
def LoPost (xs : List Int) (ys : List Bool) (f : Bool) (w : World) (e : Ending) (w' : World) : Prop :=
  ∃ A n c B k d, e = .returned (mv A n c B k d f) ∧ Mown w' w.heap.size A n c B k d (xs.take 48) (ys.take 48) ∧ Below w.heap.size w w'
theorem lawown_any (A : Option Addr) (n c : Nat) (B : Option Addr) (m d : Nat) (f : Bool) (xs : List Int) (ys : List Bool) (w : World) (hx : Sl u64v 0 w 0 w.heap.size A n xs) (hy : Sl blv false w 0 w.heap.size B m ys) (hnc : n ≤ c) (hmd : m ≤ d) :
    Calls Try.prog 18 #[mv A n c B m d f] w (LoPost xs ys f w) := by
  refine (lown_r A n c B m d f xs ys w hx hy hnc hmd).mono ?_
  rintro e w' ⟨A', n', c', B', m', d', he, oa, ob, hb, hn, hm⟩
  exact ⟨A', n', c', B', m', d', he, mown_of oa ob (by omega) (by omega), hb⟩
end Go.Proofs.Ytnkaajkdjbdpaaa
