/- General words: an append onto an owned row as a guarded operation of a region. No condition. -/
import Derived.Test.YtkdbmlddndgjjaaKit7
namespace Go.Proofs.Ytkdbmlddndgjjaa
open Go.RowKit
theorem wpList_appw {P : Program} {α : Type} (enc : α → Value) (d : α) (w : World) {ops : Array Oper} {rest : List Oper} {o : Oper} {a : Act} {Q : Exit → Act → World → Prop} (hgd : Region.wanted o (yielded ops a.tmps) = true) (s x : Operand) (t : TypeId)
    (ho : o.op = .call { callee := .builtin .append, args := #[s, x], argTypes := #[t, t] })
    (base : Nat) (e : TypeId) (i : TypeInfo) (z : Value) (bytes : Nat) (ht : P.underlying t = some (.slice e)) (hi : P.info? e = some i) (hz : i.zero = some z)
    (hsize : i.size = 1) (hby : i.bytes = bytes) (hzs : z.cells.size = 1)
    (A0 : Option Addr) (n c0 : Nat) (xs : List α) (hs : a.eval s = .slice A0 n c0) (hown : Ow enc w base e A0 n c0 xs)
    (lo hi' : Nat) (A : Option Addr) (m c : Nat) (ys : List α) (hx : a.eval x = .slice A m c) (hr : Sl enc d w lo hi' A m ys) (h1 : ∀ y, (enc y).oneCell' = true)
    (h63 : n + m ≤ maxLen) (hbytes : (n + m) * bytes ≤ 140737488355328) (hbase : base ≤ w.heap.size)
    (h : ∀ A' c' w', Ow enc w' base e A' (n + m) c' (xs ++ ys) → w.grownBy w' (Value.slice A0 n c0).ownBlock → ((Value.slice A' (n + m) c').ownBlock = (Value.slice A0 n c0).ownBlock ∨ (Value.slice A' (n + m) c').ownBlock = some w.heap.size) →
      wpList P ops Q rest (a.put o.dst (.slice A' (n + m) c')) w') :
    wpList P ops Q (o :: rest) a w := by
  refine wpList_step fun K hK => ?_
  rw [if_pos hgd]
  obtain ⟨A', c', w', hrun, k1, k2, k3⟩ := run_app enc d w t o.type base e i z bytes ht hi hz hsize hby hzs A0 n c0 xs hown lo hi' A m c ys hr h1 h63 hbytes hbase
  unfold Oper.wp
  simp [execOp, ho, resolve, invoke, builtin, hs, hx, hrun, Result.andThen]
  exact hK _ _ (h A' c' w' k1 k2 k3)
end Go.Proofs.Ytkdbmlddndgjjaa
