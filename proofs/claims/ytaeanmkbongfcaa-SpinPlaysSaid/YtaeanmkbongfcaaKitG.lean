/- General words: an append onto an owned row in a fenced walk. No condition. -/
import Derived.Test.YtaeanmkbongfcaaKit7
import Derived.RangeFuncNested
import Derived.Laws.EntriesVeiled
namespace Go.Proofs.Ytaeanmkbongfcaa
open Go.RowKit Go.Shelf
attribute [local go_sem] Oper.semAt_some
theorem wpListIn_app {F : Fence} {n₁ : Nat} {P : Program} {α : Type} (enc : α → Value) (d : α) (w : World) {ops : Array Oper} {rest : List Oper} {o : Oper} {a : Act} {Q : Exit → Act → World → Prop} (hgd : o.guard = none) (s x : Operand) (t : TypeId)
    (ho : o.op = .call { callee := .builtin .append, args := #[s, x], argTypes := #[t, t] })
    (base : Nat) (e : TypeId) (i : TypeInfo) (z : Value) (bytes : Nat) (ht : P.underlying t = some (.slice e)) (hi : P.info? e = some i) (hz : i.zero = some z)
    (hsize : i.size = 1) (hby : i.bytes = bytes) (hzs : z.cells.size = 1)
    (A0 : Option Addr) (n c0 : Nat) (xs : List α) (hs : a.eval s = .slice A0 n c0) (hown : Ow enc w base e A0 n c0 xs)
    (lo hi' : Nat) (A : Option Addr) (m c : Nat) (ys : List α) (hx : a.eval x = .slice A m c) (hr : Sl enc d w lo hi' A m ys) (h1 : ∀ y, (enc y).oneCell' = true)
    (h63 : n + m ≤ maxLen) (hbytes : (n + m) * bytes ≤ 140737488355328) (hbase : base ≤ w.heap.size)
    (h : ∀ A' c' w', Ow enc w' base e A' (n + m) c' (xs ++ ys) → w.grownBy w' (Value.slice A0 n c0).ownBlock → ((Value.slice A' (n + m) c').ownBlock = (Value.slice A0 n c0).ownBlock ∨ (Value.slice A' (n + m) c').ownBlock = some w.heap.size) →
      wpListIn F n₁ P ops Q rest (a.put o.dst (.slice A' (n + m) c')) w') :
    wpListIn F n₁ P ops Q (o :: rest) a w := by
  refine wpListIn_plain hgd fun K hK' => ?_
  obtain ⟨A', c', w', hrun, k1, k2, k3⟩ := run_app enc d w t o.type base e i z bytes ht hi hz hsize hby hzs A0 n c0 xs hown lo hi' A m c ys hr h1 h63 hbytes hbase
  unfold Oper.wpIn
  refine ⟨?_, ?_⟩
  · simp [Oper.about, ho, resolve, Target.leads, Sem.run_pure]
  · rw [Oper.semAt_plain F _ _ (by rw [ho]; intro c hc'; cases hc')]
    simp [execOp, ho, resolve, invoke, builtin, hs, hx, hrun, Result.andThen]
    exact hK' _ _ (h A' c' w' k1 k2 k3)
theorem Ow.keeps {α : Type} {enc : α → Value} {W W' : World} {lo B : Nat} {e : TypeId} {A : Option Addr} {n c : Nat} {xs : List α} (h : Ow enc W lo e A n c xs) (hg : W.grownBy W' (Value.slice A n c).ownBlock) : KeepsFrom B W W' := by
  refine ⟨hg.size, fun k o _ hk ho => ?_⟩
  refine (hg.block k (Array.getElem?_eq_some_iff.1 hk).1 (fun he => ?_)).trans hk
  rcases h.own.2 with ⟨hv, _⟩ | ⟨g, cap, cur, hv, hb1, hgg, r⟩
  · simp only [Value.slice.injEq] at hv
    obtain ⟨rfl, _, rfl⟩ := hv
    simp [Value.ownBlock] at he
  · rw [hv] at he
    have : g = k := by simpa [Value.ownBlock] using he.symm
    subst this
    rw [hgg] at hk
    cases hk
    cases ho
end Go.Proofs.Ytaeanmkbongfcaa
