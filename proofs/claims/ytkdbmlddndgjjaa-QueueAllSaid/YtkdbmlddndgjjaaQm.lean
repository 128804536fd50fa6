/- QueueWaits: the map of what is due, the segments of a sorted row. No condition. -/
import Derived.Test.YtkdbmlddndgjjaaQw
import Derived.Test.YtkdbmlddndgjjaaKitP
import Derived.Maps.Own
import Derived.Maps.OwnSet
import Derived.Maps.Views
namespace Go.Proofs.Ytkdbmlddndgjjaa
open Go.RowKit Go.Maps
/-- how a row of one word in a map reads: by its block -/
def Rr (v : Value) : Option (DataW Nat × List MemPlace) :=
  match v with
  | .slice (some ⟨g, 0, none⟩) 1 1 => some (.lit (.int .i64 g), [])
  | .slice none 0 0 => some (.lit (.bool false), [])
  | _ => none
theorem Rr_inv {v : Value} {g : Nat} {ps : List MemPlace} (h : Rr v = some (.lit (.int .i64 g), ps)) : v = .slice (some ⟨g, 0, none⟩) 1 1 := by
  unfold Rr at h
  split at h
  · rename_i g'
    simp at h
    obtain ⟨h, _⟩ := h
    obtain rfl : g' = g := by omega
    rfl
  · simp at h
  · simp at h
/-- the map of what is due -/
structure QMap (w : World) (b n : Nat) (D : DataW Nat) : Prop where
  own : w.ownsMap Try.prog 23 Rr b n D
theorem QMap.step {w w' : World} {b n : Nat} {D : DataW Nat} (h : QMap w b n D) (hb : Below w.heap.size w w') : QMap w' b n D :=
  ⟨h.own.kept (row := none) ⟨hb.os, hb.tape, hb.output, hb.size, fun k hk _ => hb.block k hk⟩ (by simp)⟩
theorem QMap.kept {w w' : World} {row : Option Nat} {b n : Nat} {D : DataW Nat} (h : QMap w b n D) (hg : w.grownBy w' row) (hne : some b ≠ row) : QMap w' b n D := ⟨h.own.kept hg hne⟩
theorem QMap.setCell {w : World} {b n : Nat} {D : DataW Nat} (h : QMap w b n D) {p : Addr} (hp : p.block ≠ b) (u : Value) : QMap (w.setCell p u) b n D :=
  ⟨h.own.kept (row := some p.block) ⟨rfl, rfl, rfl, by simp, fun k _ hk => Below.heap_setCell w p u k (fun e => hk (by rw [e]))⟩ (fun e => hp (by simpa using e.symm))⟩
theorem u64_wf' {a : Int} (h0 : 0 ≤ a) (h1 : a ≤ 18446744073709551615) : (Lit.int .u64 a).wf = true := by
  simp [Lit.wf, IntKind.min, IntKind.max, IntKind.bits, IntKind.signed]
  omega
def DueAt (W : World) (base : Nat) (D : DataW Nat) (B : Option Addr) (x : Cb) : Prop :=
  ∃ g : Nat, D.atKey (.int .u64 x.2) (.lit (.bool false)) = .lit (.int .i64 g) ∧ base ≤ g ∧ W.cell? ⟨g, 0, none⟩ = some (.int .u64 x.1) ∧ ∀ a, B = some a → a.block ≠ g
/-- every callback of the row is told in the map -/
structure QDue (W : World) (base : Nat) (D : DataW Nat) (B : Option Addr) (j : Nat) (l : List Cb) : Prop where
  all : ∀ x ∈ l, (0 ≤ x.2 ∧ x.2 < j) ∧ DueAt W base D B x
section
variable {W W' : World} {base : Nat} {D : DataW Nat} {B : Option Addr} {j : Nat} {l : List Cb}
theorem blk_lt {W : World} {g : Nat} {v : Value} (h : W.cell? ⟨g, 0, none⟩ = some v) : g < W.heap.size := World.block_lt_of_cell? W ⟨g, 0, none⟩ h
theorem QDue.kept {row : Option Nat} (h : QDue W base D B j l) (hg : W.grownBy W' row) (hr : ∀ k, row = some k → k < base ∨ ∃ a, B = some a ∧ a.block = k) : QDue W' base D B j l := by
  refine ⟨fun x hx => ⟨(h.all x hx).1, ?_⟩⟩
  obtain ⟨g, h1, h2, h3, h4⟩ := (h.all x hx).2
  refine ⟨g, h1, h2, ?_, h4⟩
  have hb := hg.block g (blk_lt h3) (fun e => by
    rcases hr g e.symm with hh | ⟨a, ha, hab⟩
    · omega
    · exact h4 a ha hab)
  exact (World.cell?_of_block (a := ⟨g, 0, none⟩) hb).trans h3
theorem QDue.step (h : QDue W base D B j l) (hb : Below W.heap.size W W') : QDue W' base D B j l :=
  h.kept (row := none) ⟨hb.os, hb.tape, hb.output, hb.size, fun k hk _ => hb.block k hk⟩ (fun k hk => by cases hk)
theorem QDue.setCell (h : QDue W base D B j l) {p : Addr} (hp : p.block < base) (u : Value) : QDue (W.setCell p u) base D B j l :=
  h.kept (row := some p.block) ⟨rfl, rfl, rfl, by simp, fun k _ hk => Below.heap_setCell W p u k (fun e => hk (by rw [e]))⟩ (fun k hk => by cases hk; exact .inl hp)
theorem QDue.sub (h : QDue W base D B j l) {l' : List Cb} (hs : ∀ x ∈ l', x ∈ l) {j' : Nat} (hj : j ≤ j') : QDue W base D B j' l' :=
  ⟨fun x hx => ⟨⟨(h.all x (hs x hx)).1.1, by have := (h.all x (hs x hx)).1.2; omega⟩, (h.all x (hs x hx)).2⟩⟩
/-- the row is written, and moves within its block, or to a new one -/
theorem QDue.moved {row : Option Nat} (h : QDue W base D B j l) (hg : W.grownBy W' row) (hr : ∀ k, row = some k → k < base ∨ ∃ a, B = some a ∧ a.block = k) {B' : Option Addr} (hB : (∃ b o1 o2, B = some ⟨b, o1, none⟩ ∧ B' = some ⟨b, o2, none⟩) ∨ ∃ o2, B' = some ⟨W.heap.size, o2, none⟩) : QDue W' base D B' j l := by
  refine ⟨fun x hx => ⟨(h.all x hx).1, ?_⟩⟩
  obtain ⟨g, h1, h2, h3, h4⟩ := ((h.kept hg hr).all x hx).2
  obtain ⟨g0, k1, _, k3, _⟩ := (h.all x hx).2
  have e : g = g0 := by
    have := h1.symm.trans k1
    simp at this
    omega
  subst e
  have hlt := blk_lt k3
  refine ⟨g, h1, h2, h3, fun a ha => ?_⟩
  rcases hB with ⟨b, o1, o2, e1, e2⟩ | ⟨o2, e2⟩
  · rw [e2] at ha; cases ha; show b ≠ g; exact h4 ⟨b, o1, none⟩ e1
  · rw [e2] at ha; cases ha
    show W.heap.size ≠ g
    omega
/-- one more, told at a key that is new -/
theorem QDue.put (h : QDue W base D B j l) (hD : IsMap D) {p : Int} {g : Nat} (hg : base ≤ g) (hc : W.cell? ⟨g, 0, none⟩ = some (.int .u64 p)) (hB : ∀ a, B = some a → a.block ≠ g) :
    QDue W base (D.put (.int .u64 j) (.lit (.int .i64 g))) B (j + 1) (l ++ [(p, (j : Int))]) := by
  refine ⟨fun x hx => ?_⟩
  rcases List.mem_append.1 hx with hx | hx
  · obtain ⟨g', h1, h2, h3, h4⟩ := (h.all x hx).2
    have hj := (h.all x hx).1
    refine ⟨⟨hj.1, by omega⟩, g', ?_, h2, h3, h4⟩
    rw [atKey_put_other (fun e => by simp at e; omega)]
    exact h1
  · rw [List.mem_singleton] at hx
    subst hx
    exact ⟨⟨by show (0 : Int) ≤ j; omega, by show (j : Int) < _; omega⟩, g, atKey_put_same hD (show WideAt.IsKeyLit (.int .u64 (j : Int)) from trivial) _ _, hg, hc, hB⟩
/-- what the map says of a callback -/
theorem QDue.look (h : QDue W base D B j l) {b n : Nat} (hM : QMap W b n D) (hj : j ≤ 1000) {x : Cb} (hx : x ∈ l) :
    ∃ g : Nat, (Instr.lookup 50 (.map (some b)) (.int .u64 x.2) false).run Try.prog W = .ok (.slice (some ⟨g, 0, none⟩) 1 1) W ∧ W.cell? ⟨g, 0, none⟩ = some (.int .u64 x.1) := by
  obtain ⟨g, h1, h2, h3, h4⟩ := (h.all x hx).2
  have hb := (h.all x hx).1
  have hkey := Maps.keyOf_int_mk Try.underlying23 (u64_wf' hb.1 (by omega))
  obtain ⟨v, ps, hrun, hv⟩ := hM.own.lookup (Maps.int_keyed Try.underlying23) Try.underlying50 (z := .slice none 0 0) (zd := .lit (.bool false)) (zp := []) (by kernel_rfl) rfl hkey
  rw [h1] at hv
  obtain rfl := Rr_inv hv
  exact ⟨g, hrun, h3⟩
/-- .. whatever has been drawn -/
theorem QDue.lookN (h : QDue W base D B j l) {b n : Nat} (hM : QMap W b n D) (hj : j ≤ 1000) {x : Cb} (hx : x ∈ l) :
    ∃ g : Nat, (∀ q, (Instr.lookup 50 (.map (some b)) (.int .u64 x.2) false).run Try.prog (W.drewN q) = .ok (.slice (some ⟨g, 0, none⟩) 1 1) (W.drewN q)) ∧ W.cell? ⟨g, 0, none⟩ = some (.int .u64 x.1) := by
  obtain ⟨g, h1, h2, h3, h4⟩ := (h.all x hx).2
  have hb := (h.all x hx).1
  have hkey := Maps.keyOf_int_mk Try.underlying23 (u64_wf' hb.1 (by omega))
  refine ⟨g, fun q => ?_, h3⟩
  have hMq : (W.drewN q).ownsMap Try.prog 23 Rr b n D := hM.own
  obtain ⟨v, ps, hrun, hv⟩ := hMq.lookup (Maps.int_keyed Try.underlying23) Try.underlying50 (z := .slice none 0 0) (zd := .lit (.bool false)) (zp := []) (by kernel_rfl) rfl hkey
  rw [h1] at hv
  obtain rfl := Rr_inv hv
  exact hrun
end
theorem Qown.kept {w w' : World} {row : Option Nat} {lo : Nat} {A : Option Addr} {n : Nat} {xs : List Cb} (h : Qown w lo A n xs) (hg : w.grownBy w' row) (hr : ∀ k, row = some k → k < lo) : Qown w' lo A n xs := by
  have hb : ∀ b, lo ≤ b → b < w.heap.size → w'.heap[b]? = w.heap[b]? := fun b h1 h2 => hg.block b h2 (fun e => by have := hr b e.symm; omega)
  refine ⟨⟨h.sm.len, fun hn => ?_⟩, fun hn b off hA i => ?_⟩
  · obtain ⟨b, off, e, e1, e2, hc⟩ := h.sm.row hn
    exact ⟨b, off, e, e1, Nat.lt_of_lt_of_le e2 hg.size, fun k hk j hj => (World.cell?_of_block (a := ⟨b, off + k * 2 + j, none⟩) (hb b e1 e2)).trans (hc k hk j hj)⟩
  · obtain ⟨b', off', hA', e1, e2, _⟩ := h.sm.row hn
    rw [hA] at hA'
    cases hA'
    exact (World.frozen?_of_block (a := ⟨b, i, none⟩) (hb b e1 e2)).trans (h.free hn b off hA i)
/-- in a row in order what is done stands first -/
theorem seg0_pos {o : Int} {l : List Cb} (h : QUp l) : 0 < seg0 o l ↔ 0 < doneN o l := by
  constructor
  · intro h0
    unfold seg0 at h0
    obtain ⟨x, hx, hd⟩ := List.countP_pos_iff.1 h0
    obtain ⟨k, hk, rfl⟩ := List.mem_iff_getElem.1 hx
    rcases Nat.eq_zero_or_pos (doneN o l) with hz | hz
    · exfalso
      have hup : ∀ d k, k + d < l.length → perAt l k ≤ perAt l (k + d) := by
        intro d
        induction d with
        | zero => intro k _; exact Int.le_refl _
        | succ d ih =>
          intro k hk
          have h1 := ih k (by omega)
          have h2 := h (k + (d + 1)) hk (by omega)
          rw [show k + (d + 1) - 1 = k + d by omega] at h2
          omega
      have h3 := hup k 0 (by omega)
      rw [Nat.zero_add] at h3
      have h4 : perAt l k = (l[k]).1 := by show (l[k]?.getD (0, 0)).1 = _; rw [List.getElem?_eq_getElem hk]; rfl
      have h5 : (l[k]).1 ≤ o := by simpa using hd
      have := doneN_stop (o := o) (xs := l)
      rw [hz] at this
      exact this ⟨by omega, by omega⟩
    · exact hz
  · intro h0
    unfold seg0
    refine List.countP_pos_iff.2 ?_
    have hlen := doneN_le o l
    refine ⟨l[0]'(by omega), List.getElem_mem _, ?_⟩
    have := doneN_lt (o := o) (xs := l) h0
    have h4 : perAt l 0 = (l[0]'(by omega)).1 := by show (l[0]?.getD (0, 0)).1 = _; rw [List.getElem?_eq_getElem (by omega)]; rfl
    simpa [h4] using this
end Go.Proofs.Ytkdbmlddndgjjaa
