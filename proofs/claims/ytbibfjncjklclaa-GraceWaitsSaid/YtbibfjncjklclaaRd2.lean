/- package reader: the iterator sections. No condition but sizes, and that the rows are of one length. -/
import Derived.RangeFuncNested
import Derived.RangeFuncBound
import Derived.RangeFuncCalls
import Derived.RangeFuncLeaves
import Derived.RangeFuncWrites
import Derived.RangeFuncBox
import Derived.Shelf.Abstract
import Derived.OwnWalkIn
import Derived.TacticsInMore
import Derived.LoopNIn
import Derived.LoopIn
import Derived.Maps.OwnIn
import Derived.Test.YtbibfjncjklclaaRd
namespace Go.Proofs.Ytbibfjncjklclaa
open Go.RowKit Go.Shelf
attribute [local go_sem] Oper.semAt_some

theorem sections_any (now : Int) (A : Option Addr) (n c : Nat) (B : Option Addr) (m d : Nat) (w : World) :
    Calls Try.prog 62 #[rv now A n c B m d] w fun e w' => e = .returned (.func (.func 73) #[] #[.pointer (some ⟨w.heap.size, 0, none⟩)]) ∧ w.alloc (.cells #[.int .i64 now, .slice A n c, .slice B m d] 24) = w' := by
  go_enter Try.func62, Try.ntmps62
  go_wp2
  go_ret
  exact ⟨rfl, rfl⟩

/-- what the body of a loop over the sections must keep: all below n₀, and the iterator's box -/
def KeepsBox (n₀ Bs : Nat) (A B : World) : Prop := Below n₀ A B ∧ B.heap[Bs]? = A.heap[Bs]?
theorem KeepsBox.refl (n₀ Bs : Nat) (A : World) : KeepsBox n₀ Bs A A := ⟨Below.refl _ _, rfl⟩
theorem KeepsBox.trans {n₀ Bs : Nat} {A B C : World} (h : KeepsBox n₀ Bs A B) (k : KeepsBox n₀ Bs B C) : KeepsBox n₀ Bs A C := ⟨h.1.trans k.1, k.2.trans h.2⟩
theorem KeepsBox.blk {n₀ Bs : Nat} {A B : World} {t : TypeId} {cs : Array Value} (h : KeepsBox n₀ Bs A B) (hb : Blk A Bs t cs) : Blk B Bs t cs := h.2.trans hb
theorem keepsBox_put {n₀ Bs : Nat} {w : World} (hn : n₀ ≤ w.heap.size) (hb : Bs < w.heap.size) (W : World) (l : Nat) (o o' : Obj) (hl : w.heap.size ≤ l) (h : W.heap[l]? = some o) (h1 : o.isCells = false) (h2 : o.isWalk = false) : KeepsBox n₀ Bs W (W.putObj l o') :=
  ⟨belowK_b hn W l o o' hl h h1 h2, (grownBy_putObj' W l o').block Bs (by have := (Array.getElem?_eq_some_iff.1 h).1; omega) (by simp; omega)⟩

/-- the sections among the first k CPUs -/
def secL (ns os : List Int) : Nat → List (Int × Int)
  | 0 => []
  | k + 1 => if 0 < ns[k]?.getD 0 then secL ns os k ++ [((k : Int), os[k]?.getD 0)] else secL ns os k
theorem secL_length (ns os : List Int) : ∀ k, (secL ns os k).length ≤ k
  | 0 => by simp [secL]
  | k + 1 => by
    have := secL_length ns os k
    rw [secL]; split <;> simp <;> omega

set_option maxRecDepth 100000 in
set_option maxHeartbeats 2000000 in
theorem sec1_in (M l Bs n₀ : Nat) (now : Int) (A : Option Addr) (n c : Nat) (B : Option Addr) (d lo : Nat) (ns os : List Int) (hm : 1 ≤ M) (hn : n ≤ 1000000) (J Jx : List (Int × Int) → World → Prop)
    (hY : ∀ pre x W, J pre W → pre.length < n → YieldAt Fence.wide (M - 1) Try.prog l #[.int .i64 x.1, .int .i64 x.2] W fun e W' =>
      (e = .returned (.bool true) ∧ J (pre ++ [x]) W' ∧ KeepsBox n₀ Bs W W') ∨ (e = .returned (.bool false) ∧ Jx (pre ++ [x]) W'))
    (W : World) (hb : Blk W Bs 24 #[.int .i64 now, .slice A n c, .slice B n d]) (hx : Sl i64 0 W lo n₀ A n ns) (hy : Sl i64 0 W lo n₀ B n os) (h0 : J [] W) :
    CallsIn Fence.wide M Try.prog 73 #[.func (.yield l) #[] #[], .pointer (some ⟨Bs, 0, none⟩)] W fun e W' => (∃ v, e = .returned v) ∧
      (J (secL ns os n) W' ∨ ∃ k, k < n ∧ 0 < ns[k]?.getD 0 ∧ Jx (secL ns os (k + 1)) W') := by
  refine callsIn_of_wp Try.func73 rfl trivial ?_ rfl
  simp only [Try.ntmps73, List.size_toArray, List.length_cons, List.length_nil, Nat.reduceAdd, Nat.reduceSub, Array.replicate_succ, Array.replicate_zero, List.push_toArray, List.append_toArray, List.nil_append, List.cons_append]
  obtain ⟨k0, k1, k2, kf⟩ := hb.cells3
  have HX := hid hx; have HY := hid hy; clear hx hy
  gi_wp2
  gi_loopw [8] (fun i wr => ∃ k : Nat, k ≤ n ∧ i = .int .i64 k ∧ J (secL ns os k) wr ∧ KeepsBox n₀ Bs W wr) (fun i _ => n - (intOf i).toNat)
  case atStart => exact ⟨0, Nat.zero_le _, by simp, h0, KeepsBox.refl _ _ _⟩
  case round =>
    obtain ⟨k, hk, rfl, hJs, hnx⟩ := hrel
    obtain ⟨m0, m1, m2, mf⟩ := (hnx.blk hb).cells3
    by_cases hlt : k < n
    · obtain ⟨b, off, rfl, _, hbB, hc⟩ := HX.out.row (by omega)
      have g : wr.cell? ⟨b, off + k, none⟩ = some (.int .i64 (ns[k]?.getD 0)) := (hnx.1.cell (p := ⟨b, off + k, none⟩) hbB).trans (hc _ hlt)
      obtain ⟨b', off', rfl, _, hbB', hc'⟩ := HY.out.row (by omega)
      have g' : wr.cell? ⟨b', off' + k, none⟩ = some (.int .i64 (os[k]?.getD 0)) := (hnx.1.cell (p := ⟨b', off' + k, none⟩) hbB').trans (hc' _ hlt)
      clear hc hc'
      have hsucc := hid (show secL ns os (k + 1) = if 0 < ns[k]?.getD 0 then secL ns os k ++ [((k : Int), os[k]?.getD 0)] else secL ns os k from rfl)
      obtain ⟨x, hX⟩ : ∃ x, x = ns[k]?.getD 0 := ⟨_, rfl⟩
      obtain ⟨y, hY'⟩ : ∃ y, y = os[k]?.getD 0 := ⟨_, rfl⟩
      rw [← hX] at g hsucc
      rw [← hY'] at g' hsucc
      have HXk := hid hX
      clear hX hY'
      by_cases hpos : 0 < x
      · rw [if_pos hpos] at hsucc
        obtain ⟨fn, tmps, assign, body, hy, hR⟩ := hY _ ((k : Int), y) wr hJs (Nat.lt_of_le_of_lt (secL_length ns os k) hlt)
        gi_wp2
        refine hR.mono ?_
        rintro e W3 (⟨rfl, hJ3, hk3⟩ | ⟨rfl, hJx3⟩)
        · gi_wp2
          go_roundw
          case rel => exact ⟨k + 1, by omega, by go_num, by rw [hsucc.out]; exact hJ3, hnx.trans hk3⟩
          case measure => simp [intOf]; omega
        · gi_wp2
          refine bodyPost_ret (results_none rfl _ _ _) rfl ?_
          exact ⟨⟨_, rfl⟩, .inr ⟨k, hlt, by rw [← HXk.out]; exact hpos, by rw [hsucc.out]; exact hJx3⟩⟩
      · rw [if_neg hpos] at hsucc
        have hp' : decide (0 < x) = false := by simpa using hpos
        gi_wp2
        refine ⟨fun f h => (by cases h), ?_⟩
        gi_wp2
        go_roundw
        case rel => exact ⟨k + 1, by omega, by go_num, by rw [hsucc.out]; exact hJs, hnx⟩
        case measure => simp [intOf]; omega
    · obtain rfl : k = n := by omega
      gi_wp2
      go_end0
      exact ⟨⟨_, rfl⟩, .inl hJs⟩

theorem sec_stops (M Bs n₀ : Nat) (now : Int) (A : Option Addr) (n c : Nat) (B : Option Addr) (d lo : Nat) (ns os : List Int) (hm : 1 ≤ M) (hn : n ≤ 1000000) (w : World) (hBs : Bs < w.heap.size) (hn₀ : n₀ ≤ w.heap.size)
    (hb : Blk w Bs 24 #[.int .i64 now, .slice A n c, .slice B n d]) (hx : Sl i64 0 w lo n₀ A n ns) (hy : Sl i64 0 w lo n₀ B n os) :
    SeqStopsK Fence.wide M Try.prog 73 #[.pointer (some ⟨Bs, 0, none⟩)] (fun x : Int × Int => #[Value.int .i64 x.1, Value.int .i64 x.2]) (KeepsBox n₀ Bs) (fun ys => ys = secL ns os n) (fun pre => ∃ k, k < n ∧ 0 < ns[k]?.getD 0 ∧ pre = secL ns os (k + 1)) n w :=
  fun l J Jx W hW _ _ hY h0 => by
    refine (sec1_in M l Bs n₀ now A n c B d lo ns os hm hn J Jx hY W (hb.below hW hBs) (hx.below hW hn₀) (hy.below hW hn₀) h0).mono ?_
    rintro e W' ⟨he, hj | ⟨k, hk, hp, hj⟩⟩
    · exact ⟨he, .inl ⟨_, rfl, hj⟩⟩
    · exact ⟨he, .inr ⟨_, ⟨k, hk, hp, rfl⟩, hj⟩⟩
end Go.Proofs.Ytbibfjncjklclaa
