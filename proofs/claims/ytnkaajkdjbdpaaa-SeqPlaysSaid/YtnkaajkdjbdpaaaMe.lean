/- package memory: every, Check. No condition but sizes. -/
import Derived.Test.YtnkaajkdjbdpaaaSlg
namespace Go.Proofs.Ytnkaajkdjbdpaaa
open Go.RowKit

@[reducible] def mv (A : Option Addr) (n c : Nat) (B : Option Addr) (m d : Nat) (f : Bool) : Value := .agg #[.slice A n c, .slice B m d, .bool f]
@[reducible] def mcs (A : Option Addr) (n c : Nat) (B : Option Addr) (m d : Nat) (f : Bool) : Array Value := #[.slice A n c, .slice B m d, .bool f]
/-- a memory that can be read -/
structure Mem (W : World) (A : Option Addr) (n c : Nat) (B : Option Addr) (m d : Nat) (ws : List Int) (ls : List Bool) : Prop where
  hx : Sl u64v 0 W 0 W.heap.size A n ws
  hy : Sl blv false W 0 W.heap.size B m ls
  hnc : n ≤ c
  hmd : m ≤ d
  hn : n ≤ 100000
  hm : m ≤ 100000
section
variable {W W' : World} {A : Option Addr} {n c : Nat} {B : Option Addr} {m d : Nat} {ws : List Int} {ls : List Bool}
theorem Mem.step (h : Mem W A n c B m d ws ls) (hb : Below W.heap.size W W') : Mem W' A n c B m d ws ls := ⟨h.hx.step hb, h.hy.step hb, h.hnc, h.hmd, h.hn, h.hm⟩
theorem Mem.lenx (h : Mem W A n c B m d ws ls) : ws.length = n := h.hx.len
theorem Mem.leny (h : Mem W A n c B m d ws ls) : ls.length = m := h.hy.len
end
def poison : Int := 18369900232523579118
def wordOk (ws : List Int) (ls : List Bool) (k : Nat) : Bool := ls[k]?.getD false || ws[k]?.getD 0 == 0 || ws[k]?.getD 0 == poison
def MShape (ws : List Int) (ls : List Bool) : Prop := 1 ≤ ws.length ∧ ws.length ≤ 4096 ∧ ls.length = ws.length
def MGood (ws : List Int) (ls : List Bool) : Prop := MShape ws ls ∧ ∀ k, k < ws.length → wordOk ws ls k = true
instance {ws : List Int} {ls : List Bool} : Decidable (MShape ws ls) := by unfold MShape; infer_instance
instance {ws : List Int} {ls : List Bool} : Decidable (MGood ws ls) := by unfold MGood; infer_instance

set_option maxHeartbeats 1000000 in
theorem every_u64 (A : Option Addr) (n c lo : Nat) (xs : List _) (fn : Nat) (cap : Value) (p : Nat → Bool) (w : World) (h : Sl u64v 0 w lo w.heap.size A n xs) (hn : n ≤ 1000000)
    (hcl : ∀ k, k < n → ∀ W, Below w.heap.size w W → Calls Try.prog fn #[.int .i64 k, u64v (xs[k]?.getD 0), cap] W fun e W' => e = .returned (.bool (p k)) ∧ Below W.heap.size W W')
    (hfn : ∀ args W, (callFunc fn args).run Try.prog W = .ok (.enter fn args) W) :
    Calls Try.prog 59 #[.slice A n c, .func (.func fn) #[] #[cap]] w fun e w' => e = .returned (.bool (decide (∀ k, k < n → p k = true))) ∧ Below w.heap.size w w' := by
  have HX := hid h; have HC := hid hcl
  clear h hcl
  go_enter Try.func59, Try.ntmps59
  go_wp2
  go_loopw [9] (fun i wr => ∃ k : Nat, k ≤ n ∧ i = .int .i64 k ∧ (∀ j, j < k → p j = true) ∧ Below w.heap.size w wr) (fun i _ => n - (intOf i).toNat)
  case atStart => exact ⟨0, Nat.zero_le _, rfl, fun j hj => absurd hj (Nat.not_lt_zero _), Below.refl _ _⟩
  case round =>
    obtain ⟨k, hk, rfl, hall, hBr⟩ := hrel
    have HA := hid hall; clear hall
    by_cases hlt : k < n
    · obtain ⟨b, off, rfl, _, hbB, hc1⟩ := HX.out.row (by omega)
      have g1 := (hBr.cell (p := ⟨b, off + k, none⟩) hbB).trans (hc1 k hlt)
      have H := hid (HC.out k hlt wr hBr)
      obtain ⟨x, hX⟩ : ∃ x, x = xs[k]?.getD 0 := ⟨_, rfl⟩
      rw [← hX] at g1 H
      clear hc1 hX
      go_wp2_with fail
      refine H.out.mono ?_
      rintro e w1 ⟨rfl, hb⟩
      have HB := hid (hBr.trans (hb.mono hBr.size))
      clear g1 hb hBr H
      by_cases hp : p k = true
      · rw [hp]
        have HP := hid hp
        clear hp
        go_wp2
        go_roundw
        case rel => exact ⟨k + 1, by omega, by go_num, below_succ HA.out HP.out, HB.out⟩
        case measure => simp [intOf]; omega
      · have E := hid (show decide (∀ k, k < n → p k = true) = false from decide_eq_false (fun h => hp (h k hlt)))
        rw [show p k = false by simpa using hp]
        clear hp
        go_wp2
        go_ret
        exact ⟨ret_bool E.out.symm, HB.out⟩
    · obtain rfl : k = n := by omega
      have E := hid (show decide (∀ j, j < k → p j = true) = true from decide_eq_true HA.out)
      have HB := hid hBr
      clear hBr
      go_wp2
      go_ret
      exact ⟨ret_bool E.out.symm, HB.out⟩

set_option maxHeartbeats 1000000 in
theorem every_bool (A : Option Addr) (n c lo : Nat) (xs : List _) (fn : Nat) (cap : Value) (p : Nat → Bool) (w : World) (h : Sl blv false w lo w.heap.size A n xs) (hn : n ≤ 1000000)
    (hcl : ∀ k, k < n → ∀ W, Below w.heap.size w W → Calls Try.prog fn #[.int .i64 k, blv (xs[k]?.getD false), cap] W fun e W' => e = .returned (.bool (p k)) ∧ Below W.heap.size W W')
    (hfn : ∀ args W, (callFunc fn args).run Try.prog W = .ok (.enter fn args) W) :
    Calls Try.prog 72 #[.slice A n c, .func (.func fn) #[] #[cap]] w fun e w' => e = .returned (.bool (decide (∀ k, k < n → p k = true))) ∧ Below w.heap.size w w' := by
  have HX := hid h; have HC := hid hcl
  clear h hcl
  go_enter Try.func72, Try.ntmps72
  go_wp2
  go_loopw [9] (fun i wr => ∃ k : Nat, k ≤ n ∧ i = .int .i64 k ∧ (∀ j, j < k → p j = true) ∧ Below w.heap.size w wr) (fun i _ => n - (intOf i).toNat)
  case atStart => exact ⟨0, Nat.zero_le _, rfl, fun j hj => absurd hj (Nat.not_lt_zero _), Below.refl _ _⟩
  case round =>
    obtain ⟨k, hk, rfl, hall, hBr⟩ := hrel
    have HA := hid hall; clear hall
    by_cases hlt : k < n
    · obtain ⟨b, off, rfl, _, hbB, hc1⟩ := HX.out.row (by omega)
      have g1 := (hBr.cell (p := ⟨b, off + k, none⟩) hbB).trans (hc1 k hlt)
      have H := hid (HC.out k hlt wr hBr)
      obtain ⟨x, hX⟩ : ∃ x, x = xs[k]?.getD false := ⟨_, rfl⟩
      rw [← hX] at g1 H
      clear hc1 hX
      go_wp2_with fail
      refine H.out.mono ?_
      rintro e w1 ⟨rfl, hb⟩
      have HB := hid (hBr.trans (hb.mono hBr.size))
      clear g1 hb hBr H
      by_cases hp : p k = true
      · rw [hp]
        have HP := hid hp
        clear hp
        go_wp2
        go_roundw
        case rel => exact ⟨k + 1, by omega, by go_num, below_succ HA.out HP.out, HB.out⟩
        case measure => simp [intOf]; omega
      · have E := hid (show decide (∀ k, k < n → p k = true) = false from decide_eq_false (fun h => hp (h k hlt)))
        rw [show p k = false by simpa using hp]
        clear hp
        go_wp2
        go_ret
        exact ⟨ret_bool E.out.symm, HB.out⟩
    · obtain rfl : k = n := by omega
      have E := hid (show decide (∀ j, j < k → p j = true) = true from decide_eq_true HA.out)
      have HB := hid hBr
      clear hBr
      go_wp2
      go_ret
      exact ⟨ret_bool E.out.symm, HB.out⟩


set_option maxHeartbeats 1000000 in
theorem check1_any (g : Nat) (A : Option Addr) (n c : Nat) (B : Option Addr) (m d : Nat) (f : Bool) (ls : List Bool) (k : Nat) (x : Int) (w : World) (hP : Blk w g 44 (mcs A n c B m d f)) (hy : Sl blv false w 0 w.heap.size B m ls) (hk : k < m) :
    Calls Try.prog 60 #[.int .i64 k, .int .u64 x, .pointer (some ⟨g, 0, none⟩)] w fun e w' => e = .returned (.bool (ls[k]?.getD false || x == 0 || x == poison)) ∧ Below w.heap.size w w' := by
  obtain ⟨k0, k1, k2, kf⟩ := hP.cells3
  obtain ⟨b, off, rfl, _, _, hc⟩ := hy.row (by omega)
  have g1 := hc k hk
  obtain ⟨y, hY⟩ : ∃ y, y = ls[k]?.getD false := ⟨_, rfl⟩
  rw [← hY] at g1 ⊢
  clear hc hY hy hP
  obtain ⟨z, hz⟩ : ∃ z, z = (x == 0) := ⟨_, rfl⟩
  cases y
  · by_cases h0 : x = 0
    · have e0 : (x == 0) = true := by simp [h0]
      have E := hid (show (false || x == 0 || x == poison) = true by simp [h0])
      clear h0 hz
      go_enter Try.func60, Try.ntmps60
      go_wp2
      go_ret
      exact ⟨ret_bool E.out.symm, Below.refl _ _⟩
    · have e0 : (x == 0) = false := by simp [h0]
      have E := hid (show (false || x == 0 || x == poison) = (x == 18369900232523579118) by simp [h0, poison])
      clear h0 hz
      go_enter Try.func60, Try.ntmps60
      go_wp2
      go_ret
      exact ⟨ret_bool E.out.symm, Below.refl _ _⟩
  · have E := hid (show (true || x == 0 || x == poison) = true by simp)
    clear hz
    go_enter Try.func60, Try.ntmps60
    go_wp2
    go_ret
    exact ⟨ret_bool E.out.symm, Below.refl _ _⟩

def mcheckC (ws : List Int) (ls : List Bool) : Int := if MGood ws ls then 0 else 120
set_option maxHeartbeats 1000000 in
theorem mcheck_any (A : Option Addr) (n c : Nat) (B : Option Addr) (m d : Nat) (f : Bool) (ws : List Int) (ls : List Bool) (w : World) (h : Mem w A n c B m d ws ls) :
    Calls Try.prog 43 #[mv A n c B m d f] w fun e w' => e = .returned (.int .i64 (mcheckC ws ls)) ∧ Below w.heap.size w w' := by
  have hB := below_box w (.cells (mcs A n c B m d f) 44)
  have h0 := h.step hB
  have P := Blk.new w 44 (mcs A n c B m d f)
  obtain ⟨k0, k1, k2, kf⟩ := P.cells3
  have HL := hid h.lenx; have HL' := hid h.leny
  have hn := h.hn; have hm := h.hm
  have HP := hid P; have HR := hid h0; have HB := hid hB
  clear h0 h P hB
  have NO : Hid (¬ MGood ws ls → mcheckC ws ls = 120) := hid (fun h => if_neg h)
  by_cases h1 : 1 ≤ n
  · by_cases h2 : n ≤ 4096
    · by_cases h3 : m = n
      · subst h3
        have h1i : (1 : Int) ≤ (m : Int) := by omega
        have h2i : (m : Int) ≤ (4096 : Int) := by omega
        have HC : Hid (∀ k, k < m → ∀ W, Below (w.alloc (.cells (mcs A m c B m d f) 44)).heap.size (w.alloc (.cells (mcs A m c B m d f) 44)) W → Calls Try.prog 60 #[.int .i64 k, u64v (ws[k]?.getD 0), .pointer (some ⟨w.heap.size, 0, none⟩)] W fun e W' => e = .returned (.bool (wordOk ws ls k)) ∧ Below W.heap.size W W') :=
          hid (fun k hk W hW => check1_any w.heap.size A m c B m d f ls k _ W (HP.out.step hW) (HR.out.hy.step hW) hk)
        go_enter Try.func43, Try.ntmps43
        go_wp2_with fail
        clear k0 k1 k2 kf
        refine (every_u64 A m c 0 ws 60 _ (wordOk ws ls) _ HR.out.hx (by omega) HC.out (enters_of Try.func60 (by kernel_rfl) rfl)).mono ?_
        rintro e w1 ⟨rfl, hb⟩
        have HB1 := hid (below_then HB.out hb)
        clear hb
        by_cases hall : ∀ k, k < m → wordOk ws ls k = true
        · have E := hid (show mcheckC ws ls = 0 from if_pos ⟨by have := HL.out; have := HL'.out; unfold MShape; omega, by rw [HL.out]; exact hall⟩)
          rw [decide_eq_true hall]
          clear hall
          go_wp2
          go_ret
          exact ⟨ret_int E.out.symm, HB1.out⟩
        · have E := hid (NO.out (fun hg => hall (by have := hg.2; rwa [HL.out] at this)))
          rw [decide_eq_false hall]
          clear hall
          go_wp2
          go_ret
          exact ⟨ret_int E.out.symm, HB1.out⟩
      · have E := hid (NO.out (fun hg => by have := hg.1.2.2; have := HL.out; have := HL'.out; omega))
        have h1i : (1 : Int) ≤ (n : Int) := by omega
        have h2i : (n : Int) ≤ (4096 : Int) := by omega
        have h3i : ((m : Int) == (n : Int)) = false := by simp; omega
        clear h3
        go_enter Try.func43, Try.ntmps43
        go_wp2
        go_ret
        exact ⟨ret_int E.out.symm, HB.out⟩
    · have E := hid (NO.out (fun hg => by have := hg.1.2.1; have := HL.out; omega))
      have h1i : (1 : Int) ≤ (n : Int) := by omega
      have h2i : decide ((n : Int) ≤ (4096 : Int)) = false := decide_eq_false (by omega)
      go_enter Try.func43, Try.ntmps43
      go_wp2
      go_ret
      exact ⟨ret_int E.out.symm, HB.out⟩
  · have E := hid (NO.out (fun hg => by have := hg.1.1; have := HL.out; omega))
    have h1i : decide ((1 : Int) ≤ (n : Int)) = false := decide_eq_false (by omega)
    go_enter Try.func43, Try.ntmps43
    go_wp2
    go_ret
    exact ⟨ret_int E.out.symm, HB.out⟩
end Go.Proofs.Ytnkaajkdjbdpaaa
