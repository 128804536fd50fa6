/- package rcu: rows of queues; all. No condition but sizes. -/
import Derived.Test.YtfipdoofgbjbjaaGr14
import Derived.Test.YtfipdoofgbjbjaaQt
import Derived.Test.YtfipdoofgbjbjaaKitA
import Derived.Shelf.Abstract
namespace Go.Proofs.Ytfipdoofgbjbjaa
open Go.RowKit
attribute [local go_sem] Oper.semAt_some
/-- a queue in a row: its callbacks, the number that is over, and where its row lies -/
structure Qe where
  l : List Cb
  o : Int
  A : Option Addr
  n : Nat
  c : Nat
def zQe : Qe := ⟨[], 0, none, 0, 0⟩
def encQ (x : Qe) : Nat → Value
  | 0 => .slice x.A x.n x.c
  | _ => .int .u64 x.o
set_option maxRecDepth 100000 in
set_option maxHeartbeats 4000000 in
theorem indexf_cb (A : Option Addr) (n c lo hi : Nat) (xs : List Cb) (F : Nat) (caps : Array Value) (p : Cb → Bool) (w : World) (h : Sm 2 encC (0, 0) w lo hi A n xs) (hhi : hi ≤ w.heap.size) (hn : n ≤ 1000000) (hF : Enters Try.prog F) (hcon : ∀ (x : Cb) (W : World), x ∈ xs → Below w.heap.size w W → Calls Try.prog F (#[cbv x.1 x.2] ++ caps) W fun e W' => e = .returned (.bool (p x)) ∧ Below W.heap.size W W') :
    Calls Try.prog 67 #[.slice A n c, .func (.func F) #[] caps] w fun e w' => (∃ v, e = .returned (.int .i64 v) ∧ decide (0 ≤ v) = xs.any p) ∧ Below w.heap.size w w' := by
  have HR := hid h; have hl := hid h.len; have HF := hid hF; have HC := hid hcon
  have HS := hid hhi
  clear h hhi hF hcon
  go_enter Try.func67, Try.ntmps67
  go_wp2_with fail
  go_loopw [5, 8] (fun _ i wr => ∃ j : Nat, j ≤ n ∧ i = .int .i64 j ∧ Below w.heap.size w wr ∧ ∀ k, k < j → p (xs[k]?.getD (0, 0)) = false) (fun _ i _ => n - (intOf i).toNat)
  case atStart => exact ⟨0, Nat.zero_le _, rfl, Below.refl _ _, fun k hk => absurd hk (Nat.not_lt_zero _)⟩
  case round =>
    obtain ⟨j, hj, rfl, hbw, hall⟩ := hrel
    have HA := hid hall; have HB := hid hbw
    clear hall hbw
    by_cases hjn : j < n
    · obtain ⟨b, off, rfl, _, hbh, hc⟩ := HR.out.row (by omega)
      have hs := HS.out
      have c0 := hc j hjn 0 (by omega)
      have c1 := hc j hjn 1 (by omega)
      rw [Nat.add_zero] at c0
      have f0 := (HB.out.cell (p := ⟨b, off + j * 2, none⟩) (by show b < _; omega)).trans c0
      have f1 := (HB.out.cell (p := ⟨b, off + j * 2 + 1, none⟩) (by show b < _; omega)).trans c1
      clear c0 c1
      obtain ⟨x, hx⟩ : ∃ x, x = xs[j]?.getD (0, 0) := ⟨_, rfl⟩
      rw [← hx] at f0 f1
      replace f0 : wr.cell? ⟨b, off + j * 2, none⟩ = some (.int .u64 x.1) := f0
      replace f1 : wr.cell? ⟨b, off + j * 2 + 1, none⟩ = some (.int .u64 x.2) := f1
      have HX := hid hx
      have HM := hid (show x ∈ xs by rw [hx, List.getElem?_eq_getElem (by rw [hl.out]; exact hjn)]; exact List.getElem_mem _)
      have hji : (j : Int) < (n : Int) := by omega
      clear hx hc hs
      go_wp2_with fail
      clear f0 f1
      rw [HF.out (#[cbv x.1 x.2] ++ caps) wr, Oper.upon_enter]
      refine (HC.out x wr HM.out HB.out).mono ?_
      rintro e w1 ⟨rfl, hb⟩
      have HB1 := hid (below_then HB.out hb)
      clear hb HB
      obtain ⟨q, hq⟩ : ∃ q, q = p x := ⟨_, rfl⟩
      have HQ := hid hq
      rw [← hq]
      clear hq
      rcases q with _ | _
      · go_wp2
        go_roundw
        case rel => exact ⟨j + 1, by omega, by go_num, HB1.out, fun k hk => by
          rcases Nat.lt_or_ge k j with h | h
          · exact HA.out k h
          · obtain rfl : k = j := by omega
            rw [← HX.out]; exact HQ.out.symm⟩
        case measure => simp [intOf]; omega
      · have HY := hid (show xs.any p = true from List.any_eq_true.2 ⟨x, HM.out, HQ.out.symm⟩)
        go_wp2
        go_ret
        exact ⟨⟨_, rfl, by rw [HY.out]; simp⟩, HB1.out⟩
    · obtain rfl : j = n := by omega
      have HY := hid (show xs.any p = false from by
        rw [List.any_eq_false]
        intro x hx
        obtain ⟨k, hk, rfl⟩ := List.mem_iff_getElem.1 hx
        have := HA.out k (by rw [← hl.out]; exact hk)
        rw [List.getElem?_eq_getElem hk] at this
        simpa using this)
      have hnn : ¬ ((j : Int) < (j : Int)) := by omega
      go_wp2
      go_ret
      exact ⟨⟨_, rfl, by rw [HY.out]; simp⟩, HB.out⟩
theorem containsf_cb (A : Option Addr) (n c lo hi : Nat) (xs : List Cb) (F : Nat) (caps : Array Value) (p : Cb → Bool) (w : World) (h : Sm 2 encC (0, 0) w lo hi A n xs) (hhi : hi ≤ w.heap.size) (hn : n ≤ 1000000) (hF : Enters Try.prog F) (hcon : ∀ (x : Cb) (W : World), x ∈ xs → Below w.heap.size w W → Calls Try.prog F (#[cbv x.1 x.2] ++ caps) W fun e W' => e = .returned (.bool (p x)) ∧ Below W.heap.size W W') :
    Calls Try.prog 45 #[.slice A n c, .func (.func F) #[] caps] w fun e w' => e = .returned (.bool (xs.any p)) ∧ Below w.heap.size w w' := by
  have HI := hid (indexf_cb A n c lo hi xs F caps p w h hhi hn hF hcon)
  clear h hF hcon
  go_enter Try.func45, Try.ntmps45
  go_wp2_with fail
  refine HI.out.mono ?_
  rintro e w' ⟨⟨v, rfl, hv⟩, hb⟩
  have HV := hid hv; have HB := hid hb
  clear hv hb
  go_wp2
  go_ret
  exact ⟨ret_bool HV.out, HB.out⟩
set_option maxRecDepth 100000 in
theorem all1_cb (x : Cb) (F : Nat) (caps : Array Value) (g : Nat) (b : Bool) (w : World) (hP : Blk w g 66 #[.func (.func F) #[] caps]) (hF : Enters Try.prog F)
    (hcon : ∀ W, Below w.heap.size w W → Calls Try.prog F (#[cbv x.1 x.2] ++ caps) W fun e W' => e = .returned (.bool b) ∧ Below W.heap.size W W') :
    Calls Try.prog 46 #[cbv x.1 x.2, ptr g] w fun e w' => e = .returned (.bool (!b)) ∧ Below w.heap.size w w' := by
  have HF := hid hF; have HC := hid hcon
  have HBB := hid (below_box w (.cells #[.int .u64 x.1, .int .u64 x.2] 65))
  obtain ⟨y0, yf⟩ := (hP.step HBB.out).cells1
  obtain ⟨z0, z1, zf⟩ := (Blk.new w 65 #[.int .u64 x.1, .int .u64 x.2]).cells2
  clear hF hcon hP
  go_enter Try.func46, Try.ntmps46
  go_wp2_with fail
  rw [HF.out (#[cbv x.1 x.2] ++ caps) _, Oper.upon_enter]
  clear y0 yf
  refine (HC.out _ HBB.out).mono ?_
  rintro e w1 ⟨rfl, hb⟩
  have HB := hid (below_then HBB.out hb)
  clear hb HBB HC
  go_wp2
  go_ret
  exact ⟨rfl, HB.out⟩
set_option maxRecDepth 100000 in
theorem all_cb (A : Option Addr) (n c : Nat) (xs : List Cb) (F : Nat) (caps : Array Value) (p : Cb → Bool) (w : World) (h : Sm 2 encC (0, 0) w 0 w.heap.size A n xs) (hn : n ≤ 1000000) (hF : Enters Try.prog F) (hcon : ∀ (x : Cb) (W : World), x ∈ xs → Below w.heap.size w W → Calls Try.prog F (#[cbv x.1 x.2] ++ caps) W fun e W' => e = .returned (.bool (p x)) ∧ Below W.heap.size W W') :
    Calls Try.prog 23 #[.slice A n c, .func (.func F) #[] caps] w fun e w' => e = .returned (.bool (xs.all p)) ∧ Below w.heap.size w w' := by
  have HBB := hid (below_box w (.cells #[.func (.func F) #[] caps] 66))
  have P := hid (Blk.new w 66 #[.func (.func F) #[] caps])
  have HR := hid (h.below HBB.out (Nat.le_refl _))
  have HF := hid hF; have HC := hid hcon
  have hmf : ∀ (fn : Fn) (first cap : Array Value) (w : World), (Instr.makeFunc fn first cap).run Try.prog w = .ok (.func fn first cap) w := fun _ _ _ _ => rfl
  have EQ : Hid ((!xs.any (fun x => !p x)) = xs.all p) := hid (by rw [List.not_any_eq_all_not]; simp)
  clear h hF hcon
  go_enter Try.func23, Try.ntmps23
  go_wp2_with fail
  clear hmf
  have hz := hid (show (w.alloc (.cells #[.func (.func F) #[] caps] 66)).heap.size = w.heap.size + 1 by simp)
  generalize w.alloc (.cells #[.func (.func F) #[] caps] 66) = W0 at *
  refine (containsf_cb A n c 0 w.heap.size xs 46 #[ptr w.heap.size] (fun x => !p x) W0 HR.out (by have := hz.out; omega) hn (enters_of Try.func46 (by kernel_rfl) rfl) (fun x W hx hbW => all1_cb x F caps w.heap.size (p x) W (P.out.step hbW) HF.out (fun W2 hb2 => HC.out x W2 hx (below_then (below_then HBB.out hbW) hb2)))).mono ?_
  rintro e w1 ⟨rfl, hb⟩
  have HB := hid (below_then HBB.out hb)
  clear hb
  go_wp2
  go_ret
  exact ⟨ret_bool EQ.out, HB.out⟩

set_option maxRecDepth 100000 in
set_option maxHeartbeats 4000000 in
theorem indexf_qe (A : Option Addr) (n c lo hi : Nat) (xs : List Qe) (F : Nat) (caps : Array Value) (p : Qe → Bool) (w : World) (h : Sm 2 encQ zQe w lo hi A n xs) (hhi : hi ≤ w.heap.size) (hn : n ≤ 1000000) (hF : Enters Try.prog F) (hcon : ∀ (x : Qe) (W : World), x ∈ xs → Below w.heap.size w W → Calls Try.prog F (#[qv x.A x.n x.c x.o] ++ caps) W fun e W' => e = .returned (.bool (p x)) ∧ Below W.heap.size W W') :
    Calls Try.prog 71 #[.slice A n c, .func (.func F) #[] caps] w fun e w' => (∃ v, e = .returned (.int .i64 v) ∧ decide (0 ≤ v) = xs.any p) ∧ Below w.heap.size w w' := by
  have HR := hid h; have hl := hid h.len; have HF := hid hF; have HC := hid hcon
  have HS := hid hhi
  clear h hhi hF hcon
  go_enter Try.func71, Try.ntmps71
  go_wp2_with fail
  go_loopw [5, 8] (fun _ i wr => ∃ j : Nat, j ≤ n ∧ i = .int .i64 j ∧ Below w.heap.size w wr ∧ ∀ k, k < j → p (xs[k]?.getD zQe) = false) (fun _ i _ => n - (intOf i).toNat)
  case atStart => exact ⟨0, Nat.zero_le _, rfl, Below.refl _ _, fun k hk => absurd hk (Nat.not_lt_zero _)⟩
  case round =>
    obtain ⟨j, hj, rfl, hbw, hall⟩ := hrel
    have HA := hid hall; have HB := hid hbw
    clear hall hbw
    by_cases hjn : j < n
    · obtain ⟨b, off, rfl, _, hbh, hc⟩ := HR.out.row (by omega)
      have hs := HS.out
      have c0 := hc j hjn 0 (by omega)
      have c1 := hc j hjn 1 (by omega)
      rw [Nat.add_zero] at c0
      have f0 := (HB.out.cell (p := ⟨b, off + j * 2, none⟩) (by show b < _; omega)).trans c0
      have f1 := (HB.out.cell (p := ⟨b, off + j * 2 + 1, none⟩) (by show b < _; omega)).trans c1
      clear c0 c1
      obtain ⟨x, hx⟩ : ∃ x, x = xs[j]?.getD zQe := ⟨_, rfl⟩
      rw [← hx] at f0 f1
      replace f0 : wr.cell? ⟨b, off + j * 2, none⟩ = some (.slice x.A x.n x.c) := f0
      replace f1 : wr.cell? ⟨b, off + j * 2 + 1, none⟩ = some (.int .u64 x.o) := f1
      have HX := hid hx
      have HM := hid (show x ∈ xs by rw [hx, List.getElem?_eq_getElem (by rw [hl.out]; exact hjn)]; exact List.getElem_mem _)
      have hji : (j : Int) < (n : Int) := by omega
      clear hx hc hs
      go_wp2_with fail
      clear f0 f1
      rw [HF.out (#[qv x.A x.n x.c x.o] ++ caps) wr, Oper.upon_enter]
      refine (HC.out x wr HM.out HB.out).mono ?_
      rintro e w1 ⟨rfl, hb⟩
      have HB1 := hid (below_then HB.out hb)
      clear hb HB
      obtain ⟨q, hq⟩ : ∃ q, q = p x := ⟨_, rfl⟩
      have HQ := hid hq
      rw [← hq]
      clear hq
      rcases q with _ | _
      · go_wp2
        go_roundw
        case rel => exact ⟨j + 1, by omega, by go_num, HB1.out, fun k hk => by
          rcases Nat.lt_or_ge k j with h | h
          · exact HA.out k h
          · obtain rfl : k = j := by omega
            rw [← HX.out]; exact HQ.out.symm⟩
        case measure => simp [intOf]; omega
      · have HY := hid (show xs.any p = true from List.any_eq_true.2 ⟨x, HM.out, HQ.out.symm⟩)
        go_wp2
        go_ret
        exact ⟨⟨_, rfl, by rw [HY.out]; simp⟩, HB1.out⟩
    · obtain rfl : j = n := by omega
      have HY := hid (show xs.any p = false from by
        rw [List.any_eq_false]
        intro x hx
        obtain ⟨k, hk, rfl⟩ := List.mem_iff_getElem.1 hx
        have := HA.out k (by rw [← hl.out]; exact hk)
        rw [List.getElem?_eq_getElem hk] at this
        simpa using this)
      have hnn : ¬ ((j : Int) < (j : Int)) := by omega
      go_wp2
      go_ret
      exact ⟨⟨_, rfl, by rw [HY.out]; simp⟩, HB.out⟩
theorem containsf_qe (A : Option Addr) (n c lo hi : Nat) (xs : List Qe) (F : Nat) (caps : Array Value) (p : Qe → Bool) (w : World) (h : Sm 2 encQ zQe w lo hi A n xs) (hhi : hi ≤ w.heap.size) (hn : n ≤ 1000000) (hF : Enters Try.prog F) (hcon : ∀ (x : Qe) (W : World), x ∈ xs → Below w.heap.size w W → Calls Try.prog F (#[qv x.A x.n x.c x.o] ++ caps) W fun e W' => e = .returned (.bool (p x)) ∧ Below W.heap.size W W') :
    Calls Try.prog 50 #[.slice A n c, .func (.func F) #[] caps] w fun e w' => e = .returned (.bool (xs.any p)) ∧ Below w.heap.size w w' := by
  have HI := hid (indexf_qe A n c lo hi xs F caps p w h hhi hn hF hcon)
  clear h hF hcon
  go_enter Try.func50, Try.ntmps50
  go_wp2_with fail
  refine HI.out.mono ?_
  rintro e w' ⟨⟨v, rfl, hv⟩, hb⟩
  have HV := hid hv; have HB := hid hb
  clear hv hb
  go_wp2
  go_ret
  exact ⟨ret_bool HV.out, HB.out⟩
set_option maxRecDepth 100000 in
theorem all1_qe (x : Qe) (F : Nat) (caps : Array Value) (g : Nat) (b : Bool) (w : World) (hP : Blk w g 69 #[.func (.func F) #[] caps]) (hF : Enters Try.prog F)
    (hcon : ∀ W, Below w.heap.size w W → Calls Try.prog F (#[qv x.A x.n x.c x.o] ++ caps) W fun e W' => e = .returned (.bool b) ∧ Below W.heap.size W W') :
    Calls Try.prog 51 #[qv x.A x.n x.c x.o, ptr g] w fun e w' => e = .returned (.bool (!b)) ∧ Below w.heap.size w w' := by
  have HF := hid hF; have HC := hid hcon
  have HBB := hid (below_box w (.cells #[.slice x.A x.n x.c, .int .u64 x.o] 40))
  obtain ⟨y0, yf⟩ := (hP.step HBB.out).cells1
  obtain ⟨z0, z1, zf⟩ := (Blk.new w 40 #[.slice x.A x.n x.c, .int .u64 x.o]).cells2
  clear hF hcon hP
  go_enter Try.func51, Try.ntmps51
  go_wp2_with fail
  rw [HF.out (#[qv x.A x.n x.c x.o] ++ caps) _, Oper.upon_enter]
  clear y0 yf
  refine (HC.out _ HBB.out).mono ?_
  rintro e w1 ⟨rfl, hb⟩
  have HB := hid (below_then HBB.out hb)
  clear hb HBB HC
  go_wp2
  go_ret
  exact ⟨rfl, HB.out⟩
set_option maxRecDepth 100000 in
theorem all_qe (A : Option Addr) (n c : Nat) (xs : List Qe) (F : Nat) (caps : Array Value) (p : Qe → Bool) (w : World) (h : Sm 2 encQ zQe w 0 w.heap.size A n xs) (hn : n ≤ 1000000) (hF : Enters Try.prog F) (hcon : ∀ (x : Qe) (W : World), x ∈ xs → Below w.heap.size w W → Calls Try.prog F (#[qv x.A x.n x.c x.o] ++ caps) W fun e W' => e = .returned (.bool (p x)) ∧ Below W.heap.size W W') :
    Calls Try.prog 26 #[.slice A n c, .func (.func F) #[] caps] w fun e w' => e = .returned (.bool (xs.all p)) ∧ Below w.heap.size w w' := by
  have HBB := hid (below_box w (.cells #[.func (.func F) #[] caps] 69))
  have P := hid (Blk.new w 69 #[.func (.func F) #[] caps])
  have HR := hid (h.below HBB.out (Nat.le_refl _))
  have HF := hid hF; have HC := hid hcon
  have hmf : ∀ (fn : Fn) (first cap : Array Value) (w : World), (Instr.makeFunc fn first cap).run Try.prog w = .ok (.func fn first cap) w := fun _ _ _ _ => rfl
  have EQ : Hid ((!xs.any (fun x => !p x)) = xs.all p) := hid (by rw [List.not_any_eq_all_not]; simp)
  clear h hF hcon
  go_enter Try.func26, Try.ntmps26
  go_wp2_with fail
  clear hmf
  have hz := hid (show (w.alloc (.cells #[.func (.func F) #[] caps] 69)).heap.size = w.heap.size + 1 by simp)
  generalize w.alloc (.cells #[.func (.func F) #[] caps] 69) = W0 at *
  refine (containsf_qe A n c 0 w.heap.size xs 51 #[ptr w.heap.size] (fun x => !p x) W0 HR.out (by have := hz.out; omega) hn (enters_of Try.func51 (by kernel_rfl) rfl) (fun x W hx hbW => all1_qe x F caps w.heap.size (p x) W (P.out.step hbW) HF.out (fun W2 hb2 => HC.out x W2 hx (below_then (below_then HBB.out hbW) hb2)))).mono ?_
  rintro e w1 ⟨rfl, hb⟩
  have HB := hid (below_then HBB.out hb)
  clear hb
  go_wp2
  go_ret
  exact ⟨ret_bool EQ.out, HB.out⟩

set_option maxRecDepth 100000 in
set_option maxHeartbeats 4000000 in
theorem indexf_int (A : Option Addr) (n c lo hi : Nat) (xs : List Int) (F : Nat) (caps : Array Value) (p : Int → Bool) (w : World) (h : Sl i64 0 w lo hi A n xs) (hhi : hi ≤ w.heap.size) (hn : n ≤ 1000000) (hF : Enters Try.prog F) (hcon : ∀ (x : Int) (W : World), x ∈ xs → Below w.heap.size w W → Calls Try.prog F (#[Value.int .i64 x] ++ caps) W fun e W' => e = .returned (.bool (p x)) ∧ Below W.heap.size W W') :
    Calls Try.prog 88 #[.slice A n c, .func (.func F) #[] caps] w fun e w' => (∃ v, e = .returned (.int .i64 v) ∧ decide (0 ≤ v) = xs.any p) ∧ Below w.heap.size w w' := by
  have HR := hid h; have hl := hid h.len; have HF := hid hF; have HC := hid hcon
  have HS := hid hhi
  clear h hhi hF hcon
  go_enter Try.func88, Try.ntmps88
  go_wp2_with fail
  go_loopw [5, 8] (fun _ i wr => ∃ j : Nat, j ≤ n ∧ i = .int .i64 j ∧ Below w.heap.size w wr ∧ ∀ k, k < j → p (xs[k]?.getD 0) = false) (fun _ i _ => n - (intOf i).toNat)
  case atStart => exact ⟨0, Nat.zero_le _, rfl, Below.refl _ _, fun k hk => absurd hk (Nat.not_lt_zero _)⟩
  case round =>
    obtain ⟨j, hj, rfl, hbw, hall⟩ := hrel
    have HA := hid hall; have HB := hid hbw
    clear hall hbw
    by_cases hjn : j < n
    · obtain ⟨b, off, rfl, _, hbh, hc⟩ := HR.out.row (by omega)
      have hs := HS.out
      have f0 := (HB.out.cell (p := ⟨b, off + j, none⟩) (by show b < _; omega)).trans (hc j hjn)
      obtain ⟨x, hx⟩ : ∃ x, x = xs[j]?.getD 0 := ⟨_, rfl⟩
      rw [← hx] at f0
      replace f0 : wr.cell? ⟨b, off + j, none⟩ = some (Value.int .i64 x) := f0
      have HX := hid hx
      have HM := hid (show x ∈ xs by rw [hx, List.getElem?_eq_getElem (by rw [hl.out]; exact hjn)]; exact List.getElem_mem _)
      have hji : (j : Int) < (n : Int) := by omega
      clear hx hc hs
      go_wp2_with fail
      clear f0
      rw [HF.out (#[Value.int .i64 x] ++ caps) wr, Oper.upon_enter]
      refine (HC.out x wr HM.out HB.out).mono ?_
      rintro e w1 ⟨rfl, hb⟩
      have HB1 := hid (below_then HB.out hb)
      clear hb HB
      obtain ⟨q, hq⟩ : ∃ q, q = p x := ⟨_, rfl⟩
      have HQ := hid hq
      rw [← hq]
      clear hq
      rcases q with _ | _
      · go_wp2
        go_roundw
        case rel => exact ⟨j + 1, by omega, by go_num, HB1.out, fun k hk => by
          rcases Nat.lt_or_ge k j with h | h
          · exact HA.out k h
          · obtain rfl : k = j := by omega
            rw [← HX.out]; exact HQ.out.symm⟩
        case measure => simp [intOf]; omega
      · have HY := hid (show xs.any p = true from List.any_eq_true.2 ⟨x, HM.out, HQ.out.symm⟩)
        go_wp2
        go_ret
        exact ⟨⟨_, rfl, by rw [HY.out]; simp⟩, HB1.out⟩
    · obtain rfl : j = n := by omega
      have HY := hid (show xs.any p = false from by
        rw [List.any_eq_false]
        intro x hx
        obtain ⟨k, hk, rfl⟩ := List.mem_iff_getElem.1 hx
        have := HA.out k (by rw [← hl.out]; exact hk)
        rw [List.getElem?_eq_getElem hk] at this
        simpa using this)
      have hnn : ¬ ((j : Int) < (j : Int)) := by omega
      go_wp2
      go_ret
      exact ⟨⟨_, rfl, by rw [HY.out]; simp⟩, HB.out⟩
theorem containsf_int (A : Option Addr) (n c lo hi : Nat) (xs : List Int) (F : Nat) (caps : Array Value) (p : Int → Bool) (w : World) (h : Sl i64 0 w lo hi A n xs) (hhi : hi ≤ w.heap.size) (hn : n ≤ 1000000) (hF : Enters Try.prog F) (hcon : ∀ (x : Int) (W : World), x ∈ xs → Below w.heap.size w W → Calls Try.prog F (#[Value.int .i64 x] ++ caps) W fun e W' => e = .returned (.bool (p x)) ∧ Below W.heap.size W W') :
    Calls Try.prog 77 #[.slice A n c, .func (.func F) #[] caps] w fun e w' => e = .returned (.bool (xs.any p)) ∧ Below w.heap.size w w' := by
  have HI := hid (indexf_int A n c lo hi xs F caps p w h hhi hn hF hcon)
  clear h hF hcon
  go_enter Try.func77, Try.ntmps77
  go_wp2_with fail
  refine HI.out.mono ?_
  rintro e w' ⟨⟨v, rfl, hv⟩, hb⟩
  have HV := hid hv; have HB := hid hb
  clear hv hb
  go_wp2
  go_ret
  exact ⟨ret_bool HV.out, HB.out⟩
set_option maxRecDepth 100000 in
theorem all1_int (x : Int) (F : Nat) (caps : Array Value) (g : Nat) (b : Bool) (w : World) (hP : Blk w g 100 #[.func (.func F) #[] caps]) (hF : Enters Try.prog F)
    (hcon : ∀ W, Below w.heap.size w W → Calls Try.prog F (#[Value.int .i64 x] ++ caps) W fun e W' => e = .returned (.bool b) ∧ Below W.heap.size W W') :
    Calls Try.prog 78 #[Value.int .i64 x, ptr g] w fun e w' => e = .returned (.bool (!b)) ∧ Below w.heap.size w w' := by
  have HF := hid hF; have HC := hid hcon
  have HBB := hid (Below.refl w.heap.size w)
  obtain ⟨y0, yf⟩ := hP.cells1
  clear hF hcon hP
  go_enter Try.func78, Try.ntmps78
  go_wp2_with fail
  rw [HF.out (#[Value.int .i64 x] ++ caps) _, Oper.upon_enter]
  clear y0 yf
  refine (HC.out _ HBB.out).mono ?_
  rintro e w1 ⟨rfl, hb⟩
  have HB := hid (below_then HBB.out hb)
  clear hb HBB HC
  go_wp2
  go_ret
  exact ⟨rfl, HB.out⟩
set_option maxRecDepth 100000 in
theorem all_int (A : Option Addr) (n c : Nat) (xs : List Int) (F : Nat) (caps : Array Value) (p : Int → Bool) (w : World) (h : Sl i64 0 w 0 w.heap.size A n xs) (hn : n ≤ 1000000) (hF : Enters Try.prog F) (hcon : ∀ (x : Int) (W : World), x ∈ xs → Below w.heap.size w W → Calls Try.prog F (#[Value.int .i64 x] ++ caps) W fun e W' => e = .returned (.bool (p x)) ∧ Below W.heap.size W W') :
    Calls Try.prog 57 #[.slice A n c, .func (.func F) #[] caps] w fun e w' => e = .returned (.bool (xs.all p)) ∧ Below w.heap.size w w' := by
  have HBB := hid (below_box w (.cells #[.func (.func F) #[] caps] 100))
  have P := hid (Blk.new w 100 #[.func (.func F) #[] caps])
  have HR := hid (h.below HBB.out (Nat.le_refl _))
  have HF := hid hF; have HC := hid hcon
  have hmf : ∀ (fn : Fn) (first cap : Array Value) (w : World), (Instr.makeFunc fn first cap).run Try.prog w = .ok (.func fn first cap) w := fun _ _ _ _ => rfl
  have EQ : Hid ((!xs.any (fun x => !p x)) = xs.all p) := hid (by rw [List.not_any_eq_all_not]; simp)
  clear h hF hcon
  go_enter Try.func57, Try.ntmps57
  go_wp2_with fail
  clear hmf
  have hz := hid (show (w.alloc (.cells #[.func (.func F) #[] caps] 100)).heap.size = w.heap.size + 1 by simp)
  generalize w.alloc (.cells #[.func (.func F) #[] caps] 100) = W0 at *
  refine (containsf_int A n c 0 w.heap.size xs 78 #[ptr w.heap.size] (fun x => !p x) W0 HR.out (by have := hz.out; omega) hn (enters_of Try.func78 (by kernel_rfl) rfl) (fun x W hx hbW => all1_int x F caps w.heap.size (p x) W (P.out.step hbW) HF.out (fun W2 hb2 => HC.out x W2 hx (below_then (below_then HBB.out hbW) hb2)))).mono ?_
  rintro e w1 ⟨rfl, hb⟩
  have HB := hid (below_then HBB.out hb)
  clear hb
  go_wp2
  go_ret
  exact ⟨ret_bool EQ.out, HB.out⟩

end Go.Proofs.Ytfipdoofgbjbjaa
