/- afterglowlaw14: own, op. No condition but sizes, and that numbers are of their kinds. -/
import Derived.Test.YtfipdoofgbjbjaaRc16
import Derived.Deep.DeepCutAuto
import Derived.Deep.CutBlock
namespace Go.Proofs.Ytfipdoofgbjbjaa
open Go.RowKit
attribute [local go_sem] Oper.semAt_some
/-- all of it, as it came in -/
structure RcIn (w : World) (s : St) (g : Gr) (es : List Qe) (a : Ra) : Prop where
  ra : Sl i64 0 w 0 w.heap.size a.A a.n s.2.1
  ka : a.n ≤ a.k
  rb : Sl i64 0 w 0 w.heap.size a.B a.m s.2.2
  kb : a.m ≤ a.d
  gd : Sl blv false w 0 w.heap.size a.D g.nd.length g.nd
  kd : g.nd.length ≤ a.kd
  gi : g.dn ≤ 9223372036854775807 ∧ g.ak ≤ 9223372036854775807
  qs : Sm 2 encQ zQe w 0 w.heap.size a.Q a.nq es
  kq : a.nq ≤ a.kq
  qe : ∀ x ∈ es, Sm 2 encC (0, 0) w 0 w.heap.size x.A x.n x.l ∧ x.n ≤ x.c ∧ 0 ≤ x.o ∧ x.o ≤ 18446744073709551615
theorem RcIn.step {w w' : World} {s : St} {g : Gr} {es : List Qe} {a : Ra} (h : RcIn w s g es a) (hb : Below w.heap.size w w') : RcIn w' s g es a :=
  ⟨h.ra.step hb, h.ka, h.rb.step hb, h.kb, h.gd.step hb, h.kd, h.gi, h.qs.step hb, h.kq, fun x hx => ⟨(h.qe x hx).1.step hb, (h.qe x hx).2⟩⟩
def cutS (s : St) : St := (s.1, s.2.1.take 9, s.2.2.take 9)
def cutG (g : Gr) : Gr := ⟨g.nd.take 9, g.dn, g.ak, g.on⟩
def cutQ (es : List Qe) : Qs := (es.take 9).map fun x => (x.l.take 18, x.o)
def LoPost (s : St) (g : Gr) (es : List Qe) (w : World) (e : Ending) (w' : World) : Prop :=
  ∃ a' es', e = .returned (rcv (cutS s) (cutG g) a') ∧ ql es' = cutQ es ∧ RcT w' w.heap.size (cutS s) (cutG g) es' a' ∧ Below w.heap.size w w'
theorem min9 (n c : Nat) (hn : n ≤ c) : ∃ m, m = min n 9 ∧ (if (9 : Int) < (n : Int) then (9 : Int) else (n : Int)) = (m : Int) ∧ min (n : Int) 9 = (m : Int) ∧ (m : Int) ≤ (c : Int) ∧ (0 : Int) ≤ (m : Int) ∧ m ≤ 9 ∧ m ≤ n :=
  ⟨min n 9, rfl, by split <;> omega, by omega, by omega, by omega, by omega, by omega⟩
theorem min18 (n c : Nat) (hn : n ≤ c) : ∃ m, m = min n 18 ∧ (if (18 : Int) < (n : Int) then (18 : Int) else (n : Int)) = (m : Int) ∧ min (n : Int) 18 = (m : Int) ∧ (m : Int) ≤ (c : Int) ∧ (0 : Int) ≤ (m : Int) ∧ m ≤ 18 ∧ m ≤ n :=
  ⟨min n 18, rfl, by split <;> omega, by omega, by omega, by omega, by omega, by omega⟩
theorem Sl.cut {α : Type} {enc : α → Value} {d : α} {w : World} {lo hi n k : Nat} {A : Option Addr} {xs : List α} (h : Sl enc d w lo hi A n xs) : Sl enc d w lo hi A (min n k) (xs.take k) := by
  by_cases hk : n ≤ k
  · rw [show min n k = n by omega, List.take_of_length_le (by rw [h.len]; exact hk)]; exact h
  · rw [show min n k = k by omega]; exact h.take (by omega)
theorem Sm.cut {α : Type} {sz : Nat} {enc : α → Nat → Value} {d : α} {w : World} {lo hi n k : Nat} {A : Option Addr} {xs : List α} (h : Sm sz enc d w lo hi A n xs) : Sm sz enc d w lo hi A (min n k) (xs.take k) := by
  by_cases hk : n ≤ k
  · rw [show min n k = n by omega, List.take_of_length_le (by rw [h.len]; exact hk)]; exact h
  · rw [show min n k = k by omega]; exact h.take (by omega)
/-- behind own's first step -/
def OwnI (W0 W : World) (g3 : Nat) (s : St) (A : Option Addr) (n k : Nat) (B : Option Addr) (m d : Nat) : Prop :=
  W0.heap.size ≤ g3 ∧ Blk W g3 30 #[.int .i64 s.1, .slice A n k, .slice B m d, .int .i64 0, .int .i64 0, .bool false, .slice none 0 0, .slice none 0 0] ∧ Rown W W0.heap.size A n k B m d s.2.1 s.2.2 ∧ Below W0.heap.size W0 W
theorem op_any (k c x : Int) (w : World) : Calls Try.prog 10 #[.int .i64 k, .int .i64 c, .int .u64 x] w fun e w' => e = .returned (.agg (ocs (k, c, x))) ∧ Below w.heap.size w w' := by
  have HB := hid (Below.refl w.heap.size w)
  have bx := below_box w (.cells #[.int .i64 0, .int .i64 0, .int .u64 0] 44)
  replace HB := hid (below_then HB.out bx)
  clear bx
  have PO := hid (Blk.new w 44 #[.int .i64 0, .int .i64 0, .int .u64 0])
  go_enter Try.func10, Try.ntmps10
  obtain ⟨y00, y01, y02, yf0⟩ := PO.out.cells3
  go_wp2
  clear y00 y01 y02 yf0 HB PO
  obtain ⟨y00, y01, y02, yf0⟩ := (Blk.new w 44 #[.int .i64 k, .int .i64 c, .int .u64 x]).cells3
  exact bodyPost_ret (v := .agg (ocs (k, c, x))) (by simp [results, Try.results10, go_sem, y00, y01, y02]) rfl ⟨rfl, below_box w _⟩
set_option maxRecDepth 100000 in
set_option maxHeartbeats 8000000 in
theorem lown_any (s : St) (g : Gr) (es : List Qe) (a : Ra) (w : World) (h : RcIn w s g es a) : Calls Try.prog 6 #[rcv s g a] w (LoPost s g es w) := by
  obtain ⟨A, n, k, B, m, d, D, kd, Q, nq, kq⟩ := a
  obtain ⟨now, ns, os⟩ := s
  obtain ⟨m1, hm1, e11, e12, e13, e14, e15, _⟩ := min9 n k h.ka
  obtain ⟨m2, hm2, e21, e22, e23, e24, e25, _⟩ := min9 m d h.kb
  obtain ⟨m3, hm3, e31, e32, e33, e34, e35, _⟩ := min9 g.nd.length kd h.kd
  obtain ⟨m4, hm4, e41, e42, e43, e44, e45, e46⟩ := min9 nq kq h.kq
  have R1 := hid (show Sl i64 0 w 0 w.heap.size A m1 (ns.take 9) by rw [hm1]; exact h.ra.cut)
  have R2 := hid (show Sl i64 0 w 0 w.heap.size B m2 (os.take 9) by rw [hm2]; exact h.rb.cut)
  have R3 := hid (show Sl blv false w 0 w.heap.size D m3 (g.nd.take 9) by rw [hm3]; exact h.gd.cut)
  have R4 := hid (show Sm 2 encQ zQe w 0 w.heap.size Q m4 (es.take 9) by rw [hm4]; exact h.qs.cut)
  have hl3 := hid (show m3 = (g.nd.take 9).length from R3.out.len.symm)
  have hl3m := hid (show min 9 g.nd.length = m3 by omega)
  have HI := hid h; have HB := hid (Below.refl w.heap.size w)
  clear h hm1 hm2 hm3 hm4
  have bx := below_box w (.cells #[.int .i64 now, .slice A n k, .slice B m d, .int .i64 g.dn, .int .i64 g.ak, .bool g.on, .slice D g.nd.length kd, .slice Q nq kq] 30)
  replace R1 := hid (R1.out.step bx); replace R2 := hid (R2.out.step bx); replace R3 := hid (R3.out.step bx); replace R4 := hid (R4.out.step bx); replace HI := hid (HI.out.step bx); replace HB := hid (below_then HB.out bx)
  clear bx
  have PX := hid (Blk.new w 30 #[.int .i64 now, .slice A n k, .slice B m d, .int .i64 g.dn, .int .i64 g.ak, .bool g.on, .slice D g.nd.length kd, .slice Q nq kq])
  have bx := below_box (w.alloc (.cells #[.int .i64 now, .slice A n k, .slice B m d, .int .i64 g.dn, .int .i64 g.ak, .bool g.on, .slice D g.nd.length kd, .slice Q nq kq] 30)) (.cells #[.int .i64 0, .slice none 0 0, .slice none 0 0, .int .i64 0, .int .i64 0, .bool false, .slice none 0 0, .slice none 0 0] 30)
  replace R1 := hid (R1.out.step bx); replace R2 := hid (R2.out.step bx); replace R3 := hid (R3.out.step bx); replace R4 := hid (R4.out.step bx); replace HI := hid (HI.out.step bx); replace PX := hid (PX.out.step bx); replace HB := hid (below_then HB.out bx)
  clear bx
  have PZ := hid (Blk.new2 w 30 #[.int .i64 0, .slice none 0 0, .slice none 0 0, .int .i64 0, .int .i64 0, .bool false, .slice none 0 0, .slice none 0 0] (.cells #[.int .i64 now, .slice A n k, .slice B m d, .int .i64 g.dn, .int .i64 g.ak, .bool g.on, .slice D g.nd.length kd, .slice Q nq kq] 30))
  go_enter Try.func6, Try.ntmps6
  go_upto_region 1 with fail
  have hz0 := hid (show ((w.alloc (.cells #[.int .i64 now, .slice A n k, .slice B m d, .int .i64 g.dn, .int .i64 g.ak, .bool g.on, .slice D g.nd.length kd, .slice Q nq kq] 30)).alloc (.cells #[.int .i64 0, .slice none 0 0, .slice none 0 0, .int .i64 0, .int .i64 0, .bool false, .slice none 0 0, .slice none 0 0] 30)).heap.size = w.heap.size + 2 by simp)
  generalize (w.alloc (.cells #[.int .i64 now, .slice A n k, .slice B m d, .int .i64 g.dn, .int .i64 g.ak, .bool g.on, .slice D g.nd.length kd, .slice Q nq kq] 30)).alloc (.cells #[.int .i64 0, .slice none 0 0, .slice none 0 0, .int .i64 0, .int .i64 0, .bool false, .slice none 0 0, .slice none 0 0] 30) = W0 at *
  have HB0 := hid (Below.refl W0.heap.size W0)
  go_cut [3] (fun s3 wx => ∃ g3 A1 c1 B1 d1, s3 = ptr g3 ∧ OwnI W0 wx g3 (now, ns.take 9, os.take 9) A1 m1 c1 B1 m2 d1)
  case first =>
      have bx := (Below.refl W0.heap.size W0).drew
      replace R1 := hid (R1.out.step bx); replace R2 := hid (R2.out.step bx); replace PX := hid (PX.out.step bx); replace HB0 := hid (below_then HB0.out bx)
      clear bx
      have hszd := hid (show W0.drew.heap.size = W0.heap.size from rfl)
      refine wp_region_noPanic ?_
      refine wp_region_held_drew (S := (fun W' : World => W'.cell? ⟨w.heap.size, 0, none⟩ = some (.int .i64 now) ∧ W'.cell? ⟨w.heap.size, 1, none⟩ = some (.slice A n k) ∧ W'.cell? ⟨w.heap.size, 2, none⟩ = some (.slice B m d))) (by kernel_rfl) ⟨PX.out.cells8.1, PX.out.cells8.2.1, PX.out.cells8.2.2.1⟩ (fun hS => ?_)
      generalize W0.drew = Wd at *
      refine wpAnyH_take (i := 0) (v := ?_) (by simp only [List.getElem?_toArray, List.getElem?_cons_succ, List.getElem?_cons_zero]; rfl) (by kernel_rfl) (by kernel_rfl) (by kernel_rfl) (fun _ _ _ h => h) (Or.inl ⟨by rfl, ?_⟩) hS ?_
      rotate_left
      · intro w' hSw; (try dsimp only at hSw); go_split_ands; go_simp; (try with_reducible rfl)
      (try simp only [Act.put, List.setIfInBounds_toArray, List.set_cons_zero, List.set_cons_succ])
      refine wpAnyH_take (i := 1) (v := ?_) (by simp only [List.getElem?_toArray, List.getElem?_cons_succ, List.getElem?_cons_zero]; rfl) (by kernel_rfl) (by kernel_rfl) (by kernel_rfl) (fun _ _ _ h => h) (Or.inl ⟨by rfl, ?_⟩) hS ?_
      rotate_left
      · intro w' hSw; (try dsimp only at hSw); go_split_ands; go_simp; (try with_reducible rfl)
      (try simp only [Act.put, List.setIfInBounds_toArray, List.set_cons_zero, List.set_cons_succ])
      refine wpAnyH_take (i := 2) (v := ?_) (by simp only [List.getElem?_toArray, List.getElem?_cons_succ, List.getElem?_cons_zero]; rfl) (by kernel_rfl) (by kernel_rfl) (by kernel_rfl) (fun _ _ _ h => h) (Or.inl ⟨by rfl, ?_⟩) hS ?_
      rotate_left
      · intro w' hSw; (try dsimp only at hSw); go_split_ands; go_simp; (try with_reducible rfl)
      (try simp only [Act.put, List.setIfInBounds_toArray, List.set_cons_zero, List.set_cons_succ])
      refine wpAnyH_take (i := 3) (v := ?_) (by simp only [List.getElem?_toArray, List.getElem?_cons_succ, List.getElem?_cons_zero]; rfl) (by kernel_rfl) (by kernel_rfl) (by kernel_rfl) (fun _ _ _ h => h) (Or.inl ⟨by rfl, ?_⟩) hS ?_
      rotate_left
      · intro w' hSw; (try dsimp only at hSw); go_split_ands; go_simp; (try with_reducible rfl)
      (try simp only [Act.put, List.setIfInBounds_toArray, List.set_cons_zero, List.set_cons_succ])
      refine wpAnyH_take (i := 4) (v := ?_) (by simp only [List.getElem?_toArray, List.getElem?_cons_succ, List.getElem?_cons_zero]; rfl) (by kernel_rfl) (by kernel_rfl) (by kernel_rfl) (fun _ _ _ h => h) (Or.inl ⟨by rfl, ?_⟩) hS ?_
      rotate_left
      · intro w' hSw; (try dsimp only at hSw); go_split_ands; go_simp; (try with_reducible rfl)
      (try simp only [Act.put, List.setIfInBounds_toArray, List.set_cons_zero, List.set_cons_succ])
      refine wpAnyH_take (i := 5) (v := ?_) (by simp only [List.getElem?_toArray, List.getElem?_cons_succ, List.getElem?_cons_zero]; rfl) (by kernel_rfl) (by kernel_rfl) (by kernel_rfl) (fun _ _ _ h => h) (Or.inl ⟨by rfl, ?_⟩) hS ?_
      rotate_left
      · intro w' hSw; (try dsimp only at hSw); go_split_ands; go_simp; (try with_reducible rfl)
      (try simp only [Act.put, List.setIfInBounds_toArray, List.set_cons_zero, List.set_cons_succ])
      refine wpAnyH_take (i := 6) (v := ?_) (by simp only [List.getElem?_toArray, List.getElem?_cons_succ, List.getElem?_cons_zero]; rfl) (by kernel_rfl) (by kernel_rfl) (by kernel_rfl) (fun _ _ _ h => h) (Or.inl ⟨by rfl, ?_⟩) hS ?_
      rotate_left
      · intro w' hSw; (try dsimp only at hSw); go_split_ands; go_simp; (try with_reducible rfl)
      (try simp only [Act.put, List.setIfInBounds_toArray, List.set_cons_zero, List.set_cons_succ])
      refine wpAnyH_take (i := 7) (v := ?_) (by simp only [List.getElem?_toArray, List.getElem?_cons_succ, List.getElem?_cons_zero]; rfl) (by kernel_rfl) (by kernel_rfl) (by kernel_rfl) (fun _ _ _ h => h) (Or.inl ⟨by rfl, ?_⟩) hS ?_
      rotate_left
      · intro w' hSw; (try dsimp only at hSw); go_split_ands; go_simp; (try with_reducible rfl)
      (try simp only [Act.put, List.setIfInBounds_toArray, List.set_cons_zero, List.set_cons_succ])
      refine wpAnyH_take (i := 8) (v := ?_) (by simp only [List.getElem?_toArray, List.getElem?_cons_succ, List.getElem?_cons_zero]; rfl) (by kernel_rfl) (by kernel_rfl) (by kernel_rfl) (fun _ _ _ h => h) (Or.inl ⟨by rfl, ?_⟩) hS ?_
      rotate_left
      · intro w' hSw; (try dsimp only at hSw); go_split_ands; go_simp; (try with_reducible rfl)
      (try simp only [Act.put, List.setIfInBounds_toArray, List.set_cons_zero, List.set_cons_succ])
      refine wpAnyH_take (i := 9) (v := ?_) (by simp only [List.getElem?_toArray, List.getElem?_cons_succ, List.getElem?_cons_zero]; rfl) (by kernel_rfl) (by kernel_rfl) (by kernel_rfl) (fun _ _ _ h => h) (Or.inl ⟨by rfl, ?_⟩) hS ?_
      rotate_left
      · intro w' hSw; (try dsimp only at hSw); go_split_ands; go_simp; (try with_reducible rfl)
      (try simp only [Act.put, List.setIfInBounds_toArray, List.set_cons_zero, List.set_cons_succ])
      refine wpAnyH_take (i := 10) (v := ?_) (by simp only [List.getElem?_toArray, List.getElem?_cons_succ, List.getElem?_cons_zero]; rfl) (by kernel_rfl) (by kernel_rfl) (by kernel_rfl) (fun _ _ _ h => h) (Or.inl ⟨by rfl, ?_⟩) hS ?_
      rotate_left
      · intro w' hSw; (try dsimp only at hSw); go_split_ands; go_simp; (try with_reducible rfl)
      (try simp only [Act.put, List.setIfInBounds_toArray, List.set_cons_zero, List.set_cons_succ])
      refine wpAnyH_take (i := 11) (v := ?_) (by simp only [List.getElem?_toArray, List.getElem?_cons_succ, List.getElem?_cons_zero]; rfl) (by kernel_rfl) (by kernel_rfl) (by kernel_rfl) (fun _ _ _ h => h) (Or.inl ⟨by rfl, ?_⟩) hS ?_
      rotate_left
      · intro w' hSw; (try dsimp only at hSw); go_split_ands; go_simp; (try with_reducible rfl)
      (try simp only [Act.put, List.setIfInBounds_toArray, List.set_cons_zero, List.set_cons_succ])
      refine wpAnyH_take (i := 13) (v := ?_) (by simp only [List.getElem?_toArray, List.getElem?_cons_succ, List.getElem?_cons_zero]; rfl) (by kernel_rfl) (by kernel_rfl) (by kernel_rfl) (fun _ _ _ h => h) (Or.inl ⟨by rfl, ?_⟩) hS ?_
      rotate_left
      · intro w' hSw; (try dsimp only at hSw); go_split_ands; go_simp; (try with_reducible rfl)
      (try simp only [Act.put, List.setIfInBounds_toArray, List.set_cons_zero, List.set_cons_succ])
      refine wpAnyH_take (i := 14) (v := ?_) (by simp only [List.getElem?_toArray, List.getElem?_cons_succ, List.getElem?_cons_zero]; rfl) (by kernel_rfl) (by kernel_rfl) (by kernel_rfl) (fun _ _ _ h => h) (Or.inl ⟨by rfl, ?_⟩) hS ?_
      rotate_left
      · intro w' hSw; (try dsimp only at hSw); go_split_ands; go_simp; (try with_reducible rfl)
      (try simp only [Act.put, List.setIfInBounds_toArray, List.set_cons_zero, List.set_cons_succ])
      refine wpAnyH_take (i := 15) (v := ?_) (by simp only [List.getElem?_toArray, List.getElem?_cons_succ, List.getElem?_cons_zero]; rfl) (by kernel_rfl) (by kernel_rfl) (by kernel_rfl) (fun _ _ _ h => h) (Or.inl ⟨by rfl, ?_⟩) hS ?_
      rotate_left
      · intro w' hSw; (try dsimp only at hSw); go_split_ands; go_simp; (try with_reducible rfl)
      (try simp only [Act.put, List.setIfInBounds_toArray, List.set_cons_zero, List.set_cons_succ])
      refine wpAnyH_take (i := 16) (v := ?_) (by simp only [List.getElem?_toArray, List.getElem?_cons_succ, List.getElem?_cons_zero]; rfl) (by kernel_rfl) (by kernel_rfl) (by kernel_rfl) (fun _ _ _ h => h) (Or.inl ⟨by rfl, ?_⟩) hS ?_
      rotate_left
      · intro w' hSw; (try dsimp only at hSw); go_split_ands; go_simp; (try with_reducible rfl)
      (try simp only [Act.put, List.setIfInBounds_toArray, List.set_cons_zero, List.set_cons_succ])
      refine wpAnyH_take (i := 17) (v := ?_) (by simp only [List.getElem?_toArray, List.getElem?_cons_succ, List.getElem?_cons_zero]; rfl) (by kernel_rfl) (by kernel_rfl) (by kernel_rfl) (fun _ _ _ h => h) (Or.inl ⟨by rfl, ?_⟩) hS ?_
      rotate_left
      · intro w' hSw; (try dsimp only at hSw); go_split_ands; go_simp; (try with_reducible rfl)
      (try simp only [Act.put, List.setIfInBounds_toArray, List.set_cons_zero, List.set_cons_succ])
      refine wpAnyH_take (i := 18) (v := ?_) (by simp only [List.getElem?_toArray, List.getElem?_cons_succ, List.getElem?_cons_zero]; rfl) (by kernel_rfl) (by kernel_rfl) (by kernel_rfl) (fun _ _ _ h => h) (Or.inl ⟨by rfl, ?_⟩) hS ?_
      rotate_left
      · intro w' hSw; (try dsimp only at hSw); go_split_ands; go_simp; (try with_reducible rfl)
      (try simp only [Act.put, List.setIfInBounds_toArray, List.set_cons_zero, List.set_cons_succ])
      refine wpAnyH_take (i := 19) (v := ?_) (by simp only [List.getElem?_toArray, List.getElem?_cons_succ, List.getElem?_cons_zero]; rfl) (by kernel_rfl) (by kernel_rfl) (by kernel_rfl) (fun _ _ _ h => h) (Or.inl ⟨by rfl, ?_⟩) hS ?_
      rotate_left
      · intro w' hSw; (try dsimp only at hSw); go_split_ands; go_simp; (try with_reducible rfl)
      (try simp only [Act.put, List.setIfInBounds_toArray, List.set_cons_zero, List.set_cons_succ])
      refine wpAnyH_take (i := 20) (v := ?_) (by simp only [List.getElem?_toArray, List.getElem?_cons_succ, List.getElem?_cons_zero]; rfl) (by kernel_rfl) (by kernel_rfl) (by kernel_rfl) (fun _ _ _ h => h) (Or.inl ⟨by rfl, ?_⟩) hS ?_
      rotate_left
      · intro w' hSw; (try dsimp only at hSw); go_split_ands; go_simp; (try with_reducible rfl)
      (try simp only [Act.put, List.setIfInBounds_toArray, List.set_cons_zero, List.set_cons_succ])
      refine wpAnyH_take (i := 21) (v := ?_) (by simp only [List.getElem?_toArray, List.getElem?_cons_succ, List.getElem?_cons_zero]; rfl) (by kernel_rfl) (by kernel_rfl) (by kernel_rfl) (fun _ _ _ h => h) (Or.inl ⟨by rfl, ?_⟩) hS ?_
      rotate_left
      · intro w' hSw; (try dsimp only at hSw); go_split_ands; go_simp; (try with_reducible rfl)
      (try simp only [Act.put, List.setIfInBounds_toArray, List.set_cons_zero, List.set_cons_succ])
      refine wpAnyH_ready (rs := [12, 25]) (by kernel_rfl) (by simp) ?_
      refine AllReadyH.cons (by simp only [List.getElem?_toArray, List.getElem?_cons_succ, List.getElem?_cons_zero]; rfl) (fun K hK => ?_) ?_
      · skip
        go_simp
        refine (clone_int A m1 k 0 (ns.take 9) _ R1.out (by omega)).mono ?_
        rintro e w12 ⟨A12, c12, rfl, ho, hb⟩
        have hsz0 := hid (show Wd.heap.size ≤ w12.heap.size from hb.size)
        replace R1 := hid (R1.out.step hb); replace R2 := hid (R2.out.step hb); replace PX := hid (PX.out.step hb); replace HB0 := hid (below_then HB0.out hb)
        clear hb
        have O12 := hid (ho.mono (show W0.heap.size ≤ _ by have := hszd.out; omega)); have O12b := hid ho
        go_wp2_with fail
        refine hK.out _ _ ⟨PX.out.cells8.1, PX.out.cells8.2.1, PX.out.cells8.2.2.1⟩ (fun hS' => ?_)
        clear hK K hS
        have hS := hS'
        clear hS'
        (try simp only [Act.put, List.setIfInBounds_toArray, List.set_cons_zero, List.set_cons_succ])
        refine wpAnyH_ready (rs := [22, 25]) (by kernel_rfl) (by simp) ?_
        refine AllReadyH.cons (by simp only [List.getElem?_toArray, List.getElem?_cons_succ, List.getElem?_cons_zero]; rfl) (fun K hK => ?_) ?_
        · skip
          go_simp
          refine (clone_int B m2 d 0 (os.take 9) _ R2.out (by omega)).mono ?_
          rintro e w22 ⟨B22, c22, rfl, ho, hb⟩
          have hsz1 := hid (show w12.heap.size ≤ w22.heap.size from hb.size)
          replace R1 := hid (R1.out.step hb); replace R2 := hid (R2.out.step hb); replace PX := hid (PX.out.step hb); replace O12 := hid (O12.out.step hb); replace HB0 := hid (below_then HB0.out hb)
          clear hb
          have O22 := hid (ho.mono (show W0.heap.size ≤ _ by have := hszd.out; have := hsz0.out; omega))
          have HAP := hid (show ∀ a b, A12 = some a → B22 = some b → a.block ≠ b.block from fun a b h1 h2 e => by have := (ho.blk b h2).1; obtain ⟨_, cs, q⟩ := O12b.out.blk a h1; have := q.lt; have := hszd.out; have := hsz0.out; omega)
          go_wp2_with fail
          refine hK.out _ _ ⟨PX.out.cells8.1, PX.out.cells8.2.1, PX.out.cells8.2.2.1⟩ (fun hS' => ?_)
          clear hK K hS
          have hS := hS'
          clear hS'
          (try simp only [Act.put, List.setIfInBounds_toArray, List.set_cons_zero, List.set_cons_succ])
          refine wpAnyH_take (i := 23) (v := ?_) (by simp only [List.getElem?_toArray, List.getElem?_cons_succ, List.getElem?_cons_zero]; rfl) (by kernel_rfl) (by kernel_rfl) (by kernel_rfl) (fun _ _ _ h => h) (Or.inl ⟨by rfl, ?_⟩) hS ?_
          rotate_left
          · intro w' hSw; (try dsimp only at hSw); go_split_ands; go_simp; (try with_reducible rfl)
          (try simp only [Act.put, List.setIfInBounds_toArray, List.set_cons_zero, List.set_cons_succ])
          refine wpAnyH_take (i := 24) (v := ?_) (by simp only [List.getElem?_toArray, List.getElem?_cons_succ, List.getElem?_cons_zero]; rfl) (by kernel_rfl) (by kernel_rfl) (by kernel_rfl) (fun _ _ _ h => h) (Or.inl ⟨by rfl, ?_⟩) hS ?_
          rotate_left
          · intro w' hSw; (try dsimp only at hSw); go_split_ands; go_simp; (try with_reducible rfl)
          (try simp only [Act.put, List.setIfInBounds_toArray, List.set_cons_zero, List.set_cons_succ])
          refine wpAnyH_ready (rs := [25]) (by kernel_rfl) (by simp) ?_
          refine AllReadyH.cons (by simp only [List.getElem?_toArray, List.getElem?_cons_succ, List.getElem?_cons_zero]; rfl) (fun K hK => ?_) ?_
          · skip
            go_simp
            refine named_alloc ?_
            intro Wa25 hbk hb hsz
            have hsz2 := hid hsz
            have HG3 := hid (show W0.heap.size ≤ w22.heap.size by have := hszd.out; have := hsz0.out; have := hsz1.out; have := hsz2.out; omega)
            replace R1 := hid (R1.out.step hb); replace R2 := hid (R2.out.step hb); replace PX := hid (PX.out.step hb); replace O12 := hid (O12.out.step hb); replace O22 := hid (O22.out.step hb); replace HB0 := hid (below_then HB0.out hb)
            have P3 := hid hbk
            clear hb hbk hsz
            refine hK.out _ _ ⟨PX.out.cells8.1, PX.out.cells8.2.1, PX.out.cells8.2.2.1⟩ (fun hS' => ?_)
            clear hK K hS
            have hS := hS'
            clear hS'
            (try simp only [Act.put, List.setIfInBounds_toArray, List.set_cons_zero, List.set_cons_succ])
            refine wpAnyH_ready (rs := [26]) (by kernel_rfl) (by simp) ?_
            refine AllReadyH.cons (by simp only [List.getElem?_toArray, List.getElem?_cons_succ, List.getElem?_cons_zero]; rfl) (fun K hK => ?_) ?_
            · skip
              obtain ⟨y00, y01, y02, y03, y04, y05, y06, y07, yf0⟩ := P3.out.cells8
              go_simp
              clear y00 y01 y02 y03 y04 y05 y06 y07 yf0
              refine named_store_8_8_0 P3.out ?_
              intro Ws26 hbk hgr hsz
              have hsz3 := hid hsz
              clear hsz
              replace O12 := hid (O12.out.keptR P3.out (by decide) hgr); replace O22 := hid (O22.out.keptR P3.out (by decide) hgr)
              replace HB0 := hid (HB0.out.grown hgr HB0.out.size (fun r e => by cases e; exact HG3.out)); replace PX := hid (PX.out.grown hgr (by have := HG3.out; have := hz0.out; simp; omega))
              replace P3 := hid hbk
              clear hbk hgr
              refine hK.out _ _ ⟨PX.out.cells8.1, PX.out.cells8.2.1, PX.out.cells8.2.2.1⟩ (fun hS' => ?_)
              clear hK K hS
              have hS := hS'
              clear hS'
              (try simp only [Act.put, List.setIfInBounds_toArray, List.set_cons_zero, List.set_cons_succ])
              refine wpAnyH_done (by kernel_rfl) ?_ _
              refine NoPanic.normal ?_
              clear hS
              go_wp2_with fail
              go_meet
              exact ⟨_, _, _, _, _, rfl, HG3.out, P3.out, ⟨O12.out, O22.out, fun ga gb h1 h2 => HAP.out _ _ h1 h2, by omega, by omega⟩, HB0.out⟩
            exact AllReadyH.nil
          exact AllReadyH.nil
        refine AllReadyH.cons (by simp only [List.getElem?_toArray, List.getElem?_cons_succ, List.getElem?_cons_zero]; rfl) (fun K hK => ?_) ?_
        · skip
          go_simp
          refine named_alloc ?_
          intro Wa25 hbk hb hsz
          have hsz1 := hid hsz
          have HG3 := hid (show W0.heap.size ≤ w12.heap.size by have := hszd.out; have := hsz0.out; have := hsz1.out; omega)
          replace R1 := hid (R1.out.step hb); replace R2 := hid (R2.out.step hb); replace PX := hid (PX.out.step hb); replace O12 := hid (O12.out.step hb); replace HB0 := hid (below_then HB0.out hb)
          have P3 := hid hbk
          clear hb hbk hsz
          refine hK.out _ _ ⟨PX.out.cells8.1, PX.out.cells8.2.1, PX.out.cells8.2.2.1⟩ (fun hS' => ?_)
          clear hK K hS
          have hS := hS'
          clear hS'
          (try simp only [Act.put, List.setIfInBounds_toArray, List.set_cons_zero, List.set_cons_succ])
          refine wpAnyH_ready (rs := [22]) (by kernel_rfl) (by simp) ?_
          refine AllReadyH.cons (by simp only [List.getElem?_toArray, List.getElem?_cons_succ, List.getElem?_cons_zero]; rfl) (fun K hK => ?_) ?_
          · skip
            go_simp
            refine (clone_int B m2 d 0 (os.take 9) _ R2.out (by omega)).mono ?_
            rintro e w22 ⟨B22, c22, rfl, ho, hb⟩
            have hsz2 := hid (show Wa25.heap.size ≤ w22.heap.size from hb.size)
            replace R1 := hid (R1.out.step hb); replace R2 := hid (R2.out.step hb); replace PX := hid (PX.out.step hb); replace O12 := hid (O12.out.step hb); replace P3 := hid (P3.out.step hb); replace HB0 := hid (below_then HB0.out hb)
            clear hb
            have O22 := hid (ho.mono (show W0.heap.size ≤ _ by have := hszd.out; have := hsz0.out; have := hsz1.out; omega))
            have HAP := hid (show ∀ a b, A12 = some a → B22 = some b → a.block ≠ b.block from fun a b h1 h2 e => by have := (ho.blk b h2).1; obtain ⟨_, cs, q⟩ := O12b.out.blk a h1; have := q.lt; have := hszd.out; have := hsz0.out; have := hsz1.out; omega)
            go_wp2_with fail
            refine hK.out _ _ ⟨PX.out.cells8.1, PX.out.cells8.2.1, PX.out.cells8.2.2.1⟩ (fun hS' => ?_)
            clear hK K hS
            have hS := hS'
            clear hS'
            (try simp only [Act.put, List.setIfInBounds_toArray, List.set_cons_zero, List.set_cons_succ])
            refine wpAnyH_take (i := 23) (v := ?_) (by simp only [List.getElem?_toArray, List.getElem?_cons_succ, List.getElem?_cons_zero]; rfl) (by kernel_rfl) (by kernel_rfl) (by kernel_rfl) (fun _ _ _ h => h) (Or.inl ⟨by rfl, ?_⟩) hS ?_
            rotate_left
            · intro w' hSw; (try dsimp only at hSw); go_split_ands; go_simp; (try with_reducible rfl)
            (try simp only [Act.put, List.setIfInBounds_toArray, List.set_cons_zero, List.set_cons_succ])
            refine wpAnyH_take (i := 24) (v := ?_) (by simp only [List.getElem?_toArray, List.getElem?_cons_succ, List.getElem?_cons_zero]; rfl) (by kernel_rfl) (by kernel_rfl) (by kernel_rfl) (fun _ _ _ h => h) (Or.inl ⟨by rfl, ?_⟩) hS ?_
            rotate_left
            · intro w' hSw; (try dsimp only at hSw); go_split_ands; go_simp; (try with_reducible rfl)
            (try simp only [Act.put, List.setIfInBounds_toArray, List.set_cons_zero, List.set_cons_succ])
            refine wpAnyH_ready (rs := [26]) (by kernel_rfl) (by simp) ?_
            refine AllReadyH.cons (by simp only [List.getElem?_toArray, List.getElem?_cons_succ, List.getElem?_cons_zero]; rfl) (fun K hK => ?_) ?_
            · skip
              obtain ⟨y00, y01, y02, y03, y04, y05, y06, y07, yf0⟩ := P3.out.cells8
              go_simp
              clear y00 y01 y02 y03 y04 y05 y06 y07 yf0
              refine named_store_8_8_0 P3.out ?_
              intro Ws26 hbk hgr hsz
              have hsz3 := hid hsz
              clear hsz
              replace O12 := hid (O12.out.keptR P3.out (by decide) hgr); replace O22 := hid (O22.out.keptR P3.out (by decide) hgr)
              replace HB0 := hid (HB0.out.grown hgr HB0.out.size (fun r e => by cases e; exact HG3.out)); replace PX := hid (PX.out.grown hgr (by have := HG3.out; have := hz0.out; simp; omega))
              replace P3 := hid hbk
              clear hbk hgr
              refine hK.out _ _ ⟨PX.out.cells8.1, PX.out.cells8.2.1, PX.out.cells8.2.2.1⟩ (fun hS' => ?_)
              clear hK K hS
              have hS := hS'
              clear hS'
              (try simp only [Act.put, List.setIfInBounds_toArray, List.set_cons_zero, List.set_cons_succ])
              refine wpAnyH_done (by kernel_rfl) ?_ _
              refine NoPanic.normal ?_
              clear hS
              go_wp2_with fail
              go_meet
              exact ⟨_, _, _, _, _, rfl, HG3.out, P3.out, ⟨O12.out, O22.out, fun ga gb h1 h2 => HAP.out _ _ h1 h2, by omega, by omega⟩, HB0.out⟩
            exact AllReadyH.nil
          exact AllReadyH.nil
        exact AllReadyH.nil
      refine AllReadyH.cons (by simp only [List.getElem?_toArray, List.getElem?_cons_succ, List.getElem?_cons_zero]; rfl) (fun K hK => ?_) ?_
      · skip
        go_simp
        refine named_alloc ?_
        intro Wa25 hbk hb hsz
        have hsz0 := hid hsz
        have HG3 := hid (show W0.heap.size ≤ Wd.heap.size by have := hszd.out; have := hsz0.out; omega)
        replace R1 := hid (R1.out.step hb); replace R2 := hid (R2.out.step hb); replace PX := hid (PX.out.step hb); replace HB0 := hid (below_then HB0.out hb)
        have P3 := hid hbk
        clear hb hbk hsz
        refine hK.out _ _ ⟨PX.out.cells8.1, PX.out.cells8.2.1, PX.out.cells8.2.2.1⟩ (fun hS' => ?_)
        clear hK K hS
        have hS := hS'
        clear hS'
        (try simp only [Act.put, List.setIfInBounds_toArray, List.set_cons_zero, List.set_cons_succ])
        refine wpAnyH_ready (rs := [12]) (by kernel_rfl) (by simp) ?_
        refine AllReadyH.cons (by simp only [List.getElem?_toArray, List.getElem?_cons_succ, List.getElem?_cons_zero]; rfl) (fun K hK => ?_) ?_
        · skip
          go_simp
          refine (clone_int A m1 k 0 (ns.take 9) _ R1.out (by omega)).mono ?_
          rintro e w12 ⟨A12, c12, rfl, ho, hb⟩
          have hsz1 := hid (show Wa25.heap.size ≤ w12.heap.size from hb.size)
          replace R1 := hid (R1.out.step hb); replace R2 := hid (R2.out.step hb); replace PX := hid (PX.out.step hb); replace P3 := hid (P3.out.step hb); replace HB0 := hid (below_then HB0.out hb)
          clear hb
          have O12 := hid (ho.mono (show W0.heap.size ≤ _ by have := hszd.out; have := hsz0.out; omega)); have O12b := hid ho
          go_wp2_with fail
          refine hK.out _ _ ⟨PX.out.cells8.1, PX.out.cells8.2.1, PX.out.cells8.2.2.1⟩ (fun hS' => ?_)
          clear hK K hS
          have hS := hS'
          clear hS'
          (try simp only [Act.put, List.setIfInBounds_toArray, List.set_cons_zero, List.set_cons_succ])
          refine wpAnyH_ready (rs := [22]) (by kernel_rfl) (by simp) ?_
          refine AllReadyH.cons (by simp only [List.getElem?_toArray, List.getElem?_cons_succ, List.getElem?_cons_zero]; rfl) (fun K hK => ?_) ?_
          · skip
            go_simp
            refine (clone_int B m2 d 0 (os.take 9) _ R2.out (by omega)).mono ?_
            rintro e w22 ⟨B22, c22, rfl, ho, hb⟩
            have hsz2 := hid (show w12.heap.size ≤ w22.heap.size from hb.size)
            replace R1 := hid (R1.out.step hb); replace R2 := hid (R2.out.step hb); replace PX := hid (PX.out.step hb); replace P3 := hid (P3.out.step hb); replace O12 := hid (O12.out.step hb); replace HB0 := hid (below_then HB0.out hb)
            clear hb
            have O22 := hid (ho.mono (show W0.heap.size ≤ _ by have := hszd.out; have := hsz0.out; have := hsz1.out; omega))
            have HAP := hid (show ∀ a b, A12 = some a → B22 = some b → a.block ≠ b.block from fun a b h1 h2 e => by have := (ho.blk b h2).1; obtain ⟨_, cs, q⟩ := O12b.out.blk a h1; have := q.lt; have := hszd.out; have := hsz0.out; have := hsz1.out; omega)
            go_wp2_with fail
            refine hK.out _ _ ⟨PX.out.cells8.1, PX.out.cells8.2.1, PX.out.cells8.2.2.1⟩ (fun hS' => ?_)
            clear hK K hS
            have hS := hS'
            clear hS'
            (try simp only [Act.put, List.setIfInBounds_toArray, List.set_cons_zero, List.set_cons_succ])
            refine wpAnyH_take (i := 23) (v := ?_) (by simp only [List.getElem?_toArray, List.getElem?_cons_succ, List.getElem?_cons_zero]; rfl) (by kernel_rfl) (by kernel_rfl) (by kernel_rfl) (fun _ _ _ h => h) (Or.inl ⟨by rfl, ?_⟩) hS ?_
            rotate_left
            · intro w' hSw; (try dsimp only at hSw); go_split_ands; go_simp; (try with_reducible rfl)
            (try simp only [Act.put, List.setIfInBounds_toArray, List.set_cons_zero, List.set_cons_succ])
            refine wpAnyH_take (i := 24) (v := ?_) (by simp only [List.getElem?_toArray, List.getElem?_cons_succ, List.getElem?_cons_zero]; rfl) (by kernel_rfl) (by kernel_rfl) (by kernel_rfl) (fun _ _ _ h => h) (Or.inl ⟨by rfl, ?_⟩) hS ?_
            rotate_left
            · intro w' hSw; (try dsimp only at hSw); go_split_ands; go_simp; (try with_reducible rfl)
            (try simp only [Act.put, List.setIfInBounds_toArray, List.set_cons_zero, List.set_cons_succ])
            refine wpAnyH_ready (rs := [26]) (by kernel_rfl) (by simp) ?_
            refine AllReadyH.cons (by simp only [List.getElem?_toArray, List.getElem?_cons_succ, List.getElem?_cons_zero]; rfl) (fun K hK => ?_) ?_
            · skip
              obtain ⟨y00, y01, y02, y03, y04, y05, y06, y07, yf0⟩ := P3.out.cells8
              go_simp
              clear y00 y01 y02 y03 y04 y05 y06 y07 yf0
              refine named_store_8_8_0 P3.out ?_
              intro Ws26 hbk hgr hsz
              have hsz3 := hid hsz
              clear hsz
              replace O12 := hid (O12.out.keptR P3.out (by decide) hgr); replace O22 := hid (O22.out.keptR P3.out (by decide) hgr)
              replace HB0 := hid (HB0.out.grown hgr HB0.out.size (fun r e => by cases e; exact HG3.out)); replace PX := hid (PX.out.grown hgr (by have := HG3.out; have := hz0.out; simp; omega))
              replace P3 := hid hbk
              clear hbk hgr
              refine hK.out _ _ ⟨PX.out.cells8.1, PX.out.cells8.2.1, PX.out.cells8.2.2.1⟩ (fun hS' => ?_)
              clear hK K hS
              have hS := hS'
              clear hS'
              (try simp only [Act.put, List.setIfInBounds_toArray, List.set_cons_zero, List.set_cons_succ])
              refine wpAnyH_done (by kernel_rfl) ?_ _
              refine NoPanic.normal ?_
              clear hS
              go_wp2_with fail
              go_meet
              exact ⟨_, _, _, _, _, rfl, HG3.out, P3.out, ⟨O12.out, O22.out, fun ga gb h1 h2 => HAP.out _ _ h1 h2, by omega, by omega⟩, HB0.out⟩
            exact AllReadyH.nil
          exact AllReadyH.nil
        exact AllReadyH.nil
      exact AllReadyH.nil
  case rest =>
    obtain ⟨g3, A1, c1, B1, d1, rfl, h1, h2, h3, h4⟩ := hcut
    rename World => W1
    have XPX := PX; have XPZ := PZ; have XHB := HB
    have HG3 := hid h1; have P3 := hid h2; have RO := hid h3; have HQ := hid h4
    clear h1 h2 h3 h4 HB0 PX PZ HB R1 R2 e11 e12 e13 e14 e21 e22 e23 e24
    have PXa := hid (XPX.out.below HQ.out XPX.out.lt)
    have P30 := P3
    obtain ⟨y00, y01, y02, y03, y04, y05, y06, y07, yf0⟩ := PXa.out.cells8
    obtain ⟨y10, y11, y12, y13, y14, y15, y16, y17, yf1⟩ := P3.out.cells8
    go_upto_region 3 with fail
    clear PXa y00 y01 y02 y03 y04 y05 y06 y07 yf0 y10 y11 y12 y13 y14 y15 y16 y17 yf1
    have hbk0 : Blk (W1.setCell ⟨g3, 3, none⟩ (.int .i64 g.dn)) (g3) 30 #[.int .i64 now, .slice A1 m1 c1, .slice B1 m2 d1, .int .i64 g.dn, .int .i64 0, .bool false, .slice none 0 0, .slice none 0 0] := P3.out.setCell 3 (.int .i64 g.dn)
    have hbk1 : Blk ((W1.setCell ⟨g3, 3, none⟩ (.int .i64 g.dn)).setCell ⟨g3, 4, none⟩ (.int .i64 g.ak)) (g3) 30 #[.int .i64 now, .slice A1 m1 c1, .slice B1 m2 d1, .int .i64 g.dn, .int .i64 g.ak, .bool false, .slice none 0 0, .slice none 0 0] := hbk0.setCell 4 (.int .i64 g.ak)
    have hbk2 : Blk (((W1.setCell ⟨g3, 3, none⟩ (.int .i64 g.dn)).setCell ⟨g3, 4, none⟩ (.int .i64 g.ak)).setCell ⟨g3, 5, none⟩ (.bool g.on)) (g3) 30 #[.int .i64 now, .slice A1 m1 c1, .slice B1 m2 d1, .int .i64 g.dn, .int .i64 g.ak, .bool g.on, .slice none 0 0, .slice none 0 0] := hbk1.setCell 5 (.bool g.on)
    have hbk3 : Blk ((((W1.setCell ⟨g3, 3, none⟩ (.int .i64 g.dn)).setCell ⟨g3, 4, none⟩ (.int .i64 g.ak)).setCell ⟨g3, 5, none⟩ (.bool g.on)).setCell ⟨g3, 6, none⟩ (.slice D g.nd.length kd)) (g3) 30 #[.int .i64 now, .slice A1 m1 c1, .slice B1 m2 d1, .int .i64 g.dn, .int .i64 g.ak, .bool g.on, .slice D g.nd.length kd, .slice none 0 0] := hbk2.setCell 6 (.slice D g.nd.length kd)
    have hgr : W1.grownBy ((((W1.setCell ⟨g3, 3, none⟩ (.int .i64 g.dn)).setCell ⟨g3, 4, none⟩ (.int .i64 g.ak)).setCell ⟨g3, 5, none⟩ (.bool g.on)).setCell ⟨g3, 6, none⟩ (.slice D g.nd.length kd)) (some (g3)) := (grown_set (grown_set (grown_set (grown_set (World.grownBy.refl W1 (some (g3))) 3 (.int .i64 g.dn)) 4 (.int .i64 g.ak)) 5 (.bool g.on)) 6 (.slice D g.nd.length kd))
    replace P3 := hid hbk3
    clear hbk0 hbk1 hbk2 hbk3
    generalize (((W1.setCell ⟨g3, 3, none⟩ (.int .i64 g.dn)).setCell ⟨g3, 4, none⟩ (.int .i64 g.ak)).setCell ⟨g3, 5, none⟩ (.bool g.on)).setCell ⟨g3, 6, none⟩ (.slice D g.nd.length kd) = W2 at *
    replace RO := hid (RO.out.keptR P30.out (by decide) hgr)
    replace HQ := hid (HQ.out.grown hgr HQ.out.size (fun r e => by cases e; exact HG3.out))
    clear hgr P30
    have PXa := hid (XPX.out.below HQ.out XPX.out.lt)
    obtain ⟨y00, y01, y02, y03, y04, y05, y06, y07, yf0⟩ := PXa.out.cells8
    go_wp2_with fail
    clear PXa e31 e32 e33 e34 y00 y01 y02 y03 y04 y05 y06 y07 yf0
    refine (clone_bool D m3 kd 0 (g.nd.take 9) W2 ((R3.out.below HQ.out (Nat.le_refl _)).mono (Nat.le_refl _) HQ.out.size) (by omega)).mono ?_
    rintro e W3 ⟨A7, c7, rfl, ho, hb⟩
    have DO := hid (ho.mono HQ.out.size)
    replace P3 := hid (P3.out.step hb); replace RO := hid (RO.out.step hb); replace HQ := hid (below_then HQ.out hb)
    clear ho hb R3
    have PXa := hid (XPX.out.below HQ.out XPX.out.lt)
    have P30 := P3
    obtain ⟨y00, y01, y02, y03, y04, y05, y06, y07, yf0⟩ := PXa.out.cells8
    obtain ⟨y10, y11, y12, y13, y14, y15, y16, y17, yf1⟩ := P3.out.cells8
    go_upto_region 4 with fail
    clear PXa y00 y01 y02 y03 y04 y05 y06 y07 yf0 y10 y11 y12 y13 y14 y15 y16 y17 yf1
    have hbk0 : Blk (W3.setCell ⟨g3, 6, none⟩ (.slice A7 m3 c7)) (g3) 30 #[.int .i64 now, .slice A1 m1 c1, .slice B1 m2 d1, .int .i64 g.dn, .int .i64 g.ak, .bool g.on, .slice A7 m3 c7, .slice none 0 0] := P3.out.setCell 6 (.slice A7 m3 c7)
    have hgr : W3.grownBy (W3.setCell ⟨g3, 6, none⟩ (.slice A7 m3 c7)) (some (g3)) := (grown_set (World.grownBy.refl W3 (some (g3))) 6 (.slice A7 m3 c7))
    replace P3 := hid hbk0
    clear hbk0
    generalize W3.setCell ⟨g3, 6, none⟩ (.slice A7 m3 c7) = W4 at *
    replace RO := hid (RO.out.keptR P30.out (by decide) hgr); replace DO := hid (DO.out.keptR P30.out (by decide) hgr)
    replace HQ := hid (HQ.out.grown hgr HQ.out.size (fun r e => by cases e; exact HG3.out))
    clear hgr P30
    have PXa := hid (XPX.out.below HQ.out XPX.out.lt)
    obtain ⟨y00, y01, y02, y03, y04, y05, y06, y07, yf0⟩ := PXa.out.cells8
    go_wp2_with fail
    clear PXa e41 e42 e43 e44 y00 y01 y02 y03 y04 y05 y06 y07 yf0
    go_loopw [5, 54] (fun _ i wr => ∃ (j : Nat) (Qo : Option Addr) (cq : Nat) (ej : List Qe), j ≤ m4 ∧ i = .int .i64 j ∧ Below W0.heap.size W0 wr ∧ Blk wr g3 30 #[.int .i64 now, .slice A1 m1 c1, .slice B1 m2 d1, .int .i64 g.dn, .int .i64 g.ak, .bool g.on, .slice A7 m3 c7, .slice Qo j cq] ∧ RcT wr W0.heap.size (cutS (now, ns, os)) (cutG g) ej ⟨A1, m1, c1, B1, m2, d1, A7, c7, Qo, j, cq⟩ ∧ ql ej = ((es.take 9).take j).map (fun x => (x.l.take 18, x.o))) (fun _ i _ => m4 - (intOf i).toNat)
    case atStart => exact ⟨0, none, 0, [], Nat.zero_le _, rfl, HQ.out, P3.out, ⟨RO.out, (show Ow blv _ _ _ A7 (g.nd.take 9).length c7 (g.nd.take 9) by rw [← hl3.out]; exact DO.out), Om.nil _ _ _, fun _ h => (by cases h)⟩, rfl⟩
    case round =>
      clear HQ P3 RO DO
      obtain ⟨j, Qo, cq, ej, hj, rfl, h1, h2, h3, h4⟩ := hrel
      have HQ := hid h1; have P3 := hid h2; have RT := hid h3; have HQL := hid h4
      clear h1 h2 h3 h4
      by_cases hjn : j < m4
      rotate_left
      ·skip
       obtain rfl : j = m4 := by omega
       have hnn : ¬ ((j : Int) < (j : Int)) := by omega
       have HQ2 := hid (show ql ej = cutQ es by rw [HQL.out, List.take_of_length_le (by rw [R4.out.len]; exact Nat.le_refl _)]; rfl)
       have HW := hid (show w.heap.size ≤ W0.heap.size by have := hz0.out; omega)
       have HB := hid (below_then XHB.out HQ.out)
       have PZ := hid (XPZ.out.below HQ.out XPZ.out.lt)
       clear HQL
       obtain ⟨y00, y01, y02, y03, y04, y05, y06, y07, yf0⟩ := P3.out.cells8
       obtain ⟨y10, y11, y12, y13, y14, y15, y16, y17, yf1⟩ := PZ.out.cells8
       go_wp2_with fail
       clear y00 y01 y02 y03 y04 y05 y06 y07 yf0 y10 y11 y12 y13 y14 y15 y16 y17 yf1
       have PZ0 := PZ
       have hbk0 : Blk (wr.setCell ⟨w.heap.size + 1, 0, none⟩ (.int .i64 now)) (w.heap.size + 1) 30 #[.int .i64 now, .slice none 0 0, .slice none 0 0, .int .i64 0, .int .i64 0, .bool false, .slice none 0 0, .slice none 0 0] := PZ.out.setCell 0 (.int .i64 now)
       have hbk1 : Blk ((wr.setCell ⟨w.heap.size + 1, 0, none⟩ (.int .i64 now)).setCell ⟨w.heap.size + 1, 1, none⟩ (.slice A1 m1 c1)) (w.heap.size + 1) 30 #[.int .i64 now, .slice A1 m1 c1, .slice none 0 0, .int .i64 0, .int .i64 0, .bool false, .slice none 0 0, .slice none 0 0] := hbk0.setCell 1 (.slice A1 m1 c1)
       have hbk2 : Blk (((wr.setCell ⟨w.heap.size + 1, 0, none⟩ (.int .i64 now)).setCell ⟨w.heap.size + 1, 1, none⟩ (.slice A1 m1 c1)).setCell ⟨w.heap.size + 1, 2, none⟩ (.slice B1 m2 d1)) (w.heap.size + 1) 30 #[.int .i64 now, .slice A1 m1 c1, .slice B1 m2 d1, .int .i64 0, .int .i64 0, .bool false, .slice none 0 0, .slice none 0 0] := hbk1.setCell 2 (.slice B1 m2 d1)
       have hbk3 : Blk ((((wr.setCell ⟨w.heap.size + 1, 0, none⟩ (.int .i64 now)).setCell ⟨w.heap.size + 1, 1, none⟩ (.slice A1 m1 c1)).setCell ⟨w.heap.size + 1, 2, none⟩ (.slice B1 m2 d1)).setCell ⟨w.heap.size + 1, 3, none⟩ (.int .i64 g.dn)) (w.heap.size + 1) 30 #[.int .i64 now, .slice A1 m1 c1, .slice B1 m2 d1, .int .i64 g.dn, .int .i64 0, .bool false, .slice none 0 0, .slice none 0 0] := hbk2.setCell 3 (.int .i64 g.dn)
       have hbk4 : Blk (((((wr.setCell ⟨w.heap.size + 1, 0, none⟩ (.int .i64 now)).setCell ⟨w.heap.size + 1, 1, none⟩ (.slice A1 m1 c1)).setCell ⟨w.heap.size + 1, 2, none⟩ (.slice B1 m2 d1)).setCell ⟨w.heap.size + 1, 3, none⟩ (.int .i64 g.dn)).setCell ⟨w.heap.size + 1, 4, none⟩ (.int .i64 g.ak)) (w.heap.size + 1) 30 #[.int .i64 now, .slice A1 m1 c1, .slice B1 m2 d1, .int .i64 g.dn, .int .i64 g.ak, .bool false, .slice none 0 0, .slice none 0 0] := hbk3.setCell 4 (.int .i64 g.ak)
       have hbk5 : Blk ((((((wr.setCell ⟨w.heap.size + 1, 0, none⟩ (.int .i64 now)).setCell ⟨w.heap.size + 1, 1, none⟩ (.slice A1 m1 c1)).setCell ⟨w.heap.size + 1, 2, none⟩ (.slice B1 m2 d1)).setCell ⟨w.heap.size + 1, 3, none⟩ (.int .i64 g.dn)).setCell ⟨w.heap.size + 1, 4, none⟩ (.int .i64 g.ak)).setCell ⟨w.heap.size + 1, 5, none⟩ (.bool g.on)) (w.heap.size + 1) 30 #[.int .i64 now, .slice A1 m1 c1, .slice B1 m2 d1, .int .i64 g.dn, .int .i64 g.ak, .bool g.on, .slice none 0 0, .slice none 0 0] := hbk4.setCell 5 (.bool g.on)
       have hbk6 : Blk (((((((wr.setCell ⟨w.heap.size + 1, 0, none⟩ (.int .i64 now)).setCell ⟨w.heap.size + 1, 1, none⟩ (.slice A1 m1 c1)).setCell ⟨w.heap.size + 1, 2, none⟩ (.slice B1 m2 d1)).setCell ⟨w.heap.size + 1, 3, none⟩ (.int .i64 g.dn)).setCell ⟨w.heap.size + 1, 4, none⟩ (.int .i64 g.ak)).setCell ⟨w.heap.size + 1, 5, none⟩ (.bool g.on)).setCell ⟨w.heap.size + 1, 6, none⟩ (.slice A7 m3 c7)) (w.heap.size + 1) 30 #[.int .i64 now, .slice A1 m1 c1, .slice B1 m2 d1, .int .i64 g.dn, .int .i64 g.ak, .bool g.on, .slice A7 m3 c7, .slice none 0 0] := hbk5.setCell 6 (.slice A7 m3 c7)
       have hbk7 : Blk ((((((((wr.setCell ⟨w.heap.size + 1, 0, none⟩ (.int .i64 now)).setCell ⟨w.heap.size + 1, 1, none⟩ (.slice A1 m1 c1)).setCell ⟨w.heap.size + 1, 2, none⟩ (.slice B1 m2 d1)).setCell ⟨w.heap.size + 1, 3, none⟩ (.int .i64 g.dn)).setCell ⟨w.heap.size + 1, 4, none⟩ (.int .i64 g.ak)).setCell ⟨w.heap.size + 1, 5, none⟩ (.bool g.on)).setCell ⟨w.heap.size + 1, 6, none⟩ (.slice A7 m3 c7)).setCell ⟨w.heap.size + 1, 7, none⟩ (.slice Qo j cq)) (w.heap.size + 1) 30 #[.int .i64 now, .slice A1 m1 c1, .slice B1 m2 d1, .int .i64 g.dn, .int .i64 g.ak, .bool g.on, .slice A7 m3 c7, .slice Qo j cq] := hbk6.setCell 7 (.slice Qo j cq)
       have hgr : wr.grownBy ((((((((wr.setCell ⟨w.heap.size + 1, 0, none⟩ (.int .i64 now)).setCell ⟨w.heap.size + 1, 1, none⟩ (.slice A1 m1 c1)).setCell ⟨w.heap.size + 1, 2, none⟩ (.slice B1 m2 d1)).setCell ⟨w.heap.size + 1, 3, none⟩ (.int .i64 g.dn)).setCell ⟨w.heap.size + 1, 4, none⟩ (.int .i64 g.ak)).setCell ⟨w.heap.size + 1, 5, none⟩ (.bool g.on)).setCell ⟨w.heap.size + 1, 6, none⟩ (.slice A7 m3 c7)).setCell ⟨w.heap.size + 1, 7, none⟩ (.slice Qo j cq)) (some (w.heap.size + 1)) := (grown_set (grown_set (grown_set (grown_set (grown_set (grown_set (grown_set (grown_set (World.grownBy.refl wr (some (w.heap.size + 1))) 0 (.int .i64 now)) 1 (.slice A1 m1 c1)) 2 (.slice B1 m2 d1)) 3 (.int .i64 g.dn)) 4 (.int .i64 g.ak)) 5 (.bool g.on)) 6 (.slice A7 m3 c7)) 7 (.slice Qo j cq))
       replace PZ := hid hbk7
       clear hbk0 hbk1 hbk2 hbk3 hbk4 hbk5 hbk6 hbk7
       generalize (((((((wr.setCell ⟨w.heap.size + 1, 0, none⟩ (.int .i64 now)).setCell ⟨w.heap.size + 1, 1, none⟩ (.slice A1 m1 c1)).setCell ⟨w.heap.size + 1, 2, none⟩ (.slice B1 m2 d1)).setCell ⟨w.heap.size + 1, 3, none⟩ (.int .i64 g.dn)).setCell ⟨w.heap.size + 1, 4, none⟩ (.int .i64 g.ak)).setCell ⟨w.heap.size + 1, 5, none⟩ (.bool g.on)).setCell ⟨w.heap.size + 1, 6, none⟩ (.slice A7 m3 c7)).setCell ⟨w.heap.size + 1, 7, none⟩ (.slice Qo j cq) = W6 at *
       have HBf := hid (HB.out.grown hgr HB.out.size (fun r e => by cases e; omega))
       have RTf := hid (RT.out.keptR PZ0.out (by decide) (by decide) (by decide) (by decide) hgr)
       obtain ⟨y00, y01, y02, y03, y04, y05, y06, y07, yf0⟩ := PZ.out.cells8
       exact bodyPost_ret (v := rcv (cutS (now, ns, os)) (cutG g) ⟨A1, m1, c1, B1, m2, d1, A7, c7, Qo, j, cq⟩) (by simp [results, Try.results6, go_sem, cutS, cutG, hl3m.out, y00, y01, y02, y03, y04, y05, y06, y07]) rfl ⟨⟨A1, m1, c1, B1, m2, d1, A7, c7, Qo, j, cq⟩, ej, rfl, HQ2.out, ⟨RTf.out.ro.mono HW.out, RTf.out.gd.mono HW.out, RTf.out.qs.mono HW.out, fun x hx => ⟨(RTf.out.qe x hx).1.mono HW.out, (RTf.out.qe x hx).2⟩⟩, HBf.out⟩
      have hji : (j : Int) < (m4 : Int) := by omega
      obtain ⟨b, off, hbq, _, hbh, hc⟩ := (R4.out).row (by omega)
      obtain ⟨x, hx⟩ : ∃ x, x = (es.take 9)[j]?.getD zQe := ⟨_, rfl⟩
      have c0 := hc j hjn 0 (by omega)
      have c1' := hc j hjn 1 (by omega)
      rw [← hx] at c0 c1'
      have hlt : j < (es.take 9).length := by rw [R4.out.len]; exact hjn
      have HQE := hid (HI.out.qe x (by rw [hx, List.getElem?_eq_getElem hlt]; exact List.mem_of_mem_take (List.getElem_mem _)))
      have HXQ := hid (show ((es.take 9).take (j + 1)).map (fun x => (x.l.take 18, x.o)) = ((es.take 9).take j).map (fun x => (x.l.take 18, x.o)) ++ [(x.l.take 18, x.o)] by
        rw [List.take_succ_eq_append_getElem hlt, hx, List.getElem?_eq_getElem hlt]; simp)
      obtain ⟨xl, xo, xA, xn, xc⟩ := x
      have f0 : wr.cell? ⟨b, off + j * 2, none⟩ = some (.slice xA xn xc) := by rw [Nat.add_zero] at c0; exact (HQ.out.cell (p := ⟨b, off + j * 2, none⟩) (by show b < _; omega)).trans c0
      have f1 : wr.cell? ⟨b, off + j * 2 + 1, none⟩ = some (.int .u64 xo) := (HQ.out.cell (p := ⟨b, off + j * 2 + 1, none⟩) (by show b < _; omega)).trans c1'
      clear hc c0 c1' hx hbh
      subst hbq
      obtain ⟨m5, hm5, e51, e52, e53, e54, e55, _⟩ := min18 xn xc HQE.out.2.1
      have R5 := hid (show Sm 2 encC (0, 0) W0 0 W0.heap.size xA m5 (xl.take 18) by rw [hm5]; exact HQE.out.1.cut)
      clear hm5
      have HQB := hid (show ∀ a, Qo = some a → a.block < wr.heap.size from fun a ha => by obtain ⟨_, cs, q⟩ := RT.out.qs.blk a ha; exact q.lt)
      have bx := below_box wr (.cells #[.slice xA xn xc, .int .u64 xo] 40)
      replace P3 := hid (P3.out.step bx); replace RT := hid (RT.out.step bx); replace HQ := hid (below_then HQ.out bx)
      clear bx
      have PT := hid (Blk.new wr 40 #[.slice xA xn xc, .int .u64 xo])
      go_upto_region 7 with fail
      clear f0 f1
      have hzr := hid (show (wr.alloc (.cells #[.slice xA xn xc, .int .u64 xo] 40)).heap.size = wr.heap.size + 1 by simp)
      generalize wr.alloc (.cells #[.slice xA xn xc, .int .u64 xo] 40) = W7 at *
      have HVW := hid (show W0.heap.size ≤ wr.heap.size by have := hzr.out; have := P3.out.lt; have := HG3.out; omega)
      obtain ⟨i0, hi0, hz00, hz01, hz02⟩ := info_parts info_que
      have bx := (Below.refl W7.heap.size W7).drew
      replace P3 := hid (P3.out.step bx); replace RT := hid (RT.out.step bx); replace PT := hid (PT.out.step bx); replace HQ := hid (below_then HQ.out bx)
      clear bx
      have hszd := hid (show W7.drew.heap.size = W7.heap.size from rfl)
      refine wp_region_noPanic ?_
      refine wp_region_held_tail 15 (fun W' : World => W'.cell? ⟨g3, 7, none⟩ = some (.slice Qo j cq) ∧ W'.cell? ⟨wr.heap.size, 0, none⟩ = some (.slice xA xn xc) ∧ W'.cell? ⟨wr.heap.size, 1, none⟩ = some (.int .u64 xo)) #[false, false, false, false, false, false, false, false, false, false, false, false, false, false, false, false, false] (by kernel_rfl) ⟨P3.out.cells8.2.2.2.2.2.2.2.1, PT.out.cells2.1, PT.out.cells2.2.1⟩ (by kernel_rfl) (by kernel_rfl) (fun hS => ?_)
      generalize W7.drew = Wd at *
      refine wpAnyT_take (i := 0) (v := ?_) (by kernel_rfl) (by simp only [List.getElem?_toArray, List.getElem?_cons_succ, List.getElem?_cons_zero]; rfl) (by kernel_rfl) (fun _ _ _ h => h) (Or.inl ⟨by rfl, ?_⟩) hS ?_
      rotate_left
      · intro w' hSw; (try dsimp only at hSw); go_split_ands; go_simp; (try with_reducible rfl)
      (try simp only [Act.put, List.setIfInBounds_toArray, List.set_cons_zero, List.set_cons_succ])
      refine wpAnyT_take (i := 1) (v := ?_) (by kernel_rfl) (by simp only [List.getElem?_toArray, List.getElem?_cons_succ, List.getElem?_cons_zero]; rfl) (by kernel_rfl) (fun _ _ _ h => h) (Or.inl ⟨by rfl, ?_⟩) hS ?_
      rotate_left
      · intro w' hSw; (try dsimp only at hSw); go_split_ands; go_simp; (try with_reducible rfl)
      (try simp only [Act.put, List.setIfInBounds_toArray, List.set_cons_zero, List.set_cons_succ])
      refine wpAnyT_take (i := 2) (v := ?_) (by kernel_rfl) (by simp only [List.getElem?_toArray, List.getElem?_cons_succ, List.getElem?_cons_zero]; rfl) (by kernel_rfl) (fun _ _ _ h => h) (Or.inl ⟨by rfl, ?_⟩) hS ?_
      rotate_left
      · intro w' hSw; (try dsimp only at hSw); go_split_ands; go_simp; (try with_reducible rfl)
      (try simp only [Act.put, List.setIfInBounds_toArray, List.set_cons_zero, List.set_cons_succ])
      refine wpAnyT_take (i := 3) (v := ?_) (by kernel_rfl) (by simp only [List.getElem?_toArray, List.getElem?_cons_succ, List.getElem?_cons_zero]; rfl) (by kernel_rfl) (fun _ _ _ h => h) (Or.inl ⟨by rfl, ?_⟩) hS ?_
      rotate_left
      · intro w' hSw; (try dsimp only at hSw); go_split_ands; go_simp; (try with_reducible rfl)
      (try simp only [Act.put, List.setIfInBounds_toArray, List.set_cons_zero, List.set_cons_succ])
      refine wpAnyT_take (i := 4) (v := ?_) (by kernel_rfl) (by simp only [List.getElem?_toArray, List.getElem?_cons_succ, List.getElem?_cons_zero]; rfl) (by kernel_rfl) (fun _ _ _ h => h) (Or.inl ⟨by rfl, ?_⟩) hS ?_
      rotate_left
      · intro w' hSw; (try dsimp only at hSw); go_split_ands; go_simp; (try with_reducible rfl)
      (try simp only [Act.put, List.setIfInBounds_toArray, List.set_cons_zero, List.set_cons_succ])
      refine wpAnyT_take (i := 5) (v := ?_) (by kernel_rfl) (by simp only [List.getElem?_toArray, List.getElem?_cons_succ, List.getElem?_cons_zero]; rfl) (by kernel_rfl) (fun _ _ _ h => h) (Or.inl ⟨by rfl, ?_⟩) hS ?_
      rotate_left
      · intro w' hSw; (try dsimp only at hSw); go_split_ands; go_simp; (try with_reducible rfl)
      (try simp only [Act.put, List.setIfInBounds_toArray, List.set_cons_zero, List.set_cons_succ])
      refine wpAnyT_take (i := 6) (v := ?_) (by kernel_rfl) (by simp only [List.getElem?_toArray, List.getElem?_cons_succ, List.getElem?_cons_zero]; rfl) (by kernel_rfl) (fun _ _ _ h => h) (Or.inl ⟨by rfl, ?_⟩) hS ?_
      rotate_left
      · intro w' hSw; (try dsimp only at hSw); go_split_ands; go_simp; (try with_reducible rfl)
      (try simp only [Act.put, List.setIfInBounds_toArray, List.set_cons_zero, List.set_cons_succ])
      refine wpAnyT_take (i := 7) (v := ?_) (by kernel_rfl) (by simp only [List.getElem?_toArray, List.getElem?_cons_succ, List.getElem?_cons_zero]; rfl) (by kernel_rfl) (fun _ _ _ h => h) (Or.inl ⟨by rfl, ?_⟩) hS ?_
      rotate_left
      · intro w' hSw; (try dsimp only at hSw); go_split_ands; go_simp; (try with_reducible rfl)
      (try simp only [Act.put, List.setIfInBounds_toArray, List.set_cons_zero, List.set_cons_succ])
      refine wpAnyT_take (i := 8) (v := ?_) (by kernel_rfl) (by simp only [List.getElem?_toArray, List.getElem?_cons_succ, List.getElem?_cons_zero]; rfl) (by kernel_rfl) (fun _ _ _ h => h) (Or.inl ⟨by rfl, ?_⟩) hS ?_
      rotate_left
      · intro w' hSw; (try dsimp only at hSw); go_split_ands; go_simp; (try with_reducible rfl)
      (try simp only [Act.put, List.setIfInBounds_toArray, List.set_cons_zero, List.set_cons_succ])
      refine wpAnyT_take (i := 9) (v := ?_) (by kernel_rfl) (by simp only [List.getElem?_toArray, List.getElem?_cons_succ, List.getElem?_cons_zero]; rfl) (by kernel_rfl) (fun _ _ _ h => h) (Or.inl ⟨by rfl, ?_⟩) hS ?_
      rotate_left
      · intro w' hSw; (try dsimp only at hSw); go_split_ands; go_simp; (try with_reducible rfl)
      (try simp only [Act.put, List.setIfInBounds_toArray, List.set_cons_zero, List.set_cons_succ])
      refine wpAnyT_take (i := 10) (v := ?_) (by kernel_rfl) (by simp only [List.getElem?_toArray, List.getElem?_cons_succ, List.getElem?_cons_zero]; rfl) (by kernel_rfl) (fun _ _ _ h => h) (Or.inl ⟨by rfl, ?_⟩) hS ?_
      rotate_left
      · intro w' hSw; (try dsimp only at hSw); go_split_ands; go_simp; (try with_reducible rfl)
      (try simp only [Act.put, List.setIfInBounds_toArray, List.set_cons_zero, List.set_cons_succ])
      refine wpAnyT_ready [11] (by kernel_rfl) (by simp) ?_
      refine AllReadyT.cons (by simp only [List.getElem?_toArray, List.getElem?_cons_succ, List.getElem?_cons_zero]; rfl) rfl (fun K hK => ?_) ?_
      · skip
        go_simp
        refine (clone_cb xA m5 xc 0 (xl.take 18) _ ((R5.out.below HQ.out (Nat.le_refl _)).mono (Nat.le_refl _) HQ.out.size) (by omega)).mono ?_
        rintro e w11 ⟨A11, c11, rfl, ho, hb⟩
        have hsz0 := hid (show Wd.heap.size ≤ w11.heap.size from hb.size)
        replace P3 := hid (P3.out.step hb); replace RT := hid (RT.out.step hb); replace PT := hid (PT.out.step hb); replace HQ := hid (below_then HQ.out hb)
        clear hb
        have O11 := hid (ho.mono (show W0.heap.size ≤ _ by have := HVW.out; have := hzr.out; have := hszd.out; omega))
        clear ho
        go_wp2_with fail
        have hS' : (fun W' : World => W'.cell? ⟨g3, 7, none⟩ = some (.slice Qo j cq) ∧ W'.cell? ⟨wr.heap.size, 0, none⟩ = some (.slice xA xn xc) ∧ W'.cell? ⟨wr.heap.size, 1, none⟩ = some (.int .u64 xo)) _ := ⟨P3.out.cells8.2.2.2.2.2.2.2.1, PT.out.cells2.1, PT.out.cells2.2.1⟩
        refine hK.out _ _ hS' ?_
        clear hK K hS
        have hS := hS'
        clear hS'
        (try simp only [Act.put, List.setIfInBounds_toArray, List.set_cons_zero, List.set_cons_succ])
        refine wpAnyT_take (i := 12) (v := ?_) (by kernel_rfl) (by simp only [List.getElem?_toArray, List.getElem?_cons_succ, List.getElem?_cons_zero]; rfl) (by kernel_rfl) (fun _ _ _ h => h) (Or.inl ⟨by rfl, ?_⟩) hS ?_
        rotate_left
        · intro w' hSw; (try dsimp only at hSw); go_split_ands; go_simp; (try with_reducible rfl)
        (try simp only [Act.put, List.setIfInBounds_toArray, List.set_cons_zero, List.set_cons_succ])
        refine wpAnyT_ready [13] (by kernel_rfl) (by simp) ?_
        refine AllReadyT.cons (by simp only [List.getElem?_toArray, List.getElem?_cons_succ, List.getElem?_cons_zero]; rfl) rfl (fun K hK => ?_) ?_
        · skip
          go_simp
          refine named_alloc ?_
          intro Wa13 hbk hb hsz
          have hsz1 := hid hsz
          replace P3 := hid (P3.out.step hb); replace RT := hid (RT.out.step hb); replace PT := hid (PT.out.step hb); replace O11 := hid (O11.out.step hb); replace HQ := hid (below_then HQ.out hb)
          have PL := hid hbk
          clear hb hbk hsz
          have hS' : (fun W' : World => W'.cell? ⟨g3, 7, none⟩ = some (.slice Qo j cq) ∧ W'.cell? ⟨wr.heap.size, 0, none⟩ = some (.slice xA xn xc) ∧ W'.cell? ⟨wr.heap.size, 1, none⟩ = some (.int .u64 xo)) _ := ⟨P3.out.cells8.2.2.2.2.2.2.2.1, PT.out.cells2.1, PT.out.cells2.2.1⟩
          refine hK.out _ _ hS' ?_
          clear hK K hS
          have hS := hS'
          clear hS'
          (try simp only [Act.put, List.setIfInBounds_toArray, List.set_cons_zero, List.set_cons_succ])
          refine wpAnyT_ready [14] (by kernel_rfl) (by simp) ?_
          refine AllReadyT.cons (by simp only [List.getElem?_toArray, List.getElem?_cons_succ, List.getElem?_cons_zero]; rfl) rfl (fun K hK => ?_) ?_
          · skip
            refine step_appm 2 encQ zQe _ rfl _ _ 28 rfl W0.heap.size 40 i0 _ 32 Try.underlying28 hi0 hz00 hz01 hz02 rfl (by omega) Qo j cq ej rfl RT.out.qs 0 _ (some ⟨w11.heap.size, 0, none⟩) 1 1 [⟨xl.take 18, xo, A11, m5, c11⟩] rfl (Sm.oneB PL.out (fun k hk => by match k, hk with | 0, _ => rfl | 1, _ => rfl)) encQ_one (by simp only [maxLen]; omega) (by omega) HQ.out.size ?_
            intro A9 c9 Wc9 hown hgr hat
            have RT9 := hid (show RcT Wc9 W0.heap.size (cutS (now, ns, os)) (cutG g) (ej ++ [⟨xl.take 18, xo, A11, m5, c11⟩]) ⟨A1, m1, c1, B1, m2, d1, A7, c7, A9, j + 1, c9⟩ from
              ⟨RT.out.ro.keptM' RT.out.qs (by decide) hgr, RT.out.gd.keptM RT.out.qs (by decide) hgr, hown, fun y hy => by
                rcases List.mem_append.1 hy with hy | hy
                · exact ⟨(RT.out.qe y hy).1.keptM RT.out.qs (by decide) hgr, (RT.out.qe y hy).2⟩
                · obtain rfl := List.mem_singleton.1 hy
                  exact ⟨O11.out.keptM RT.out.qs (by decide) hgr, by show m5 ≤ 1000; omega⟩⟩)
            replace P3 := hid (P3.out.keptM RT.out.qs (by decide) hgr)
            replace PT := hid (PT.out.grown hgr (fun e => by obtain ⟨a, ha, hb⟩ := own_addr e.symm; have := HQB.out a ha; omega))
            replace HQ := hid (HQ.out.grown hgr HQ.out.size (fun r e => RT.out.qs.row_ge r e))
            clear hown hgr hat PL RT O11
            have hS' : (fun W' : World => W'.cell? ⟨g3, 7, none⟩ = some (.slice Qo j cq) ∧ W'.cell? ⟨wr.heap.size, 0, none⟩ = some (.slice xA xn xc) ∧ W'.cell? ⟨wr.heap.size, 1, none⟩ = some (.int .u64 xo)) _ := ⟨P3.out.cells8.2.2.2.2.2.2.2.1, PT.out.cells2.1, PT.out.cells2.2.1⟩
            refine hK.out _ _ hS' ?_
            clear hK K hS
            have hS := hS'
            clear hS'
            (try simp only [Act.put, List.setIfInBounds_toArray, List.set_cons_zero, List.set_cons_succ])
            refine wpAnyT_done (by kernel_rfl) ?_
            simp only [List.drop_succ_cons, List.drop_zero]
            clear hS
            have P30 := P3
            obtain ⟨y00, y01, y02, y03, y04, y05, y06, y07, yf0⟩ := P3.out.cells8
            go_wp2_with fail
            refine NoPanic.normal ?_
            clear y00 y01 y02 y03 y04 y05 y06 y07 yf0
            have hbk0 : Blk (Wc9.setCell ⟨g3, 7, none⟩ (.slice A9 (j + 1) c9)) (g3) 30 #[.int .i64 now, .slice A1 m1 c1, .slice B1 m2 d1, .int .i64 g.dn, .int .i64 g.ak, .bool g.on, .slice A7 m3 c7, .slice A9 (j + 1) c9] := P3.out.setCell 7 (.slice A9 (j + 1) c9)
            have hgr : Wc9.grownBy (Wc9.setCell ⟨g3, 7, none⟩ (.slice A9 (j + 1) c9)) (some (g3)) := (grown_set (World.grownBy.refl Wc9 (some (g3))) 7 (.slice A9 (j + 1) c9))
            replace P3 := hid hbk0
            clear hbk0
            generalize Wc9.setCell ⟨g3, 7, none⟩ (.slice A9 (j + 1) c9) = Wn at *
            have RTn := hid (RT9.out.keptR P30.out (by decide) (by decide) (by decide) (by decide) hgr)
            replace HQ := hid (HQ.out.grown hgr HQ.out.size (fun r e => by cases e; exact HG3.out))
            clear hgr RT9 P30
            have hw1 : IntKind.i64.wrap ((j : Int) + 1) = (j : Int) + 1 := by rw [IntKind.wrap_i64]; omega
            go_wp2_with fail
            go_roundw
            case rel => exact ⟨j + 1, A9, c9, _, by omega, by go_num, HQ.out, P3.out, RTn.out, by rw [HXQ.out, ← HQL.out]; simp [ql]⟩
            case measure => simp [intOf]; omega
          exact AllReadyT.nil
        exact AllReadyT.nil
      exact AllReadyT.nil
end Go.Proofs.Ytfipdoofgbjbjaa
