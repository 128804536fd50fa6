/- Walks and plain laws for this claim, part 7. No condition but sizes. -/
import Derived.Test.YtfipdoofgbjbjaaGreatM6
import Derived.Deep.DeepCutAuto
import Derived.Deep.CutBlock
import Derived.Test.YtfipdoofgbjbjaaGreatM1
import Derived.Test.YtfipdoofgbjbjaaGreatM3
/- afterglowlaw14: own, op. No condition but sizes, and that numbers are of their kinds. -/
namespace Go.Proofs.YtfipdoofgbjbjaaGreat
open Go.RowKit
attribute [local go_sem] Oper.semAt_some
/-- all of it, as it came in -/
structure RcIn (w : World) (s : St) (g : Gr) (es : List Qe) (a : Ra) : Prop where
  ra : Sl i64 0 w 0 w.heap.size a.A a.n s.2.1
  ka : a.n ≤ a.k
  rb : Sl i64 0 w 0 w.heap.size a.B a.m s.2.2
  kb : a.m ≤ a.d
  gd : Sl blv false w 0 w.heap.size a.D g.nd.length g.nd
  kd : g.nd.length ≤ a.kd
  gi : g.dn ≤ 9223372036854775807 ∧ g.ak ≤ 9223372036854775807
  qs : Sm 2 encQ zQe w 0 w.heap.size a.Q a.nq es
  kq : a.nq ≤ a.kq
  qe : ∀ x ∈ es, Sm 2 encC (0, 0) w 0 w.heap.size x.A x.n x.l ∧ x.n ≤ x.c ∧ 0 ≤ x.o ∧ x.o ≤ 18446744073709551615
theorem RcIn.step {w w' : World} {s : St} {g : Gr} {es : List Qe} {a : Ra} (h : RcIn w s g es a) (hb : Below w.heap.size w w') : RcIn w' s g es a :=
  ⟨h.ra.step hb, h.ka, h.rb.step hb, h.kb, h.gd.step hb, h.kd, h.gi, h.qs.step hb, h.kq, fun x hx => ⟨(h.qe x hx).1.step hb, (h.qe x hx).2⟩⟩
def cutS (s : St) : St := (s.1, s.2.1.take 9, s.2.2.take 9)
def cutG (g : Gr) : Gr := ⟨g.nd.take 9, g.dn, g.ak, g.on⟩
def cutQ (es : List Qe) : Qs := (es.take 9).map fun x => (x.l.take 18, x.o)
def LoPost (s : St) (g : Gr) (es : List Qe) (w : World) (e : Ending) (w' : World) : Prop :=
  ∃ a' es', e = .returned (rcv (cutS s) (cutG g) a') ∧ ql es' = cutQ es ∧ RcT w' w.heap.size (cutS s) (cutG g) es' a' ∧ Below w.heap.size w w'
theorem min9 (n c : Nat) (hn : n ≤ c) : ∃ m, m = min n 9 ∧ (if (9 : Int) < (n : Int) then (9 : Int) else (n : Int)) = (m : Int) ∧ min (n : Int) 9 = (m : Int) ∧ (m : Int) ≤ (c : Int) ∧ (0 : Int) ≤ (m : Int) ∧ m ≤ 9 ∧ m ≤ n :=
  ⟨min n 9, rfl, by split <;> omega, by omega, by omega, by omega, by omega, by omega⟩
theorem min18 (n c : Nat) (hn : n ≤ c) : ∃ m, m = min n 18 ∧ (if (18 : Int) < (n : Int) then (18 : Int) else (n : Int)) = (m : Int) ∧ min (n : Int) 18 = (m : Int) ∧ (m : Int) ≤ (c : Int) ∧ (0 : Int) ≤ (m : Int) ∧ m ≤ 18 ∧ m ≤ n :=
  ⟨min n 18, rfl, by split <;> omega, by omega, by omega, by omega, by omega, by omega⟩
theorem Sl.cut {α : Type} {enc : α → Value} {d : α} {w : World} {lo hi n k : Nat} {A : Option Addr} {xs : List α} (h : Sl enc d w lo hi A n xs) : Sl enc d w lo hi A (min n k) (xs.take k) := by
  by_cases hk : n ≤ k
  · rw [show min n k = n by omega, List.take_of_length_le (by rw [h.len]; exact hk)]; exact h
  · rw [show min n k = k by omega]; exact h.take (by omega)
theorem Sm.cut {α : Type} {sz : Nat} {enc : α → Nat → Value} {d : α} {w : World} {lo hi n k : Nat} {A : Option Addr} {xs : List α} (h : Sm sz enc d w lo hi A n xs) : Sm sz enc d w lo hi A (min n k) (xs.take k) := by
  by_cases hk : n ≤ k
  · rw [show min n k = n by omega, List.take_of_length_le (by rw [h.len]; exact hk)]; exact h
  · rw [show min n k = k by omega]; exact h.take (by omega)
/-- behind own's first step -/
def OwnI (W0 W : World) (g3 : Nat) (s : St) (A : Option Addr) (n k : Nat) (B : Option Addr) (m d : Nat) : Prop :=
  W0.heap.size ≤ g3 ∧ Blk W g3 30 #[.int .i64 s.1, .slice A n k, .slice B m d, .int .i64 0, .int .i64 0, .bool false, .slice none 0 0, .slice none 0 0] ∧ Rown W W0.heap.size A n k B m d s.2.1 s.2.2 ∧ Below W0.heap.size W0 W
theorem op_any (k c x : Int) (w : World) : Calls Tryz.prog 26 #[.int .i64 k, .int .i64 c, .int .u64 x] w fun e w' => e = .returned (.agg (ocs (k, c, x))) ∧ Below w.heap.size w w' := by
  have HB := hid (Below.refl w.heap.size w)
  have bx := below_box w (.cells #[.int .i64 0, .int .i64 0, .int .u64 0] 37)
  replace HB := hid (below_then HB.out bx)
  clear bx
  have PO := hid (Blk.new w 37 #[.int .i64 0, .int .i64 0, .int .u64 0])
  go_enter Tryz.func26, Tryz.ntmps26
  obtain ⟨y00, y01, y02, yf0⟩ := PO.out.cells3
  go_wp2
  clear y00 y01 y02 yf0 HB PO
  obtain ⟨y00, y01, y02, yf0⟩ := (Blk.new w 37 #[.int .i64 k, .int .i64 c, .int .u64 x]).cells3
  exact bodyPost_ret (v := .agg (ocs (k, c, x))) (by simp [results, Tryz.results26, go_sem, y00, y01, y02]) rfl ⟨rfl, below_box w _⟩
set_option maxRecDepth 100000 in
set_option maxHeartbeats 8000000 in
theorem lown_any (s : St) (g : Gr) (es : List Qe) (a : Ra) (w : World) (h : RcIn w s g es a) : Calls Tryz.prog 7 #[rcv s g a] w (LoPost s g es w) := by
  obtain ⟨A, n, k, B, m, d, D, kd, Q, nq, kq⟩ := a
  obtain ⟨now, ns, os⟩ := s
  obtain ⟨m1, hm1, e11, e12, e13, e14, e15, _⟩ := min9 n k h.ka
  obtain ⟨m2, hm2, e21, e22, e23, e24, e25, _⟩ := min9 m d h.kb
  obtain ⟨m3, hm3, e31, e32, e33, e34, e35, _⟩ := min9 g.nd.length kd h.kd
  obtain ⟨m4, hm4, e41, e42, e43, e44, e45, e46⟩ := min9 nq kq h.kq
  have R1 := hid (show Sl i64 0 w 0 w.heap.size A m1 (ns.take 9) by rw [hm1]; exact h.ra.cut)
  have R2 := hid (show Sl i64 0 w 0 w.heap.size B m2 (os.take 9) by rw [hm2]; exact h.rb.cut)
  have R3 := hid (show Sl blv false w 0 w.heap.size D m3 (g.nd.take 9) by rw [hm3]; exact h.gd.cut)
  have R4 := hid (show Sm 2 encQ zQe w 0 w.heap.size Q m4 (es.take 9) by rw [hm4]; exact h.qs.cut)
  have hl3 := hid (show m3 = (g.nd.take 9).length from R3.out.len.symm)
  have hl3m := hid (show min 9 g.nd.length = m3 by omega)
  have HI := hid h; have HB := hid (Below.refl w.heap.size w)
  clear h hm1 hm2 hm3 hm4
  have bx := below_box w (.cells #[.int .i64 now, .slice A n k, .slice B m d, .int .i64 g.dn, .int .i64 g.ak, .bool g.on, .slice D g.nd.length kd, .slice Q nq kq] 30)
  replace R1 := hid (R1.out.step bx); replace R2 := hid (R2.out.step bx); replace R3 := hid (R3.out.step bx); replace R4 := hid (R4.out.step bx); replace HI := hid (HI.out.step bx); replace HB := hid (below_then HB.out bx)
  clear bx
  have PX := hid (Blk.new w 30 #[.int .i64 now, .slice A n k, .slice B m d, .int .i64 g.dn, .int .i64 g.ak, .bool g.on, .slice D g.nd.length kd, .slice Q nq kq])
  have bx := below_box (w.alloc (.cells #[.int .i64 now, .slice A n k, .slice B m d, .int .i64 g.dn, .int .i64 g.ak, .bool g.on, .slice D g.nd.length kd, .slice Q nq kq] 30)) (.cells #[.int .i64 0, .slice none 0 0, .slice none 0 0, .int .i64 0, .int .i64 0, .bool false, .slice none 0 0, .slice none 0 0] 30)
  replace R1 := hid (R1.out.step bx); replace R2 := hid (R2.out.step bx); replace R3 := hid (R3.out.step bx); replace R4 := hid (R4.out.step bx); replace HI := hid (HI.out.step bx); replace PX := hid (PX.out.step bx); replace HB := hid (below_then HB.out bx)
  clear bx
  have PZ := hid (Blk.new2 w 30 #[.int .i64 0, .slice none 0 0, .slice none 0 0, .int .i64 0, .int .i64 0, .bool false, .slice none 0 0, .slice none 0 0] (.cells #[.int .i64 now, .slice A n k, .slice B m d, .int .i64 g.dn, .int .i64 g.ak, .bool g.on, .slice D g.nd.length kd, .slice Q nq kq] 30))
  go_enter Tryz.func7, Tryz.ntmps7
  go_upto_region 1 with fail
  have hz0 := hid (show ((w.alloc (.cells #[.int .i64 now, .slice A n k, .slice B m d, .int .i64 g.dn, .int .i64 g.ak, .bool g.on, .slice D g.nd.length kd, .slice Q nq kq] 30)).alloc (.cells #[.int .i64 0, .slice none 0 0, .slice none 0 0, .int .i64 0, .int .i64 0, .bool false, .slice none 0 0, .slice none 0 0] 30)).heap.size = w.heap.size + 2 by simp)
  generalize (w.alloc (.cells #[.int .i64 now, .slice A n k, .slice B m d, .int .i64 g.dn, .int .i64 g.ak, .bool g.on, .slice D g.nd.length kd, .slice Q nq kq] 30)).alloc (.cells #[.int .i64 0, .slice none 0 0, .slice none 0 0, .int .i64 0, .int .i64 0, .bool false, .slice none 0 0, .slice none 0 0] 30) = W0 at *
  have HB0 := hid (Below.refl W0.heap.size W0)
  go_cut [3] (fun s3 wx => ∃ g3 A1 c1 B1 d1, s3 = ptr g3 ∧ OwnI W0 wx g3 (now, ns.take 9, os.take 9) A1 m1 c1 B1 m2 d1)
  case first =>
      have bx := (Below.refl W0.heap.size W0).drew
      replace R1 := hid (R1.out.step bx); replace R2 := hid (R2.out.step bx); replace PX := hid (PX.out.step bx); replace HB0 := hid (below_then HB0.out bx)
      clear bx
      have hszd := hid (show W0.drew.heap.size = W0.heap.size from rfl)
      refine wp_region_noPanic ?_
      refine wp_region_held_drew (S := (fun W' : World => W'.cell? ⟨w.heap.size, 0, none⟩ = some (.int .i64 now) ∧ W'.cell? ⟨w.heap.size, 1, none⟩ = some (.slice A n k) ∧ W'.cell? ⟨w.heap.size, 2, none⟩ = some (.slice B m d))) (by kernel_rfl) ⟨PX.out.cells8.1, PX.out.cells8.2.1, PX.out.cells8.2.2.1⟩ (fun hS => ?_)
      generalize W0.drew = Wd at *
      refine tk 0 hS ?_
      refine tk 1 hS ?_
      refine tk 2 hS ?_
      refine tk 3 hS ?_
      refine tk 4 hS ?_
      refine tk 5 hS ?_
      refine tk 6 hS ?_
      refine tk 7 hS ?_
      refine tk 8 hS ?_
      refine tk 9 hS ?_
      refine tk 10 hS ?_
      refine tk 11 hS ?_
      refine tk 13 hS ?_
      refine tk 14 hS ?_
      refine tk 15 hS ?_
      refine tk 16 hS ?_
      refine tk 17 hS ?_
      refine tk 18 hS ?_
      refine tk 19 hS ?_
      refine tk 20 hS ?_
      refine tk 21 hS ?_
      refine rdy [12, 25] (csy (fun K hK => ?_) (csy (fun K hK => ?_) AllReadyH.nil))
      ·skip
       go_simp
       refine (clone_int A m1 k 0 (ns.take 9) _ R1.out (by omega)).mono ?_
       rintro e w12 ⟨A12, c12, rfl, ho, hb⟩
       have hsz0 := hid (show Wd.heap.size ≤ w12.heap.size from hb.size)
       replace R1 := hid (R1.out.step hb); replace R2 := hid (R2.out.step hb); replace PX := hid (PX.out.step hb); replace HB0 := hid (below_then HB0.out hb)
       clear hb
       have O12 := hid (ho.mono (show W0.heap.size ≤ _ by have := hszd.out; omega)); have O12b := hid ho
       go_wp2_with fail
       clear hS
       refine ky hK ⟨PX.out.cells8.1, PX.out.cells8.2.1, PX.out.cells8.2.2.1⟩ fun hS => ?_
       clear hK K
       refine rdy [22, 25] (csy (fun K hK => ?_) (csy (fun K hK => ?_) AllReadyH.nil))
       ·skip
        go_simp
        refine (clone_int B m2 d 0 (os.take 9) _ R2.out (by omega)).mono ?_
        rintro e w22 ⟨B22, c22, rfl, ho, hb⟩
        have hsz1 := hid (show w12.heap.size ≤ w22.heap.size from hb.size)
        replace R1 := hid (R1.out.step hb); replace R2 := hid (R2.out.step hb); replace PX := hid (PX.out.step hb); replace O12 := hid (O12.out.step hb); replace HB0 := hid (below_then HB0.out hb)
        clear hb
        have O22 := hid (ho.mono (show W0.heap.size ≤ _ by have := hszd.out; have := hsz0.out; omega))
        have HAP := hid (show ∀ a b, A12 = some a → B22 = some b → a.block ≠ b.block from fun a b h1 h2 e => by have := (ho.blk b h2).1; obtain ⟨_, cs, q⟩ := O12b.out.blk a h1; have := q.lt; have := hszd.out; have := hsz0.out; omega)
        go_wp2_with fail
        clear hS
        refine ky hK ⟨PX.out.cells8.1, PX.out.cells8.2.1, PX.out.cells8.2.2.1⟩ fun hS => ?_
        clear hK K
        refine tk 23 hS ?_
        refine tk 24 hS ?_
        refine rdy [25] (csy (fun K hK => ?_) AllReadyH.nil)
        go_simp
        refine named_alloc ?_
        intro Wa25 hbk hb hsz
        have hsz2 := hid hsz
        have HG3 := hid (show W0.heap.size ≤ w22.heap.size by have := hszd.out; have := hsz0.out; have := hsz1.out; have := hsz2.out; omega)
        replace R1 := hid (R1.out.step hb); replace R2 := hid (R2.out.step hb); replace PX := hid (PX.out.step hb); replace O12 := hid (O12.out.step hb); replace O22 := hid (O22.out.step hb); replace HB0 := hid (below_then HB0.out hb)
        have P3 := hid hbk
        clear hb hbk hsz
        clear hS
        refine ky hK ⟨PX.out.cells8.1, PX.out.cells8.2.1, PX.out.cells8.2.2.1⟩ fun hS => ?_
        clear hK K
        refine rdy [26] (csy (fun K hK => ?_) AllReadyH.nil)
        obtain ⟨y00, y01, y02, y03, y04, y05, y06, y07, yf0⟩ := P3.out.cells8
        go_simp
        clear y00 y01 y02 y03 y04 y05 y06 y07 yf0
        refine named_store_8_8_0 P3.out ?_
        intro Ws26 hbk hgr hsz
        have hsz3 := hid hsz
        clear hsz
        replace O12 := hid (O12.out.keptR P3.out (by decide) hgr); replace O22 := hid (O22.out.keptR P3.out (by decide) hgr)
        replace HB0 := hid (HB0.out.grown hgr HB0.out.size (fun r e => by cases e; exact HG3.out)); replace PX := hid (PX.out.grown hgr (by have := HG3.out; have := hz0.out; simp; omega))
        replace P3 := hid hbk
        clear hbk hgr
        clear hS
        refine ky hK ⟨PX.out.cells8.1, PX.out.cells8.2.1, PX.out.cells8.2.2.1⟩ fun hS => ?_
        clear hK K
        refine wpAnyH_done (by kernel_rfl) ?_ _
        refine NoPanic.normal ?_
        clear hS
        go_wp2_with fail
        go_meet
        exact ⟨_, _, _, _, _, rfl, HG3.out, P3.out, ⟨O12.out, O22.out, fun ga gb h1 h2 => HAP.out _ _ h1 h2, by omega, by omega⟩, HB0.out⟩
       ·skip
        go_simp
        refine named_alloc ?_
        intro Wa25 hbk hb hsz
        have hsz1 := hid hsz
        have HG3 := hid (show W0.heap.size ≤ w12.heap.size by have := hszd.out; have := hsz0.out; have := hsz1.out; omega)
        replace R1 := hid (R1.out.step hb); replace R2 := hid (R2.out.step hb); replace PX := hid (PX.out.step hb); replace O12 := hid (O12.out.step hb); replace HB0 := hid (below_then HB0.out hb)
        have P3 := hid hbk
        clear hb hbk hsz
        clear hS
        refine ky hK ⟨PX.out.cells8.1, PX.out.cells8.2.1, PX.out.cells8.2.2.1⟩ fun hS => ?_
        clear hK K
        refine rdy [22] (csy (fun K hK => ?_) AllReadyH.nil)
        go_simp
        refine (clone_int B m2 d 0 (os.take 9) _ R2.out (by omega)).mono ?_
        rintro e w22 ⟨B22, c22, rfl, ho, hb⟩
        have hsz2 := hid (show Wa25.heap.size ≤ w22.heap.size from hb.size)
        replace R1 := hid (R1.out.step hb); replace R2 := hid (R2.out.step hb); replace PX := hid (PX.out.step hb); replace O12 := hid (O12.out.step hb); replace P3 := hid (P3.out.step hb); replace HB0 := hid (below_then HB0.out hb)
        clear hb
        have O22 := hid (ho.mono (show W0.heap.size ≤ _ by have := hszd.out; have := hsz0.out; have := hsz1.out; omega))
        have HAP := hid (show ∀ a b, A12 = some a → B22 = some b → a.block ≠ b.block from fun a b h1 h2 e => by have := (ho.blk b h2).1; obtain ⟨_, cs, q⟩ := O12b.out.blk a h1; have := q.lt; have := hszd.out; have := hsz0.out; have := hsz1.out; omega)
        go_wp2_with fail
        clear hS
        refine ky hK ⟨PX.out.cells8.1, PX.out.cells8.2.1, PX.out.cells8.2.2.1⟩ fun hS => ?_
        clear hK K
        refine tk 23 hS ?_
        refine tk 24 hS ?_
        refine rdy [26] (csy (fun K hK => ?_) AllReadyH.nil)
        obtain ⟨y00, y01, y02, y03, y04, y05, y06, y07, yf0⟩ := P3.out.cells8
        go_simp
        clear y00 y01 y02 y03 y04 y05 y06 y07 yf0
        refine named_store_8_8_0 P3.out ?_
        intro Ws26 hbk hgr hsz
        have hsz3 := hid hsz
        clear hsz
        replace O12 := hid (O12.out.keptR P3.out (by decide) hgr); replace O22 := hid (O22.out.keptR P3.out (by decide) hgr)
        replace HB0 := hid (HB0.out.grown hgr HB0.out.size (fun r e => by cases e; exact HG3.out)); replace PX := hid (PX.out.grown hgr (by have := HG3.out; have := hz0.out; simp; omega))
        replace P3 := hid hbk
        clear hbk hgr
        clear hS
        refine ky hK ⟨PX.out.cells8.1, PX.out.cells8.2.1, PX.out.cells8.2.2.1⟩ fun hS => ?_
        clear hK K
        refine wpAnyH_done (by kernel_rfl) ?_ _
        refine NoPanic.normal ?_
        clear hS
        go_wp2_with fail
        go_meet
        exact ⟨_, _, _, _, _, rfl, HG3.out, P3.out, ⟨O12.out, O22.out, fun ga gb h1 h2 => HAP.out _ _ h1 h2, by omega, by omega⟩, HB0.out⟩
      ·skip
       go_simp
       refine named_alloc ?_
       intro Wa25 hbk hb hsz
       have hsz0 := hid hsz
       have HG3 := hid (show W0.heap.size ≤ Wd.heap.size by have := hszd.out; have := hsz0.out; omega)
       replace R1 := hid (R1.out.step hb); replace R2 := hid (R2.out.step hb); replace PX := hid (PX.out.step hb); replace HB0 := hid (below_then HB0.out hb)
       have P3 := hid hbk
       clear hb hbk hsz
       clear hS
       refine ky hK ⟨PX.out.cells8.1, PX.out.cells8.2.1, PX.out.cells8.2.2.1⟩ fun hS => ?_
       clear hK K
       refine rdy [12] (csy (fun K hK => ?_) AllReadyH.nil)
       go_simp
       refine (clone_int A m1 k 0 (ns.take 9) _ R1.out (by omega)).mono ?_
       rintro e w12 ⟨A12, c12, rfl, ho, hb⟩
       have hsz1 := hid (show Wa25.heap.size ≤ w12.heap.size from hb.size)
       replace R1 := hid (R1.out.step hb); replace R2 := hid (R2.out.step hb); replace PX := hid (PX.out.step hb); replace P3 := hid (P3.out.step hb); replace HB0 := hid (below_then HB0.out hb)
       clear hb
       have O12 := hid (ho.mono (show W0.heap.size ≤ _ by have := hszd.out; have := hsz0.out; omega)); have O12b := hid ho
       go_wp2_with fail
       clear hS
       refine ky hK ⟨PX.out.cells8.1, PX.out.cells8.2.1, PX.out.cells8.2.2.1⟩ fun hS => ?_
       clear hK K
       refine rdy [22] (csy (fun K hK => ?_) AllReadyH.nil)
       go_simp
       refine (clone_int B m2 d 0 (os.take 9) _ R2.out (by omega)).mono ?_
       rintro e w22 ⟨B22, c22, rfl, ho, hb⟩
       have hsz2 := hid (show w12.heap.size ≤ w22.heap.size from hb.size)
       replace R1 := hid (R1.out.step hb); replace R2 := hid (R2.out.step hb); replace PX := hid (PX.out.step hb); replace P3 := hid (P3.out.step hb); replace O12 := hid (O12.out.step hb); replace HB0 := hid (below_then HB0.out hb)
       clear hb
       have O22 := hid (ho.mono (show W0.heap.size ≤ _ by have := hszd.out; have := hsz0.out; have := hsz1.out; omega))
       have HAP := hid (show ∀ a b, A12 = some a → B22 = some b → a.block ≠ b.block from fun a b h1 h2 e => by have := (ho.blk b h2).1; obtain ⟨_, cs, q⟩ := O12b.out.blk a h1; have := q.lt; have := hszd.out; have := hsz0.out; have := hsz1.out; omega)
       go_wp2_with fail
       clear hS
       refine ky hK ⟨PX.out.cells8.1, PX.out.cells8.2.1, PX.out.cells8.2.2.1⟩ fun hS => ?_
       clear hK K
       refine tk 23 hS ?_
       refine tk 24 hS ?_
       refine rdy [26] (csy (fun K hK => ?_) AllReadyH.nil)
       obtain ⟨y00, y01, y02, y03, y04, y05, y06, y07, yf0⟩ := P3.out.cells8
       go_simp
       clear y00 y01 y02 y03 y04 y05 y06 y07 yf0
       refine named_store_8_8_0 P3.out ?_
       intro Ws26 hbk hgr hsz
       have hsz3 := hid hsz
       clear hsz
       replace O12 := hid (O12.out.keptR P3.out (by decide) hgr); replace O22 := hid (O22.out.keptR P3.out (by decide) hgr)
       replace HB0 := hid (HB0.out.grown hgr HB0.out.size (fun r e => by cases e; exact HG3.out)); replace PX := hid (PX.out.grown hgr (by have := HG3.out; have := hz0.out; simp; omega))
       replace P3 := hid hbk
       clear hbk hgr
       clear hS
       refine ky hK ⟨PX.out.cells8.1, PX.out.cells8.2.1, PX.out.cells8.2.2.1⟩ fun hS => ?_
       clear hK K
       refine wpAnyH_done (by kernel_rfl) ?_ _
       refine NoPanic.normal ?_
       clear hS
       go_wp2_with fail
       go_meet
       exact ⟨_, _, _, _, _, rfl, HG3.out, P3.out, ⟨O12.out, O22.out, fun ga gb h1 h2 => HAP.out _ _ h1 h2, by omega, by omega⟩, HB0.out⟩
  case rest =>
    obtain ⟨g3, A1, c1, B1, d1, rfl, h1, h2, h3, h4⟩ := hcut
    rename World => W1
    have XPX := PX; have XPZ := PZ; have XHB := HB
    have HG3 := hid h1; have P3 := hid h2; have RO := hid h3; have HQ := hid h4
    clear h1 h2 h3 h4 HB0 PX PZ HB R1 R2 e11 e12 e13 e14 e21 e22 e23 e24
    have PXa := hid (XPX.out.below HQ.out XPX.out.lt)
    have P30 := P3
    obtain ⟨y00, y01, y02, y03, y04, y05, y06, y07, yf0⟩ := PXa.out.cells8
    obtain ⟨y10, y11, y12, y13, y14, y15, y16, y17, yf1⟩ := P3.out.cells8
    go_upto_region 3 with fail
    clear PXa y00 y01 y02 y03 y04 y05 y06 y07 yf0 y10 y11 y12 y13 y14 y15 y16 y17 yf1
    have hbk0 : Blk (W1.setCell ⟨g3, 3, none⟩ (.int .i64 g.dn)) (g3) 30 #[.int .i64 now, .slice A1 m1 c1, .slice B1 m2 d1, .int .i64 g.dn, .int .i64 0, .bool false, .slice none 0 0, .slice none 0 0] := P3.out.setCell 3 (.int .i64 g.dn)
    have hbk1 : Blk ((W1.setCell ⟨g3, 3, none⟩ (.int .i64 g.dn)).setCell ⟨g3, 4, none⟩ (.int .i64 g.ak)) (g3) 30 #[.int .i64 now, .slice A1 m1 c1, .slice B1 m2 d1, .int .i64 g.dn, .int .i64 g.ak, .bool false, .slice none 0 0, .slice none 0 0] := hbk0.setCell 4 (.int .i64 g.ak)
    have hbk2 : Blk (((W1.setCell ⟨g3, 3, none⟩ (.int .i64 g.dn)).setCell ⟨g3, 4, none⟩ (.int .i64 g.ak)).setCell ⟨g3, 5, none⟩ (.bool g.on)) (g3) 30 #[.int .i64 now, .slice A1 m1 c1, .slice B1 m2 d1, .int .i64 g.dn, .int .i64 g.ak, .bool g.on, .slice none 0 0, .slice none 0 0] := hbk1.setCell 5 (.bool g.on)
    have hbk3 : Blk ((((W1.setCell ⟨g3, 3, none⟩ (.int .i64 g.dn)).setCell ⟨g3, 4, none⟩ (.int .i64 g.ak)).setCell ⟨g3, 5, none⟩ (.bool g.on)).setCell ⟨g3, 6, none⟩ (.slice D g.nd.length kd)) (g3) 30 #[.int .i64 now, .slice A1 m1 c1, .slice B1 m2 d1, .int .i64 g.dn, .int .i64 g.ak, .bool g.on, .slice D g.nd.length kd, .slice none 0 0] := hbk2.setCell 6 (.slice D g.nd.length kd)
    have hgr : W1.grownBy ((((W1.setCell ⟨g3, 3, none⟩ (.int .i64 g.dn)).setCell ⟨g3, 4, none⟩ (.int .i64 g.ak)).setCell ⟨g3, 5, none⟩ (.bool g.on)).setCell ⟨g3, 6, none⟩ (.slice D g.nd.length kd)) (some (g3)) := (grown_set (grown_set (grown_set (grown_set (World.grownBy.refl W1 (some (g3))) 3 (.int .i64 g.dn)) 4 (.int .i64 g.ak)) 5 (.bool g.on)) 6 (.slice D g.nd.length kd))
    replace P3 := hid hbk3
    clear hbk0 hbk1 hbk2 hbk3
    generalize (((W1.setCell ⟨g3, 3, none⟩ (.int .i64 g.dn)).setCell ⟨g3, 4, none⟩ (.int .i64 g.ak)).setCell ⟨g3, 5, none⟩ (.bool g.on)).setCell ⟨g3, 6, none⟩ (.slice D g.nd.length kd) = W2 at *
    replace RO := hid (RO.out.keptR P30.out (by decide) hgr)
    replace HQ := hid (HQ.out.grown hgr HQ.out.size (fun r e => by cases e; exact HG3.out))
    clear hgr P30
    have PXa := hid (XPX.out.below HQ.out XPX.out.lt)
    obtain ⟨y00, y01, y02, y03, y04, y05, y06, y07, yf0⟩ := PXa.out.cells8
    go_wp2_with fail
    clear PXa e31 e32 e33 e34 y00 y01 y02 y03 y04 y05 y06 y07 yf0
    refine (clone_bool D m3 kd 0 (g.nd.take 9) W2 ((R3.out.below HQ.out (Nat.le_refl _)).mono (Nat.le_refl _) HQ.out.size) (by omega)).mono ?_
    rintro e W3 ⟨A7, c7, rfl, ho, hb⟩
    have DO := hid (ho.mono HQ.out.size)
    replace P3 := hid (P3.out.step hb); replace RO := hid (RO.out.step hb); replace HQ := hid (below_then HQ.out hb)
    clear ho hb R3
    have PXa := hid (XPX.out.below HQ.out XPX.out.lt)
    have P30 := P3
    obtain ⟨y00, y01, y02, y03, y04, y05, y06, y07, yf0⟩ := PXa.out.cells8
    obtain ⟨y10, y11, y12, y13, y14, y15, y16, y17, yf1⟩ := P3.out.cells8
    go_upto_region 4 with fail
    clear PXa y00 y01 y02 y03 y04 y05 y06 y07 yf0 y10 y11 y12 y13 y14 y15 y16 y17 yf1
    have hbk0 : Blk (W3.setCell ⟨g3, 6, none⟩ (.slice A7 m3 c7)) (g3) 30 #[.int .i64 now, .slice A1 m1 c1, .slice B1 m2 d1, .int .i64 g.dn, .int .i64 g.ak, .bool g.on, .slice A7 m3 c7, .slice none 0 0] := P3.out.setCell 6 (.slice A7 m3 c7)
    have hgr : W3.grownBy (W3.setCell ⟨g3, 6, none⟩ (.slice A7 m3 c7)) (some (g3)) := (grown_set (World.grownBy.refl W3 (some (g3))) 6 (.slice A7 m3 c7))
    replace P3 := hid hbk0
    clear hbk0
    generalize W3.setCell ⟨g3, 6, none⟩ (.slice A7 m3 c7) = W4 at *
    replace RO := hid (RO.out.keptR P30.out (by decide) hgr); replace DO := hid (DO.out.keptR P30.out (by decide) hgr)
    replace HQ := hid (HQ.out.grown hgr HQ.out.size (fun r e => by cases e; exact HG3.out))
    clear hgr P30
    have PXa := hid (XPX.out.below HQ.out XPX.out.lt)
    obtain ⟨y00, y01, y02, y03, y04, y05, y06, y07, yf0⟩ := PXa.out.cells8
    go_wp2_with fail
    clear PXa e41 e42 e43 e44 y00 y01 y02 y03 y04 y05 y06 y07 yf0
    go_loopw [5, 54] (fun _ i wr => ∃ (j : Nat) (Qo : Option Addr) (cq : Nat) (ej : List Qe), j ≤ m4 ∧ i = .int .i64 j ∧ Below W0.heap.size W0 wr ∧ Blk wr g3 30 #[.int .i64 now, .slice A1 m1 c1, .slice B1 m2 d1, .int .i64 g.dn, .int .i64 g.ak, .bool g.on, .slice A7 m3 c7, .slice Qo j cq] ∧ RcT wr W0.heap.size (cutS (now, ns, os)) (cutG g) ej ⟨A1, m1, c1, B1, m2, d1, A7, c7, Qo, j, cq⟩ ∧ ql ej = ((es.take 9).take j).map (fun x => (x.l.take 18, x.o))) (fun _ i _ => m4 - (intOf i).toNat)
    case atStart => exact ⟨0, none, 0, [], Nat.zero_le _, rfl, HQ.out, P3.out, ⟨RO.out, (show Ow blv _ _ _ A7 (g.nd.take 9).length c7 (g.nd.take 9) by rw [← hl3.out]; exact DO.out), Om.nil _ _ _, fun _ h => (by cases h)⟩, rfl⟩
    case round =>
      clear HQ P3 RO DO
      obtain ⟨j, Qo, cq, ej, hj, rfl, h1, h2, h3, h4⟩ := hrel
      have HQ := hid h1; have P3 := hid h2; have RT := hid h3; have HQL := hid h4
      clear h1 h2 h3 h4
      by_cases hjn : j < m4
      rotate_left
      ·skip
       obtain rfl : j = m4 := by omega
       have hnn : ¬ ((j : Int) < (j : Int)) := by omega
       have HQ2 := hid (show ql ej = cutQ es by rw [HQL.out, List.take_of_length_le (by rw [R4.out.len]; exact Nat.le_refl _)]; rfl)
       have HW := hid (show w.heap.size ≤ W0.heap.size by have := hz0.out; omega)
       have HB := hid (below_then XHB.out HQ.out)
       have PZ := hid (XPZ.out.below HQ.out XPZ.out.lt)
       clear HQL
       obtain ⟨y00, y01, y02, y03, y04, y05, y06, y07, yf0⟩ := P3.out.cells8
       obtain ⟨y10, y11, y12, y13, y14, y15, y16, y17, yf1⟩ := PZ.out.cells8
       go_wp2_with fail
       clear y00 y01 y02 y03 y04 y05 y06 y07 yf0 y10 y11 y12 y13 y14 y15 y16 y17 yf1
       have PZ0 := PZ
       have hbk0 : Blk (wr.setCell ⟨w.heap.size + 1, 0, none⟩ (.int .i64 now)) (w.heap.size + 1) 30 #[.int .i64 now, .slice none 0 0, .slice none 0 0, .int .i64 0, .int .i64 0, .bool false, .slice none 0 0, .slice none 0 0] := PZ.out.setCell 0 (.int .i64 now)
       have hbk1 : Blk ((wr.setCell ⟨w.heap.size + 1, 0, none⟩ (.int .i64 now)).setCell ⟨w.heap.size + 1, 1, none⟩ (.slice A1 m1 c1)) (w.heap.size + 1) 30 #[.int .i64 now, .slice A1 m1 c1, .slice none 0 0, .int .i64 0, .int .i64 0, .bool false, .slice none 0 0, .slice none 0 0] := hbk0.setCell 1 (.slice A1 m1 c1)
       have hbk2 : Blk (((wr.setCell ⟨w.heap.size + 1, 0, none⟩ (.int .i64 now)).setCell ⟨w.heap.size + 1, 1, none⟩ (.slice A1 m1 c1)).setCell ⟨w.heap.size + 1, 2, none⟩ (.slice B1 m2 d1)) (w.heap.size + 1) 30 #[.int .i64 now, .slice A1 m1 c1, .slice B1 m2 d1, .int .i64 0, .int .i64 0, .bool false, .slice none 0 0, .slice none 0 0] := hbk1.setCell 2 (.slice B1 m2 d1)
       have hbk3 : Blk ((((wr.setCell ⟨w.heap.size + 1, 0, none⟩ (.int .i64 now)).setCell ⟨w.heap.size + 1, 1, none⟩ (.slice A1 m1 c1)).setCell ⟨w.heap.size + 1, 2, none⟩ (.slice B1 m2 d1)).setCell ⟨w.heap.size + 1, 3, none⟩ (.int .i64 g.dn)) (w.heap.size + 1) 30 #[.int .i64 now, .slice A1 m1 c1, .slice B1 m2 d1, .int .i64 g.dn, .int .i64 0, .bool false, .slice none 0 0, .slice none 0 0] := hbk2.setCell 3 (.int .i64 g.dn)
       have hbk4 : Blk (((((wr.setCell ⟨w.heap.size + 1, 0, none⟩ (.int .i64 now)).setCell ⟨w.heap.size + 1, 1, none⟩ (.slice A1 m1 c1)).setCell ⟨w.heap.size + 1, 2, none⟩ (.slice B1 m2 d1)).setCell ⟨w.heap.size + 1, 3, none⟩ (.int .i64 g.dn)).setCell ⟨w.heap.size + 1, 4, none⟩ (.int .i64 g.ak)) (w.heap.size + 1) 30 #[.int .i64 now, .slice A1 m1 c1, .slice B1 m2 d1, .int .i64 g.dn, .int .i64 g.ak, .bool false, .slice none 0 0, .slice none 0 0] := hbk3.setCell 4 (.int .i64 g.ak)
       have hbk5 : Blk ((((((wr.setCell ⟨w.heap.size + 1, 0, none⟩ (.int .i64 now)).setCell ⟨w.heap.size + 1, 1, none⟩ (.slice A1 m1 c1)).setCell ⟨w.heap.size + 1, 2, none⟩ (.slice B1 m2 d1)).setCell ⟨w.heap.size + 1, 3, none⟩ (.int .i64 g.dn)).setCell ⟨w.heap.size + 1, 4, none⟩ (.int .i64 g.ak)).setCell ⟨w.heap.size + 1, 5, none⟩ (.bool g.on)) (w.heap.size + 1) 30 #[.int .i64 now, .slice A1 m1 c1, .slice B1 m2 d1, .int .i64 g.dn, .int .i64 g.ak, .bool g.on, .slice none 0 0, .slice none 0 0] := hbk4.setCell 5 (.bool g.on)
       have hbk6 : Blk (((((((wr.setCell ⟨w.heap.size + 1, 0, none⟩ (.int .i64 now)).setCell ⟨w.heap.size + 1, 1, none⟩ (.slice A1 m1 c1)).setCell ⟨w.heap.size + 1, 2, none⟩ (.slice B1 m2 d1)).setCell ⟨w.heap.size + 1, 3, none⟩ (.int .i64 g.dn)).setCell ⟨w.heap.size + 1, 4, none⟩ (.int .i64 g.ak)).setCell ⟨w.heap.size + 1, 5, none⟩ (.bool g.on)).setCell ⟨w.heap.size + 1, 6, none⟩ (.slice A7 m3 c7)) (w.heap.size + 1) 30 #[.int .i64 now, .slice A1 m1 c1, .slice B1 m2 d1, .int .i64 g.dn, .int .i64 g.ak, .bool g.on, .slice A7 m3 c7, .slice none 0 0] := hbk5.setCell 6 (.slice A7 m3 c7)
       have hbk7 : Blk ((((((((wr.setCell ⟨w.heap.size + 1, 0, none⟩ (.int .i64 now)).setCell ⟨w.heap.size + 1, 1, none⟩ (.slice A1 m1 c1)).setCell ⟨w.heap.size + 1, 2, none⟩ (.slice B1 m2 d1)).setCell ⟨w.heap.size + 1, 3, none⟩ (.int .i64 g.dn)).setCell ⟨w.heap.size + 1, 4, none⟩ (.int .i64 g.ak)).setCell ⟨w.heap.size + 1, 5, none⟩ (.bool g.on)).setCell ⟨w.heap.size + 1, 6, none⟩ (.slice A7 m3 c7)).setCell ⟨w.heap.size + 1, 7, none⟩ (.slice Qo j cq)) (w.heap.size + 1) 30 #[.int .i64 now, .slice A1 m1 c1, .slice B1 m2 d1, .int .i64 g.dn, .int .i64 g.ak, .bool g.on, .slice A7 m3 c7, .slice Qo j cq] := hbk6.setCell 7 (.slice Qo j cq)
       have hgr : wr.grownBy ((((((((wr.setCell ⟨w.heap.size + 1, 0, none⟩ (.int .i64 now)).setCell ⟨w.heap.size + 1, 1, none⟩ (.slice A1 m1 c1)).setCell ⟨w.heap.size + 1, 2, none⟩ (.slice B1 m2 d1)).setCell ⟨w.heap.size + 1, 3, none⟩ (.int .i64 g.dn)).setCell ⟨w.heap.size + 1, 4, none⟩ (.int .i64 g.ak)).setCell ⟨w.heap.size + 1, 5, none⟩ (.bool g.on)).setCell ⟨w.heap.size + 1, 6, none⟩ (.slice A7 m3 c7)).setCell ⟨w.heap.size + 1, 7, none⟩ (.slice Qo j cq)) (some (w.heap.size + 1)) := (grown_set (grown_set (grown_set (grown_set (grown_set (grown_set (grown_set (grown_set (World.grownBy.refl wr (some (w.heap.size + 1))) 0 (.int .i64 now)) 1 (.slice A1 m1 c1)) 2 (.slice B1 m2 d1)) 3 (.int .i64 g.dn)) 4 (.int .i64 g.ak)) 5 (.bool g.on)) 6 (.slice A7 m3 c7)) 7 (.slice Qo j cq))
       replace PZ := hid hbk7
       clear hbk0 hbk1 hbk2 hbk3 hbk4 hbk5 hbk6 hbk7
       generalize (((((((wr.setCell ⟨w.heap.size + 1, 0, none⟩ (.int .i64 now)).setCell ⟨w.heap.size + 1, 1, none⟩ (.slice A1 m1 c1)).setCell ⟨w.heap.size + 1, 2, none⟩ (.slice B1 m2 d1)).setCell ⟨w.heap.size + 1, 3, none⟩ (.int .i64 g.dn)).setCell ⟨w.heap.size + 1, 4, none⟩ (.int .i64 g.ak)).setCell ⟨w.heap.size + 1, 5, none⟩ (.bool g.on)).setCell ⟨w.heap.size + 1, 6, none⟩ (.slice A7 m3 c7)).setCell ⟨w.heap.size + 1, 7, none⟩ (.slice Qo j cq) = W6 at *
       have HBf := hid (HB.out.grown hgr HB.out.size (fun r e => by cases e; omega))
       have RTf := hid (RT.out.keptR PZ0.out (by decide) (by decide) (by decide) (by decide) hgr)
       obtain ⟨y00, y01, y02, y03, y04, y05, y06, y07, yf0⟩ := PZ.out.cells8
       exact bodyPost_ret (v := rcv (cutS (now, ns, os)) (cutG g) ⟨A1, m1, c1, B1, m2, d1, A7, c7, Qo, j, cq⟩) (by simp [results, Tryz.results7, go_sem, cutS, cutG, hl3m.out, y00, y01, y02, y03, y04, y05, y06, y07]) rfl ⟨⟨A1, m1, c1, B1, m2, d1, A7, c7, Qo, j, cq⟩, ej, rfl, HQ2.out, ⟨RTf.out.ro.mono HW.out, RTf.out.gd.mono HW.out, RTf.out.qs.mono HW.out, fun x hx => ⟨(RTf.out.qe x hx).1.mono HW.out, (RTf.out.qe x hx).2⟩⟩, HBf.out⟩
      have hji : (j : Int) < (m4 : Int) := by omega
      obtain ⟨b, off, hbq, _, hbh, hc⟩ := (R4.out).row (by omega)
      obtain ⟨x, hx⟩ : ∃ x, x = (es.take 9)[j]?.getD zQe := ⟨_, rfl⟩
      have c0 := hc j hjn 0 (by omega)
      have c1' := hc j hjn 1 (by omega)
      rw [← hx] at c0 c1'
      have hlt : j < (es.take 9).length := by rw [R4.out.len]; exact hjn
      have HQE := hid (HI.out.qe x (by rw [hx, List.getElem?_eq_getElem hlt]; exact List.mem_of_mem_take (List.getElem_mem _)))
      have HXQ := hid (show ((es.take 9).take (j + 1)).map (fun x => (x.l.take 18, x.o)) = ((es.take 9).take j).map (fun x => (x.l.take 18, x.o)) ++ [(x.l.take 18, x.o)] by
        rw [List.take_succ_eq_append_getElem hlt, hx, List.getElem?_eq_getElem hlt]; simp)
      obtain ⟨xl, xo, xA, xn, xc⟩ := x
      have f0 : wr.cell? ⟨b, off + j * 2, none⟩ = some (.slice xA xn xc) := by rw [Nat.add_zero] at c0; exact (HQ.out.cell (p := ⟨b, off + j * 2, none⟩) (by show b < _; omega)).trans c0
      have f1 : wr.cell? ⟨b, off + j * 2 + 1, none⟩ = some (.int .u64 xo) := (HQ.out.cell (p := ⟨b, off + j * 2 + 1, none⟩) (by show b < _; omega)).trans c1'
      clear hc c0 c1' hx hbh
      subst hbq
      obtain ⟨m5, hm5, e51, e52, e53, e54, e55, _⟩ := min18 xn xc HQE.out.2.1
      have R5 := hid (show Sm 2 encC (0, 0) W0 0 W0.heap.size xA m5 (xl.take 18) by rw [hm5]; exact HQE.out.1.cut)
      clear hm5
      have HQB := hid (show ∀ a, Qo = some a → a.block < wr.heap.size from fun a ha => by obtain ⟨_, cs, q⟩ := RT.out.qs.blk a ha; exact q.lt)
      have bx := below_box wr (.cells #[.slice xA xn xc, .int .u64 xo] 58)
      replace P3 := hid (P3.out.step bx); replace RT := hid (RT.out.step bx); replace HQ := hid (below_then HQ.out bx)
      clear bx
      have PT := hid (Blk.new wr 58 #[.slice xA xn xc, .int .u64 xo])
      go_upto_region 7 with fail
      clear f0 f1
      have hzr := hid (show (wr.alloc (.cells #[.slice xA xn xc, .int .u64 xo] 58)).heap.size = wr.heap.size + 1 by simp)
      generalize wr.alloc (.cells #[.slice xA xn xc, .int .u64 xo] 58) = W7 at *
      have HVW := hid (show W0.heap.size ≤ wr.heap.size by have := hzr.out; have := P3.out.lt; have := HG3.out; omega)
      obtain ⟨i0, hi0, hz00, hz01, hz02⟩ := info_parts info_que
      have bx := (Below.refl W7.heap.size W7).drew
      replace P3 := hid (P3.out.step bx); replace RT := hid (RT.out.step bx); replace PT := hid (PT.out.step bx); replace HQ := hid (below_then HQ.out bx)
      clear bx
      have hszd := hid (show W7.drew.heap.size = W7.heap.size from rfl)
      refine wp_region_noPanic ?_
      refine wp_region_held_tail 15 (fun W' : World => W'.cell? ⟨g3, 7, none⟩ = some (.slice Qo j cq) ∧ W'.cell? ⟨wr.heap.size, 0, none⟩ = some (.slice xA xn xc) ∧ W'.cell? ⟨wr.heap.size, 1, none⟩ = some (.int .u64 xo)) #[false, false, false, false, false, false, false, false, false, false, false, false, false, false, false, false, false] (by kernel_rfl) ⟨P3.out.cells8.2.2.2.2.2.2.2.1, PT.out.cells2.1, PT.out.cells2.2.1⟩ (by kernel_rfl) (by kernel_rfl) (fun hS => ?_)
      generalize W7.drew = Wd at *
      refine tkT 0 hS ?_
      refine tkT 1 hS ?_
      refine tkT 2 hS ?_
      refine tkT 3 hS ?_
      refine tkT 4 hS ?_
      refine tkT 5 hS ?_
      refine tkT 6 hS ?_
      refine tkT 7 hS ?_
      refine tkT 8 hS ?_
      refine tkT 9 hS ?_
      refine tkT 10 hS ?_
      refine rdyT [11] (csyT (fun K hK => ?_) AllReadyT.nil)
      go_simp
      refine (clone_cb xA m5 xc 0 (xl.take 18) _ ((R5.out.below HQ.out (Nat.le_refl _)).mono (Nat.le_refl _) HQ.out.size) (by omega)).mono ?_
      rintro e w11 ⟨A11, c11, rfl, ho, hb⟩
      have hsz0 := hid (show Wd.heap.size ≤ w11.heap.size from hb.size)
      replace P3 := hid (P3.out.step hb); replace RT := hid (RT.out.step hb); replace PT := hid (PT.out.step hb); replace HQ := hid (below_then HQ.out hb)
      clear hb
      have O11 := hid (ho.mono (show W0.heap.size ≤ _ by have := HVW.out; have := hzr.out; have := hszd.out; omega))
      clear ho
      go_wp2_with fail
      clear hS
      refine kyT hK ⟨P3.out.cells8.2.2.2.2.2.2.2.1, PT.out.cells2.1, PT.out.cells2.2.1⟩ fun hS => ?_
      clear hK K
      refine tkT 12 hS ?_
      refine rdyT [13] (csyT (fun K hK => ?_) AllReadyT.nil)
      go_simp
      refine named_alloc ?_
      intro Wa13 hbk hb hsz
      have hsz1 := hid hsz
      replace P3 := hid (P3.out.step hb); replace RT := hid (RT.out.step hb); replace PT := hid (PT.out.step hb); replace O11 := hid (O11.out.step hb); replace HQ := hid (below_then HQ.out hb)
      have PL := hid hbk
      clear hb hbk hsz
      clear hS
      refine kyT hK ⟨P3.out.cells8.2.2.2.2.2.2.2.1, PT.out.cells2.1, PT.out.cells2.2.1⟩ fun hS => ?_
      clear hK K
      refine rdyT [14] (csyT (fun K hK => ?_) AllReadyT.nil)
      refine step_appm 2 encQ zQe _ rfl _ _ 28 rfl W0.heap.size 58 i0 _ 32 Tryz.underlying28 hi0 hz00 hz01 hz02 rfl (by omega) Qo j cq ej rfl RT.out.qs 0 _ (some ⟨w11.heap.size, 0, none⟩) 1 1 [⟨xl.take 18, xo, A11, m5, c11⟩] rfl (Sm.oneB PL.out (fun k hk => by match k, hk with | 0, _ => rfl | 1, _ => rfl)) encQ_one (by simp only [maxLen]; omega) (by omega) HQ.out.size ?_
      intro A9 c9 Wc9 hown hgr hat
      have RT9 := hid (show RcT Wc9 W0.heap.size (cutS (now, ns, os)) (cutG g) (ej ++ [⟨xl.take 18, xo, A11, m5, c11⟩]) ⟨A1, m1, c1, B1, m2, d1, A7, c7, A9, j + 1, c9⟩ from
        ⟨RT.out.ro.keptM' RT.out.qs (by decide) hgr, RT.out.gd.keptM RT.out.qs (by decide) hgr, hown, fun y hy => by
          rcases List.mem_append.1 hy with hy | hy
          · exact ⟨(RT.out.qe y hy).1.keptM RT.out.qs (by decide) hgr, (RT.out.qe y hy).2⟩
          · obtain rfl := List.mem_singleton.1 hy
            exact ⟨O11.out.keptM RT.out.qs (by decide) hgr, by show m5 ≤ 1000; omega⟩⟩)
      replace P3 := hid (P3.out.keptM RT.out.qs (by decide) hgr)
      replace PT := hid (PT.out.grown hgr (fun e => by obtain ⟨a, ha, hb⟩ := own_addr e.symm; have := HQB.out a ha; omega))
      replace HQ := hid (HQ.out.grown hgr HQ.out.size (fun r e => RT.out.qs.row_ge r e))
      clear hown hgr hat PL RT O11
      clear hS
      refine kyT hK ⟨P3.out.cells8.2.2.2.2.2.2.2.1, PT.out.cells2.1, PT.out.cells2.2.1⟩ fun hS => ?_
      clear hK K
      refine wpAnyT_done (by kernel_rfl) ?_
      simp only [List.drop_succ_cons, List.drop_zero]
      clear hS
      have P30 := P3
      obtain ⟨y00, y01, y02, y03, y04, y05, y06, y07, yf0⟩ := P3.out.cells8
      go_wp2_with fail
      refine NoPanic.normal ?_
      clear y00 y01 y02 y03 y04 y05 y06 y07 yf0
      have hbk0 : Blk (Wc9.setCell ⟨g3, 7, none⟩ (.slice A9 (j + 1) c9)) (g3) 30 #[.int .i64 now, .slice A1 m1 c1, .slice B1 m2 d1, .int .i64 g.dn, .int .i64 g.ak, .bool g.on, .slice A7 m3 c7, .slice A9 (j + 1) c9] := P3.out.setCell 7 (.slice A9 (j + 1) c9)
      have hgr : Wc9.grownBy (Wc9.setCell ⟨g3, 7, none⟩ (.slice A9 (j + 1) c9)) (some (g3)) := (grown_set (World.grownBy.refl Wc9 (some (g3))) 7 (.slice A9 (j + 1) c9))
      replace P3 := hid hbk0
      clear hbk0
      generalize Wc9.setCell ⟨g3, 7, none⟩ (.slice A9 (j + 1) c9) = Wn at *
      have RTn := hid (RT9.out.keptR P30.out (by decide) (by decide) (by decide) (by decide) hgr)
      replace HQ := hid (HQ.out.grown hgr HQ.out.size (fun r e => by cases e; exact HG3.out))
      clear hgr RT9 P30
      have hw1 : IntKind.i64.wrap ((j : Int) + 1) = (j : Int) + 1 := by rw [IntKind.wrap_i64]; omega
      go_wp2_with fail
      go_roundw
      case rel => exact ⟨j + 1, A9, c9, _, by omega, by go_num, HQ.out, P3.out, RTn.out, by rw [HXQ.out, ← HQL.out]; simp [ql]⟩
      case measure => simp [intOf]; omega
end Go.Proofs.YtfipdoofgbjbjaaGreat

/- package rcu: Settle, from what its closure does; where a section is open. No condition but sizes, and that numbers are of their kinds. -/
namespace Go.Proofs.YtfipdoofgbjbjaaGreat
open Go.RowKit
attribute [local go_sem] Oper.semAt_some
theorem CA.rcrg {w : World} {l gc : Nat} {s : St} {g : Gr} {es : List Qe} {is what : Int} {ran : List Int} {a : Ra} {R : Option Addr} {nr kr : Nat} (h : CA w l gc s g es is what ran a R nr kr) (hg : RcGood s g (ql es)) : RcR w s g es a := by
  have h1 := hg.1.2.1.small
  have h2 := hg.1.2.1.2.1
  have h3 := hg.1.2.1.2.2.2.2.2.1
  have h4 := hg.2.1
  rw [ql_len, h.qs.len] at h4
  exact h.rcr (by omega) (by omega) (by omega)
set_option maxRecDepth 100000 in
set_option maxHeartbeats 4000000 in
theorem rsettle_from (s : St) (g : Gr) (es : List Qe) (a : Ra) (w : World) (r : Int × St × Gr × Qs × List Int) (h : RcR w s g es a) (hz : r.1 ≠ 0 → r.2 = ((0, [], []), zGr, [], [])) (hno : ¬ RcOk s g es → r = (240, (0, [], []), zGr, [], []))
    (hyes : RcOk s g es → ∀ (l gc : Nat) (es1 : List Qe) (a1 : Ra) (W : World), CA W l gc s g es1 0 0 [] a1 none 0 0 → RcGood s g (ql es1) → ql es1 = ql es →
      Calls Tryz.prog 45 #[ptr gc] W fun x w' => GrownP (fun i => l ≤ i) W w' ∧ ((x = .returned (.tuple #[]) ∧ RYes r l gc w') ∨ ∃ c, x = leaves c ∧ RNo r c w')) :
    Calls Tryz.prog 16 #[rcv s g a] w (RnPost w r) := by
  have HR := hid h; have HB := hid (Below.refl w.heap.size w); have HZR := hid hz; have HNO := hid hno; have HYES := hid hyes
  clear h hz hno hyes
  have bx := below_box w (.cells (rcells s g a) 30)
  replace HR := hid (HR.out.step bx); replace HB := hid (below_then HB.out bx)
  clear bx
  have PR := hid (Blk.new w 30 (rcells s g a))
  have bx := below_box (w.alloc (.cells (rcells s g a) 30)) (.cells #[.int .i64 0, .slice none 0 0, .slice none 0 0, .int .i64 0, .int .i64 0, .bool false, .slice none 0 0, .slice none 0 0] 30)
  replace HR := hid (HR.out.step bx); replace PR := hid (PR.out.step bx); replace HB := hid (below_then HB.out bx)
  clear bx
  have ZR := hid (Blk.new2 w 30 #[.int .i64 0, .slice none 0 0, .slice none 0 0, .int .i64 0, .int .i64 0, .bool false, .slice none 0 0, .slice none 0 0] (.cells (rcells s g a) 30))
  go_enter Tryz.func16, Tryz.ntmps16
  obtain ⟨y00, y01, y02, y03, y04, y05, y06, y07, yf0⟩ := PR.out.cells8
  go_wp2_with fail
  clear y00 y01 y02 y03 y04 y05 y06 y07 yf0
  have hz0 := hid (show ((w.alloc (.cells (rcells s g a) 30)).alloc (.cells #[.int .i64 0, .slice none 0 0, .slice none 0 0, .int .i64 0, .int .i64 0, .bool false, .slice none 0 0, .slice none 0 0] 30)).heap.size = w.heap.size + 2 by simp)
  generalize (w.alloc (.cells (rcells s g a) 30)).alloc (.cells #[.int .i64 0, .slice none 0 0, .slice none 0 0, .int .i64 0, .int .i64 0, .bool false, .slice none 0 0, .slice none 0 0] 30) = w1 at *
  refine (rtries_any s g es a 45 #[] (fun _ => False) (RYes r) (RNo r) w1 (fun _ h => h.elim) HR.out (enters_of Tryz.func45 (by kernel_rfl) rfl) ?_ ?_ ?_ ?_).mono ?_
  ·intro hn W _
   rw [HNO.out hn]
   exact ⟨by decide, rfl⟩
  ·intro hok W l gc a1 es1 hl hgc hbW hbc hrt hql
   obtain ⟨hca, hgd⟩ := tries_ca (rcOk_iff.1 hok) hbc hrt hgc hql
   refine (HYES.out hok l gc es1 a1 W hca hgd hql).mono ?_
   rintro x w2 ⟨hg2, hx⟩
   exact ⟨hg2.mono (fun i hi => .inr hi), hx⟩
  ·rintro l gb W p u ⟨hc, hba⟩ h1 h2
   exact ⟨hc, hba.setCell h2 u⟩
  ·exact fun c W W' h _ => h
  intro x w2 hx
  obtain ⟨gp, rfl, hb2, hra⟩ := triedR HZR.out hx
  clear hx
  have HRA := hid hra; have HRL := hid (show w1.heap.size ≤ gp by obtain ⟨_, _, _, _, _, _, _, _, h2⟩ := hra; exact h2.lg)
  clear hra HR PR
  replace ZR := hid (ZR.out.step hb2); replace HB := hid (below_then HB.out hb2)
  clear hb2 HZR HNO HYES
  obtain ⟨rc, ⟨rnow, rns, ros⟩, rg, rqs, ran⟩ := r
  dsimp only at HRA ⊢
  obtain ⟨b, es2, is, what, R, nr, kr, hq2, hca⟩ := HRA.out
  have HQ2 := hid hq2; have HX := hid hca.cx; have PC := hid hca.box
  clear hq2 hca HRA
  go_upto_region 2 with fail
  have HLZ := hid (show w.heap.size + 1 < w1.heap.size by have := hz0.out; omega)
  have hne := hid (show gp ≠ w.heap.size + 1 by have := HLZ.out; have := HRL.out; omega)
  have bx := (Below.refl w2.heap.size w2).drew
  replace ZR := hid (ZR.out.step bx); replace PC := hid (PC.out.step bx); replace HX := hid (HX.out.step bx); replace HB := hid (below_then HB.out bx)
  clear bx
  have hszd := hid (show w2.drew.heap.size = w2.heap.size from rfl)
  refine wp_region_noPanic ?_
  refine wp_region_held_drew (S := (fun W' : World => W'.cell? ⟨gp, 0, none⟩ = some (.int .i64 rnow) ∧ W'.cell? ⟨gp, 1, none⟩ = some (.slice b.A b.n b.k) ∧ W'.cell? ⟨gp, 2, none⟩ = some (.slice b.B b.m b.d) ∧ W'.cell? ⟨gp, 3, none⟩ = some (.int .i64 rg.dn) ∧ W'.cell? ⟨gp, 4, none⟩ = some (.int .i64 rg.ak) ∧ W'.cell? ⟨gp, 5, none⟩ = some (.bool rg.on) ∧ W'.cell? ⟨gp, 6, none⟩ = some (.slice b.D rg.nd.length b.kd) ∧ W'.cell? ⟨gp, 7, none⟩ = some (.slice b.Q b.nq b.kq) ∧ W'.cell? ⟨gp, 8, none⟩ = some (.int .i64 is) ∧ W'.cell? ⟨gp, 9, none⟩ = some (.int .u64 what) ∧ W'.cell? ⟨gp, 10, none⟩ = some (.slice R nr kr))) (by kernel_rfl) ⟨PC.out.cells11.1, PC.out.cells11.2.1, PC.out.cells11.2.2.1, PC.out.cells11.2.2.2.1, PC.out.cells11.2.2.2.2.1, PC.out.cells11.2.2.2.2.2.1, PC.out.cells11.2.2.2.2.2.2.1, PC.out.cells11.2.2.2.2.2.2.2.1, PC.out.cells11.2.2.2.2.2.2.2.2.1, PC.out.cells11.2.2.2.2.2.2.2.2.2.1, PC.out.cells11.2.2.2.2.2.2.2.2.2.2.1⟩ (fun hS => ?_)
  generalize w2.drew = Wd at *
  refine tk 0 hS ?_
  refine tk 1 hS ?_
  refine tk 2 hS ?_
  refine tk 3 hS ?_
  refine tk 4 hS ?_
  refine tk 5 hS ?_
  refine tk 6 hS ?_
  refine tk 7 hS ?_
  refine tk 8 hS ?_
  refine rdy [9] (csy (fun K hK => ?_) AllReadyH.nil)
  obtain ⟨y00, y01, y02, y03, y04, y05, y06, y07, yf0⟩ := ZR.out.cells8
  go_simp
  clear y00 y01 y02 y03 y04 y05 y06 y07 yf0
  refine named_store_8_8_0 ZR.out ?_
  intro Ws9 hbk hgr hsz
  have hsz0 := hid hsz
  clear hsz
  replace PC := hid (PC.out.grown hgr (by have := hne.out; simp; omega)); replace HX := hid (HX.out.low HLZ.out hgr)
  replace HB := hid (HB.out.grown hgr HB.out.size (fun r e => by cases e; omega))
  replace ZR := hid hbk
  clear hbk hgr
  clear hS
  refine ky hK ⟨PC.out.cells11.1, PC.out.cells11.2.1, PC.out.cells11.2.2.1, PC.out.cells11.2.2.2.1, PC.out.cells11.2.2.2.2.1, PC.out.cells11.2.2.2.2.2.1, PC.out.cells11.2.2.2.2.2.2.1, PC.out.cells11.2.2.2.2.2.2.2.1, PC.out.cells11.2.2.2.2.2.2.2.2.1, PC.out.cells11.2.2.2.2.2.2.2.2.2.1, PC.out.cells11.2.2.2.2.2.2.2.2.2.2.1⟩ fun hS => ?_
  clear hK K
  refine tk 10 hS ?_
  refine tk 11 hS ?_
  refine wpAnyH_done (by kernel_rfl) ?_ _
  refine NoPanic.normal ?_
  clear hS
  go_wp2
  obtain ⟨y00, y01, y02, y03, y04, y05, y06, y07, yf0⟩ := ZR.out.cells8
  refine bodyPost_ret (v := .tuple #[rcv (rnow, rns, ros) rg b, .slice R nr kr, .int .i64 rc]) (by simp [results, Tryz.results16, go_sem, y00, y01, y02, y03, y04, y05, y06, y07]) rfl ⟨b, R, nr, kr, rfl, ⟨es2, gp, HQ2.out, HX.out.mono (by have := HLZ.out; omega)⟩, HB.out⟩
set_option maxRecDepth 100000 in
set_option maxHeartbeats 4000000 in
theorem rsettle1_open (l gc : Nat) (s : St) (g : Gr) (es : List Qe) (a : Ra) (w : World) (h : CA w l gc s g es 0 0 [] a none 0 0) (hg : RcGood s g (ql es)) (hq : quietB s = false) :
    Calls Tryz.prog 45 #[ptr gc] w fun x w' => x = leaves 241 ∧ Below w.heap.size w w' := by
  have HC := hid h; have HR := hid (h.rcrg hg); have HQ := hid hq; have HB := hid (Below.refl w.heap.size w)
  clear h hg hq
  have bx := below_box w (.cells #[ptr gc] 72)
  replace HC := hid (HC.out.step bx); replace HR := hid (HR.out.step bx); replace HB := hid (below_then HB.out bx)
  clear bx
  have PB := hid (Blk.new w 72 #[ptr gc])
  go_enter Tryz.func45, Tryz.ntmps45
  obtain ⟨y0, y1, y2, y3, y4, y5, y6, y7, y8, y9, y10, yf⟩ := HC.out.box.cells11
  obtain ⟨y00, yf0⟩ := PB.out.cells1
  go_wp2_with fail
  generalize w.alloc (.cells #[ptr gc] 72) = W0 at *
  refine wp_scope_label 0 (fun _ _ => False) (fun _ _ => 0) rfl (fun _ => ?_) (fun _ _ h => h.elim)
  go_wp2_with fail
  clear y0 y1 y2 y3 y4 y5 y6 y7 y8 y9 y10 yf y00 yf0
  refine (rquiet_any s g es a _ HR.out).mono ?_
  rintro e w1 ⟨rfl, hb⟩
  replace HC := hid (HC.out.step hb); replace HR := hid (HR.out.step hb); replace PB := hid (PB.out.step hb); replace HB := hid (below_then HB.out hb)
  clear hb
  rw [HQ.out]
  go_wp2_with fail
  refine (rneed_no 241 _).mono ?_
  rintro x v1 ⟨rfl, rfl⟩
  unfold leaves
  go_wp2_with fail
  exact ⟨rfl, rfl, HB.out⟩
theorem rsettle_open (s : St) (g : Gr) (es : List Qe) (a : Ra) (w : World) (h : RcR w s g es a) (hk : RcOk s g es) (hq : quietB s = false) :
    Calls Tryz.prog 16 #[rcv s g a] w (RnPost w (241, (0, [], []), zGr, [], [])) := by
  refine rsettle_from s g es a w _ h (fun _ => rfl) (fun hn => absurd hk hn) (fun _ l gc es1 a1 W hca hgd _ => ?_)
  refine (rsettle1_open l gc s g es1 a1 W hca hgd hq).mono ?_
  rintro x w' ⟨rfl, hb⟩
  exact ⟨.ofBelow hb, .inr ⟨241, rfl, by decide, rfl⟩⟩
end Go.Proofs.YtfipdoofgbjbjaaGreat

/- What afterglowlaw14.wakes runs, plainly, and as it is called. No condition but sizes. -/
namespace Go.Proofs.YtfipdoofgbjbjaaGreat
open Go.RowKit
def T1 : List (Int × Int × Int) := [(3, 0, 7), (4, 0, 0), (4, 0, 0), (4, 1, 0), (5, 0, 0)]
def T2 : List (Int × Int × Int) := [(1, 1, 0), (3, 0, 7), (4, 0, 0), (4, 0, 0), (4, 1, 0)]
def T3 : List (Int × Int × Int) := [(2, 1, 0), (4, 1, 0), (5, 0, 0)]
theorem opsA_is {X : Int × St × Gr × Qs × List Int} {ran : List Int} (h1 : X.1 = 0) (h2 : X.2.2.2.2 = ran) : X = (0, X.2.1, X.2.2.1, X.2.2.2.1, ran) := by rw [← h1, ← h2]
def wkX : Int × St × Gr × Qs × List Int := opsA (nSt 2) (nGr 2) (nQs 2) [] T2
theorem wk_facts : ∃ s1 g1 q1, opsA (nSt 2) (nGr 2) (nQs 2) [] T2 = (0, s1, g1, q1, []) ∧ quietB s1 = false ∧ wN q1 = 1 ∧ (opsA s1 g1 q1 [] [(5, 0, 0)]).1 = 4 ∧
    (∃ s g q, opsA s1 g1 q1 [] T3 = (0, s, g, q, [7])) ∧ ∃ s g q, opsA (nSt 2) (nGr 2) (nQs 2) [] T1 = (0, s, g, q, [7]) := by
  refine ⟨wkX.2.1, wkX.2.2.1, wkX.2.2.2.1, opsA_is (by decide +kernel) (by decide +kernel), by decide +kernel, by decide +kernel, by decide +kernel, ⟨_, _, _, opsA_is (by decide +kernel) (by decide +kernel)⟩, ⟨_, _, _, opsA_is (by decide +kernel) (by decide +kernel)⟩⟩
theorem good_opsA {L : List (Int × Int × Int)} : ∀ {s : St} {g : Gr} {qs : Qs} {ran : List Int}, RcGood s g qs → (opsA s g qs ran L).1 = 0 → RcGood (opsA s g qs ran L).2.1 (opsA s g qs ran L).2.2.1 (opsA s g qs ran L).2.2.2.1 := by
  induction L with
  | nil => exact fun h _ => h
  | cons o L ih =>
    intro s g qs ran h hc
    unfold opsA at hc ⊢
    split at hc
    · rename_i e; rw [if_pos e]; exact ih (good_opF h e) hc
    · rename_i e; exact absurd hc e
theorem nGood {n : Nat} (h1 : 1 ≤ n) (h8 : n ≤ 8) : RcGood (nSt n) (nGr n) (nQs n) := by
  refine ⟨⟨?_, nGr_ok h1 h8, by simp [nSt, nGr]⟩, by simp [nQs, nGr], fun q hq => ?_⟩
  · refine good_iff.2 ⟨⟨by simpa [nSt] using h1, by simpa [nSt] using h8, by simp [nSt], by show (0 : Int) ≤ 0; omega, by show (0 : Int) ≤ _; omega⟩, fun i hi => ?_⟩
    have e : ∀ i : Nat, (List.replicate n (0 : Int))[i]?.getD 0 = 0 := fun i => by rw [List.getElem?_replicate]; split <;> rfl
    unfold RowR nSt
    simp only [e]
    exact ⟨by omega, by omega, fun _ => trivial, fun h => by omega, fun _ _ h => absurd rfl h⟩
  · obtain rfl := (List.mem_replicate.1 hq).2
    exact ⟨⟨by decide, by decide, fun k hk => absurd hk (by simp), fun k hk => absurd hk (by simp)⟩, rfl, fun c hc => (by cases hc)⟩
theorem rcA_ok {s : St} {g : Gr} {es : List Qe} {L : List (Int × Int × Int)} (h : RcGood s g (ql es)) : rcA s g es L = opsA s g (ql es) [] L := if_pos (rcOk_iff.2 h)
theorem RcT.rcr {w : World} {lo : Nat} {s : St} {g : Gr} {es : List Qe} {a : Ra} (h : RcT w lo s g es a) (gl : g.nd.length ≤ 1000) (gi : g.dn ≤ 9223372036854775807 ∧ g.ak ≤ 9223372036854775807) (ql : a.nq ≤ 1000) (ho : ∀ x ∈ es, 0 ≤ x.o ∧ x.o ≤ 18446744073709551615) : RcR w s g es a :=
  ⟨h.ro.rds, (h.gd.sl (d := false)).mono (Nat.zero_le _) (Nat.le_refl _), gl, gi, (h.qs.sm (d := zQe)).mono (Nat.zero_le _) (Nat.le_refl _), ql, fun x hx => ⟨((h.qe x hx).1.sm (d := (0, 0))).mono (Nat.zero_le _) (Nat.le_refl _), (h.qe x hx).1.cap.1, (h.qe x hx).2, (ho x hx).1, (ho x hx).2⟩⟩
theorem CX.rcr {w : World} {l gc : Nat} {s : St} {g : Gr} {es : List Qe} {ran : List Int} {a : Ra} {R : Option Addr} {nr kr : Nat} (h : CX w l gc s g es ran a R nr kr) (hg : RcGood s g (ql es)) : RcR w s g es a := by
  have h1 := hg.1.2.1.small
  have h2 := hg.1.2.1.2.1
  have h3 := hg.1.2.1.2.2.2.2.2.1
  have h4 := hg.2.1
  rw [ql_len, h.qs.len] at h4
  exact ⟨h.ro.rds, (h.gd.sl (d := false)).mono (Nat.zero_le _) (Nat.le_refl _), by omega, by omega, (h.qs.sm (d := zQe)).mono (Nat.zero_le _) (Nat.le_refl _), by omega, fun x hx => ⟨((h.qe x hx).1.mono (Nat.zero_le _)).sm, (h.qe x hx).2.1, (h.qe x hx).2.2.1, (h.qe x hx).2.2.2.1.1, (h.qe x hx).2.2.2.1.2⟩⟩
/-- it can be read, whatever is done to those blocks -/
def RcP (p : Nat → Prop) (w : World) (s : St) (g : Gr) (es : List Qe) (a : Ra) : Prop := ∀ w', GrownP p w w' → RcR w' s g es a
theorem RcP.step {p : Nat → Prop} {w w' : World} {s : St} {g : Gr} {es : List Qe} {a : Ra} (h : RcP p w s g es a) (hb : Below w.heap.size w w') : RcP p w' s g es a := fun w2 k => h w2 ((GrownP.ofBelow hb).trans k)
theorem RcP.rcr {p : Nat → Prop} {w : World} {s : St} {g : Gr} {es : List Qe} {a : Ra} (h : RcP p w s g es a) : RcR w s g es a := h w (.refl _ _)
theorem RcP.turn {p : Nat → Prop} {w w' : World} {s : St} {g : Gr} {es : List Qe} {a : Ra} {q : Nat} (h : RcP p w s g es a) (hg : w.grownBy w' (some q)) (hq : p q) : RcP p w' s g es a := fun w2 k => h w2 ((GrownP.ofGrown hg hq).trans k)
/-- new blocks are not its own -/
theorem RcR.above {w : World} {s : St} {g : Gr} {es : List Qe} {a : Ra} (h : RcR w s g es a) : RcP (fun i => w.heap.size ≤ i) w s g es a := fun w' k =>
  h.step ⟨k.os, k.tape, k.output, k.size, fun i hi => k.block i hi (by omega)⟩
theorem om_keptP {α : Type} {sz : Nat} {enc : α → Nat → Value} {w w' : World} {lo n c : Nat} {e : TypeId} {A : Option Addr} {xs : List α} {p : Nat → Prop} (h : Om sz enc w lo e A n c xs) (k : GrownP p w w') (hp : ∀ a, A = some a → ¬ p a.block) : Om sz enc w' lo e A n c xs := by
  refine ⟨h.len, h.own.1, ?_⟩
  rcases h.own.2 with hh | ⟨g, cap, cur, hv, hb1, hg, r⟩
  · exact .inl hh
  · refine .inr ⟨g, cap, cur, hv, hb1, (k.block g (Array.getElem?_eq_some_iff.1 hg).1 ?_).trans hg, r⟩
    simp only [Value.slice.injEq] at hv
    exact hp ⟨g, 0, none⟩ hv.1
theorem CX.lowP {w w' : World} {l gc : Nat} {s : St} {g : Gr} {es : List Qe} {ran : List Int} {a : Ra} {R : Option Addr} {nr kr : Nat} {p : Nat → Prop} (h : CX w l gc s g es ran a R nr kr) (k : GrownP p w w') (hp : ∀ i, p i → i < l) : CX w' l gc s g es ran a R nr kr :=
  ⟨h.ro.keptP k (fun a ha hq => by
      have := hp _ hq
      rcases ha with ha | ha
      · have := (h.ro.oa.blk a ha).1; omega
      · have := (h.ro.ob.blk a ha).1; omega),
   h.gd.keptP k (fun a ha hq => by have := hp _ hq; have := (h.gd.blk a ha).1; omega), om_keptP h.qs k (fun a ha hq => by have := hp _ hq; have := (h.qs.blk a ha).1; omega),
   h.rn.keptP k (fun a ha hq => by have := hp _ hq; have := (h.rn.blk a ha).1; omega), fun x hx => by
    obtain ⟨k1, k2⟩ := h.qe x hx
    exact ⟨k1.keptP k (fun hn b hb e => by
      obtain ⟨b', off, e2, h2, _⟩ := k1.sm.row hn
      rw [hb] at e2; cases e2; dsimp only at e; have := hp _ e; omega), k2⟩, h.lg⟩
theorem Blk.smO {w : World} {g n : Nat} {e : TypeId} {cs : Array Value} {xs : List (Int × Int × Int)} (h : Blk w g e cs) (hn : xs.length = n) (hc : ∀ k, k < n → ∀ j, j < 3 → cs[k * 3 + j]? = some (encO (xs[k]?.getD (0, 0, 0)) j)) : Sm 3 encO (0, 0, 0) w 0 w.heap.size (some ⟨g, 0, none⟩) n xs := by
  refine ⟨hn, fun _ => ⟨g, 0, rfl, Nat.zero_le _, h.lt, fun k hk j hj => ?_⟩⟩
  rw [Nat.zero_add, h.cell, hc k hk j hj]
/-- Run, where all goes well, with what it comes to known -/
def WkR (s1 : St) (g1 : Gr) (q1 : Qs) (ran : List Int) (w : World) (x : Ending) (w' : World) : Prop :=
  ∃ a es R kr, x = .returned (.tuple #[rcv s1 g1 a, .slice R ran.length kr, .int .i64 0]) ∧ ql es = q1 ∧ RcP (fun i => i < w.heap.size) w' s1 g1 es a ∧ Ow u64v w' w.heap.size 35 R ran.length kr ran ∧ Below w.heap.size w w'
theorem wk_run {s : St} {g : Gr} {es : List Qe} {a : Ra} {L : List (Int × Int × Int)} {s1 : St} {g1 : Gr} {q1 : Qs} {ran : List Int} (T : Option Addr) (nt kt : Nat) (w : World) (hR : RcR w s g es a) (hk : RcGood s g (ql es)) (hT : Sm 3 encO (0, 0, 0) w 0 w.heap.size T nt L) (hnt : nt ≤ 1000000)
    (hr : opsA s g (ql es) [] L = (0, s1, g1, q1, ran)) : Calls Tryz.prog 14 #[rcv s g a, .slice T nt kt] w (WkR s1 g1 q1 ran w) := by
  refine (rrunall_any s g es a T nt kt L w hR hT hnt).mono ?_
  rw [rcA_ok hk, hr]
  have hg := good_opsA (L := L) (ran := []) hk (by rw [hr])
  rw [hr] at hg
  rintro x w' ⟨a', R, nr, kr, rfl, ⟨es', gc, h1, h2⟩, hb⟩
  dsimp only at h1 h2 hg
  obtain rfl : ran.length = nr := h2.rn.len
  exact ⟨a', es', R, kr, rfl, h1, fun w2 k => (h2.lowP k (fun i hi => hi)).rcr (by rw [h1]; exact hg), h2.rn, hb⟩
/-- Step, where it is refused -/
theorem wk_no {s : St} {g : Gr} {es : List Qe} {a : Ra} {o : Int × Int × Int} {c : Int} (w : World) (hR : RcR w s g es a) (hk : RcGood s g (ql es)) (hr : (opsA s g (ql es) [] [o]).1 = c) (hc : c ≠ 0) :
    Calls Tryz.prog 10 #[rcv s g a, .agg (ocs o)] w fun x w' => (∃ a', x = .returned (.tuple #[rcv (0, [], []) zGr a', .int .u64 0, .int .i64 c])) ∧ Below w.heap.size w w' := by
  refine (rstep_any s g es a o w hR).mono ?_
  rw [rcA_ok hk]
  have hz := opsA_nz (L := [o]) (s := s) (g := g) (qs := ql es) (ran := []) (by rw [hr]; exact hc)
  rintro x w' ⟨a', R, nr, kr, rfl, _, hb⟩
  rw [hr, hz]
  exact ⟨⟨a', rfl⟩, hb⟩
end Go.Proofs.YtfipdoofgbjbjaaGreat

/- package rcu: settling, plainly: a turn, that turns come to an end, and what they come to. No condition. -/
namespace Go.Proofs.YtfipdoofgbjbjaaGreat
open Go.RowKit
/-- what settling goes through: the grace, the queues, what was run, whose turn it is -/
structure Sv where
  g : Gr
  qs : Qs
  ran : List Int
  k : Nat
abbrev qAt (qs : Qs) (k : Nat) : List Cb × Int := qs[k]?.getD ([], 0)
def drN (qs : Qs) (k : Nat) : Nat := doneN (qAt qs k).2 (qAt qs k).1
/-- queues behind a CPU's first j are run, and what is run -/
def drQ (qs : Qs) (k j : Nat) : Qs := qs.set k ((qAt qs k).1.drop j, (qAt qs k).2)
def drR (qs : Qs) (k j : Nat) : List Int := ((qAt qs k).1.take j).map Prod.snd
def pkQ (t : Sv) : Qs := overs t.g.dn (gPick t.g t.k true).dn t.qs
def turnF (t : Sv) : Sv := ⟨gPick t.g t.k true, drQ (pkQ t) t.k (drN (pkQ t) t.k), t.ran ++ drR (pkQ t) t.k (drN (pkQ t) t.k), (t.k + 1) % t.qs.length⟩
def SvOk (s : St) (t : Sv) : Prop := RcGood s t.g t.qs ∧ quietB s = true ∧ t.k < t.qs.length
theorem sum_map_le (f h : Nat → Nat) : ∀ l : List Nat, (∀ j ∈ l, f j ≤ h j) → (l.map f).sum ≤ (l.map h).sum
  | [], _ => Nat.le_refl _
  | x :: l, hl => by
    have h1 := hl x List.mem_cons_self
    have h2 := sum_map_le f h l (fun j hj => hl j (List.mem_cons_of_mem _ hj))
    simp only [List.map_cons, List.sum_cons]; omega
theorem sum_map_lt (f h : Nat → Nat) : ∀ l : List Nat, (∀ j ∈ l, f j ≤ h j) → (∃ j ∈ l, f j < h j) → (l.map f).sum < (l.map h).sum
  | [], _, ⟨_, hj, _⟩ => by cases hj
  | x :: l, hl, ⟨j, hj, hlt⟩ => by
    have h1 := hl x List.mem_cons_self
    have h2 := sum_map_le f h l (fun j hj => hl j (List.mem_cons_of_mem _ hj))
    simp only [List.map_cons, List.sum_cons]
    rcases List.mem_cons.1 hj with rfl | hj
    · omega
    · have h3 := sum_map_lt f h l (fun j hj => hl j (List.mem_cons_of_mem _ hj)) ⟨j, hj, hlt⟩
      omega
/-- how far those are off, together -/
def dist (n k : Nat) (p : Nat → Bool) : Nat := ((List.range n).map fun j => if p j then 1 + (j + n - k) % n else 0).sum
theorem sum_map_bd (f : Nat → Nat) (b : Nat) : ∀ l : List Nat, (∀ j ∈ l, f j ≤ b) → (l.map f).sum ≤ l.length * b
  | [], _ => by simp
  | x :: l, hl => by
    have h1 := hl x List.mem_cons_self
    have h2 := sum_map_bd f b l (fun j hj => hl j (List.mem_cons_of_mem _ hj))
    simp only [List.map_cons, List.sum_cons, List.length_cons, Nat.succ_mul]; omega
theorem dist_le (n k : Nat) (p : Nat → Bool) (h1 : 1 ≤ n) (h8 : n ≤ 8) : dist n k p ≤ 64 := by
  have h := sum_map_bd (fun j => if p j then 1 + (j + n - k) % n else 0) 8 (List.range n) (fun j hj => by
    show (if p j then 1 + (j + n - k) % n else 0) ≤ 8
    have := Nat.mod_lt (j + n - k) h1
    split <;> omega)
  rw [List.length_range] at h
  unfold dist
  omega
theorem next_mod {n j k : Nat} (hj : j < n) (hk : k < n) (hne : j ≠ k) : (j + n - (k + 1) % n) % n + 1 = (j + n - k) % n := by
  have e1 : (k + 1) % n = if k + 1 = n then 0 else k + 1 := by
    split
    · rename_i e; rw [e, Nat.mod_self]
    · exact Nat.mod_eq_of_lt (by omega)
  have md : ∀ x, x < 2 * n → x % n = if x < n then x else x - n := fun x hx => by
    split
    · rename_i h; exact Nat.mod_eq_of_lt h
    · rename_i h; rw [Nat.mod_eq_sub_mod (by omega), Nat.mod_eq_of_lt (by omega)]
  rw [e1]
  by_cases hkn : k + 1 = n
  · rw [if_pos hkn, md _ (by omega), md (j + n - k) (by omega)]
    split <;> split <;> omega
  · rw [if_neg hkn, md _ (by omega), md (j + n - k) (by omega)]
    split <;> split <;> omega
theorem dist_next {n k : Nat} {p q : Nat → Bool} (hk : k < n) (hq : ∀ j, j < n → q j = true → p j = true) (hqk : q k = false) (hp : ∃ j, j < n ∧ p j = true) : dist n ((k + 1) % n) q < dist n k p := by
  have key : ∀ j, j < n → (if q j then 1 + (j + n - (k + 1) % n) % n else 0) ≤ (if p j then 1 + (j + n - k) % n else 0) ∧ (p j = true → (if q j then 1 + (j + n - (k + 1) % n) % n else 0) < (if p j then 1 + (j + n - k) % n else 0)) := fun j hj => by
    by_cases e : j = k
    · subst e
      rw [if_neg (by rw [hqk]; decide)]
      exact ⟨Nat.zero_le _, fun h => by rw [if_pos h]; omega⟩
    · have hm := next_mod hj hk e
      by_cases hqj : q j = true
      · rw [if_pos hqj, if_pos (hq j hj hqj)]
        exact ⟨by omega, fun _ => by omega⟩
      · rw [if_neg hqj]
        exact ⟨Nat.zero_le _, fun h => by rw [if_pos h]; omega⟩
  obtain ⟨j, hj, hpj⟩ := hp
  exact sum_map_lt _ _ _ (fun i hi => (key i (List.mem_range.1 hi)).1) ⟨j, List.mem_range.2 hj, (key j hj).2 hpj⟩
def mu (t : Sv) : Nat :=
  (t.g.ak - t.g.dn).toNat * 1000 + (if t.g.on then dist t.qs.length t.k (fun j => t.g.nd[j]?.getD false) else if t.g.dn < t.g.ak then 100 else 0) +
    (if t.g.dn < t.g.ak then 100 else dist t.qs.length t.k (fun j => !(qAt t.qs j).1.isEmpty))
theorem drQ_len (qs : Qs) (k j : Nat) : (drQ qs k j).length = qs.length := List.length_set
theorem overs_len (d d' : Int) (qs : Qs) : (overs d d' qs).length = qs.length := by unfold overs; split <;> simp
theorem turn_len (t : Sv) : (turnF t).qs.length = t.qs.length := by show (drQ _ _ _).length = _; rw [drQ_len]; exact overs_len _ _ _
theorem qAt_mem {qs : Qs} {k : Nat} (hk : k < qs.length) : qAt qs k ∈ qs := by unfold qAt; rw [List.getElem?_eq_getElem hk]; exact List.getElem_mem _
theorem quiet_at {s : St} (h : quietB s = true) (k : Nat) : decide (s.2.1[k]?.getD 0 = 0) = true := by
  rw [decide_eq_true_eq]
  unfold quietB at h
  rw [List.all_eq_true] at h
  rcases Nat.lt_or_ge k s.2.1.length with hk | hk
  · rw [List.getElem?_eq_getElem hk]
    exact of_decide_eq_true (h _ (List.getElem_mem hk))
  · rw [List.getElem?_eq_none hk]; rfl
/-- queues of which some first ones were run may be -/
theorem good_drain {s : St} {g : Gr} {qs : Qs} (h : RcGood s g qs) (k j : Nat) (hk : k < qs.length) : RcGood s g (drQ qs k j) := by
  obtain ⟨h1, h2, h3⟩ := h
  refine ⟨h1, by rw [drQ_len]; exact h2, fun y hy => ?_⟩
  rcases List.mem_or_eq_of_mem_set hy with hy | rfl
  · exact h3 y hy
  · obtain ⟨q1, q2, q3⟩ := h3 _ (qAt_mem hk)
    exact ⟨qg_drop q1 j, q2, fun z hz => q3 z (List.mem_of_mem_drop hz)⟩
theorem good_pick {s : St} {t : Sv} (h : SvOk s t) : RcGood s (gPick t.g t.k true) (pkQ t) := by
  obtain ⟨h1, h2, h3⟩ := h
  have e := opF_lt (s := s) (g := t.g) (qs := t.qs) (k := 4) (cp := t.k) (x := 0) (by omega) h3
  rw [if_neg (by decide), if_neg (by decide), if_pos rfl, quiet_at h2] at e
  have hg := good_opF (o := (4, (t.k : Int), 0)) h1 (by rw [e])
  rw [e] at hg
  exact hg
theorem pk_len (t : Sv) : (pkQ t).length = t.qs.length := overs_len _ _ _
theorem turn_ok {s : St} {t : Sv} (h : SvOk s t) : SvOk s (turnF t) := by
  refine ⟨good_drain (good_pick h) _ _ (by rw [pk_len]; exact h.2.2), h.2.1, ?_⟩
  rw [turn_len]
  exact Nat.mod_lt _ (by have := h.2.2; omega)
theorem done_all {o : Int} : ∀ {xs : List Cb}, (∀ c ∈ xs, c.1 ≤ o) → doneN o xs = xs.length
  | [], _ => rfl
  | x :: xs, h => by
    have ih := done_all (o := o) (xs := xs) fun c hc => h c (List.mem_cons_of_mem _ hc)
    unfold doneN at ih ⊢
    rw [List.takeWhile_cons, if_pos (decide_eq_true (h x List.mem_cons_self)), List.length_cons, List.length_cons, ih]
theorem wN_pos : ∀ {qs : Qs}, wN qs ≠ 0 → ∃ j, j < qs.length ∧ (qAt qs j).1.isEmpty = false
  | [], h => absurd rfl h
  | q :: qs, h => by
    by_cases hq : q.1.isEmpty = false
    · exact ⟨0, by simp, hq⟩
    · have hn : q.1 = [] := by simpa using hq
      obtain ⟨j, hj, h1⟩ := wN_pos (qs := qs) (fun e => h (by unfold wN at e ⊢; rw [List.map_cons, List.sum_cons, hn, e]; rfl))
      exact ⟨j + 1, by simpa using hj, by simpa [qAt] using h1⟩
/-- a turn brings the end nearer -/
theorem mu_turn {s : St} {t : Sv} (h : SvOk s t) (hi : idleB s t.g t.qs = false) : mu (turnF t) < mu t := by
  have hok := h
  obtain ⟨⟨⟨b1, b2, b3⟩, hlen, hq⟩, hqt, hk⟩ := h
  have hgo := b2
  obtain ⟨g1, g2, g3, g4, g5, g6, g7⟩ := b2
  have hn1 : 1 ≤ t.qs.length := by omega
  have hn8 : t.qs.length ≤ 8 := by omega
  have hd := fun k p => dist_le t.qs.length k p hn1 hn8
  unfold mu
  rw [turn_len]
  have eg : (turnF t).g = gPick t.g t.k true := rfl
  have ek : (turnF t).k = (t.k + 1) % t.qs.length := rfl
  rw [eg, ek]
  by_cases hon : t.g.on = true
  · have hp : gPick t.g t.k true = gReport t.g t.k := by unfold gPick; rw [hon]; rfl
    rw [hp]
    rw [hon] at g4
    simp only [if_true] at g4
    unfold gReport
    split
    · rename_i hid
      dsimp only
      have h1 := hd ((t.k + 1) % t.qs.length) (fun j => !(qAt (turnF t).qs j).1.isEmpty)
      rw [if_neg (by decide)]
      split <;> split <;> omega
    · rename_i hid
      dsimp only
      have hlt : t.g.dn < t.g.ak := by omega
      repeat rw [if_pos hlt]
      have h1 := dist_next (n := t.qs.length) (k := t.k) (p := fun j => t.g.nd[j]?.getD false) (q := fun j => (t.g.nd.set t.k false)[j]?.getD false) hk (fun j hj hj2 => by
        by_cases e : j = t.k
        · subst e
          rw [List.getElem?_set_self (by omega)] at hj2
          cases hj2
        · rw [List.getElem?_set_ne (Ne.symm e)] at hj2
          exact hj2) (by rw [List.getElem?_set_self (by omega)]; rfl) (by
        have hni : gIdle t.g.nd = false := by rw [hon] at g7; simpa using g7.symm
        unfold gIdle at hni
        rw [List.all_eq_false] at hni
        obtain ⟨x, hx, hx2⟩ := hni
        obtain ⟨j, hj, rfl⟩ := List.mem_iff_getElem.1 hx
        exact ⟨j, by omega, by rw [List.getElem?_eq_getElem hj]; simpa using hx2⟩)
      omega
  · have hof : t.g.on = false := by simpa using hon
    rw [hof] at g4
    simp only [Bool.false_eq_true, if_false] at g4
    by_cases hlt : t.g.dn < t.g.ak
    · have hp : gPick t.g t.k true = gBegin t.g := by unfold gPick; rw [hof, decide_eq_true hlt]; rfl
      rw [hp]
      have h1 := hd ((t.k + 1) % t.qs.length) (fun j => (gBegin t.g).nd[j]?.getD false)
      rw [if_pos (show (gBegin t.g).on = true from rfl), hof, if_neg (show ¬ (false = true) by decide), if_pos (show (gBegin t.g).dn < (gBegin t.g).ak from hlt)]
      repeat rw [if_pos hlt]
      show (t.g.ak - t.g.dn).toNat * 1000 + _ + _ < _
      omega
    · have hp : gPick t.g t.k true = t.g := by unfold gPick; rw [hof, decide_eq_false hlt]; rfl
      rw [hp, hof]
      repeat rw [if_neg (show ¬ (false = true) by decide)]
      repeat rw [if_neg hlt]
      have epk : pkQ t = t.qs := by unfold pkQ overs; rw [hp, if_neg (by omega)]
      have eq : (turnF t).qs = drQ t.qs t.k (drN t.qs t.k) := by show drQ (pkQ t) t.k (drN (pkQ t) t.k) = _; rw [epk]
      rw [eq]
      have hqk := hq _ (qAt_mem hk)
      have hdn : drN t.qs t.k = (qAt t.qs t.k).1.length := done_all fun c hc => by have := hqk.2.2 c hc; have := hqk.2.1; omega
      have hat : ∀ j, (qAt (drQ t.qs t.k (drN t.qs t.k)) j).1 = if j = t.k then [] else (qAt t.qs j).1 := fun j => by
        unfold qAt drQ
        by_cases e : j = t.k
        · subst e
          rw [if_pos rfl, List.getElem?_set_self hk, hdn]
          exact List.drop_length
        · rw [if_neg e, List.getElem?_set_ne (Ne.symm e)]
      have h1 := dist_next (n := t.qs.length) (k := t.k) (p := fun j => !(qAt t.qs j).1.isEmpty) (q := fun j => !(qAt (drQ t.qs t.k (drN t.qs t.k)) j).1.isEmpty) hk (fun j _ hj2 => by
        rw [hat] at hj2
        split at hj2
        · cases hj2
        · exact hj2) (by rw [hat, if_pos rfl]; rfl) (by
        have hw : wN t.qs ≠ 0 := fun e => by
          unfold idleB at hi
          rw [hqt, hof, decide_eq_true e, decide_eq_true (show t.g.ak = t.g.dn by omega)] at hi
          cases hi
        obtain ⟨j, hj, hj2⟩ := wN_pos hw
        exact ⟨j, hj, by rw [hj2]; rfl⟩)
      omega
def setN (s : St) : Nat → Sv → Sv
  | 0, t => t
  | n + 1, t => if idleB s t.g t.qs then t else setN s n (turnF t)
/-- settled -/
def setF (s : St) (t : Sv) : Sv := setN s (mu t) t
theorem setN_idle {s : St} {t : Sv} (h : idleB s t.g t.qs = true) : ∀ n, setN s n t = t
  | 0 => rfl
  | n + 1 => if_pos h
theorem setN_eq {s : St} : ∀ (m n : Nat) (t : Sv), SvOk s t → mu t ≤ m → mu t ≤ n → setN s m t = setN s n t := by
  intro m
  induction m with
  | zero =>
    intro n t h hm hn
    by_cases hi : idleB s t.g t.qs = true
    · rw [setN_idle hi, setN_idle hi]
    · have hlt := mu_turn h (by simpa using hi)
      omega
  | succ m ih =>
    intro n t h hm hn
    by_cases hi : idleB s t.g t.qs = true
    · rw [setN_idle hi, setN_idle hi]
    · have hlt := mu_turn h (by simpa using hi)
      cases n with
      | zero => omega
      | succ n =>
        unfold setN
        rw [if_neg hi, if_neg hi]
        exact ih n _ (turn_ok h) (by omega) (by omega)
theorem setF_idle {s : St} {t : Sv} (h : idleB s t.g t.qs = true) : setF s t = t := setN_idle h _
theorem setF_step {s : St} {t : Sv} (h : SvOk s t) (hi : idleB s t.g t.qs = false) : setF s t = setF s (turnF t) := by
  have hlt := mu_turn h hi
  unfold setF
  obtain ⟨m, hm⟩ : ∃ m, mu t = m + 1 := ⟨mu t - 1, by omega⟩
  rw [hm]
  show (if idleB s t.g t.qs then t else setN s m (turnF t)) = _
  rw [if_neg (by rw [hi]; decide)]
  exact setN_eq _ _ _ (turn_ok h) (by omega) (Nat.le_refl _)
/-- what holds at first, and outlives turns, holds at the end, where it is idle -/
theorem setF_ind {s : St} (P : Sv → Prop) (hs : ∀ t, SvOk s t → P t → idleB s t.g t.qs = false → P (turnF t)) : ∀ (n : Nat) (t : Sv), mu t ≤ n → SvOk s t → P t → P (setF s t) ∧ SvOk s (setF s t) ∧ idleB s (setF s t).g (setF s t).qs = true := by
  intro n
  induction n with
  | zero =>
    intro t hn h hp
    by_cases hi : idleB s t.g t.qs = true
    · rw [setF_idle hi]; exact ⟨hp, h, hi⟩
    · have hlt := mu_turn h (by simpa using hi)
      omega
  | succ n ih =>
    intro t hn h hp
    by_cases hi : idleB s t.g t.qs = true
    · rw [setF_idle hi]; exact ⟨hp, h, hi⟩
    · have hi' : idleB s t.g t.qs = false := by simpa using hi
      have hlt := mu_turn h hi'
      rw [setF_step h hi']
      exact ih _ (by omega) (turn_ok h) (hs t h hp hi')
end Go.Proofs.YtfipdoofgbjbjaaGreat

/- package rcu: Step and own, as the laws use them: what is handed back outlives stores to the laws' own boxes; a callback queued, plainly. No condition but sizes, and that numbers are of their kinds. -/
namespace Go.Proofs.YtfipdoofgbjbjaaGreat
open Go.RowKit
theorem RcP.mono {p q : Nat → Prop} {w : World} {s : St} {g : Gr} {es : List Qe} {a : Ra} (h : RcP p w s g es a) (hq : ∀ i, q i → p i) : RcP q w s g es a := fun w' k => h w' (k.mono hq)
/-- new blocks besides -/
theorem RcP.fresh {p : Nat → Prop} {w : World} {s : St} {g : Gr} {es : List Qe} {a : Ra} (h : RcP p w s g es a) : RcP (fun i => p i ∨ w.heap.size ≤ i) w s g es a := fun w' k =>
  h w' ⟨k.os, k.tape, k.output, k.size, fun i hi hp => k.block i hi (fun hq => by rcases hq with hq | hq; exact hp hq; omega)⟩
theorem CX.rcr0 {w : World} {l gc : Nat} {s : St} {g : Gr} {es : List Qe} {ran : List Int} {a : Ra} {R : Option Addr} {nr kr : Nat} (h : CX w l gc s g es ran a R nr kr) (gl : g.nd.length ≤ 1000) (gi : g.dn ≤ 9223372036854775807 ∧ g.ak ≤ 9223372036854775807) (ql : a.nq ≤ 1000) : RcR w s g es a :=
  ⟨h.ro.rds, (h.gd.sl (d := false)).mono (Nat.zero_le _) (Nat.le_refl _), gl, gi, (h.qs.sm (d := zQe)).mono (Nat.zero_le _) (Nat.le_refl _), ql, fun x hx => ⟨((h.qe x hx).1.mono (Nat.zero_le _)).sm, (h.qe x hx).2.1, (h.qe x hx).2.2.1, (h.qe x hx).2.2.2.1.1, (h.qe x hx).2.2.2.1.2⟩⟩
/-- what a Run comes to may be, or is nothing -/
theorem rcA_small {s : St} {g : Gr} {es : List Qe} {L : List (Int × Int × Int)} {es' : List Qe} (hq : ql es' = (rcA s g es L).2.2.2.1) : (rcA s g es L).2.2.1.nd.length ≤ 1000 ∧ ((rcA s g es L).2.2.1.dn ≤ 9223372036854775807 ∧ (rcA s g es L).2.2.1.ak ≤ 9223372036854775807) ∧ es'.length ≤ 1000 := by
  by_cases h0 : (rcA s g es L).1 = 0
  · have hok : RcOk s g es := by
      by_cases hok : RcOk s g es
      · exact hok
      · unfold rcA at h0; rw [if_neg hok] at h0; exact absurd h0 (by decide)
    have e : rcA s g es L = opsA s g (ql es) [] L := if_pos hok
    rw [e] at h0 hq ⊢
    have hg := good_opsA (L := L) (ran := []) (rcOk_iff.1 hok) h0
    have h1 := hg.1.2.1.small
    have h2 := hg.1.2.1.2.1
    have h3 := hg.1.2.1.2.2.2.2.2.1
    have h4 := hg.2.1
    rw [← hq, ql_len] at h4
    exact ⟨by omega, by omega, by omega⟩
  · have hz := rcA_nz h0
    rw [hz] at hq ⊢
    have : es' = [] := List.map_eq_nil_iff.1 hq
    rw [this]
    exact ⟨by decide, by decide, by decide⟩
/-- what Step hands back -/
def StP (r : Int × St × Gr × Qs × List Int) (w : World) (x : Ending) (w' : World) : Prop :=
  ∃ a es, x = .returned (.tuple #[rcv r.2.1 r.2.2.1 a, .int .u64 (lastO r.2.2.2.2), .int .i64 r.1]) ∧ ql es = r.2.2.2.1 ∧ a.nq = es.length ∧ RcP (fun i => i < w.heap.size) w' r.2.1 r.2.2.1 es a ∧ Below w.heap.size w w'
/-- what own hands back -/
def LoP (s : St) (g : Gr) (es : List Qe) (w : World) (e : Ending) (w' : World) : Prop :=
  ∃ a' es', e = .returned (rcv (cutS s) (cutG g) a') ∧ ql es' = cutQ es ∧ a'.nq = es'.length ∧ RcP (fun i => i < w.heap.size) w' (cutS s) (cutG g) es' a' ∧ RcT w' w.heap.size (cutS s) (cutG g) es' a' ∧ Below w.heap.size w w'
theorem RcT.lowP {w w' : World} {l : Nat} {s : St} {g : Gr} {es : List Qe} {a : Ra} {p : Nat → Prop} (h : RcT w l s g es a) (k : GrownP p w w') (hp : ∀ i, p i → i < l) : RcT w' l s g es a :=
  ⟨h.ro.keptP k (fun a ha hq => by
      have := hp _ hq
      rcases ha with ha | ha
      · have := (h.ro.oa.blk a ha).1; omega
      · have := (h.ro.ob.blk a ha).1; omega),
   h.gd.keptP k (fun a ha hq => by have := hp _ hq; have := (h.gd.blk a ha).1; omega), om_keptP h.qs k (fun a ha hq => by have := hp _ hq; have := (h.qs.blk a ha).1; omega), fun x hx => by
    obtain ⟨k1, k2⟩ := h.qe x hx
    exact ⟨om_keptP k1 k (fun a ha hq => by have := hp _ hq; have := (k1.blk a ha).1; omega), k2⟩⟩
theorem ownP_any (s : St) (g : Gr) (es : List Qe) (a : Ra) (w : World) (h : RcIn w s g es a) : Calls Tryz.prog 7 #[rcv s g a] w (LoP s g es w) := by
  refine (lown_any s g es a w h).mono ?_
  rintro x w' ⟨a', es', rfl, h1, h2, hb⟩
  have hl : a'.nq = es'.length := h2.qs.len.symm
  have h9 : es'.length ≤ 9 := by
    have := congrArg List.length h1
    rw [ql_len] at this
    unfold cutQ at this
    rw [List.length_map, List.length_take] at this
    omega
  have ho : ∀ x ∈ es', 0 ≤ x.o ∧ x.o ≤ 18446744073709551615 := fun x hx => by
    have hm := ql_mem hx
    rw [h1] at hm
    obtain ⟨y, hy, e⟩ := List.mem_map.1 hm
    have := (h.qe y (List.mem_of_mem_take hy)).2.2
    simp only [Prod.mk.injEq] at e
    omega
  have hd : (cutG g).nd.length ≤ 1000 := by
    show (g.nd.take 9).length ≤ 1000
    rw [List.length_take]; omega
  exact ⟨a', es', rfl, h1, hl, fun w2 k => (h2.lowP k (fun i hi => hi)).rcr hd h.gi (by omega) ho, h2, hb⟩
/-- a callback is queued, or there are too many -/
theorem call_cases {s : St} {g : Gr} {qs : Qs} {c : Nat} (x : Int) (hg : RcGood s g qs) (hc : c < qs.length) :
    ((2147483645 < gNext g ∨ (qAt qs c).1.length = 16) ∧ opsA s g qs [] [(3, (c : Int), x)] = (6, (0, [], []), zGr, [], [])) ∨
    (gNext g ≤ 2147483645 ∧ (qAt qs c).1.length < 16 ∧ opsA s g qs [] [(3, (c : Int), x)] = (0, s, gAsk g, qs.set c ((qAt qs c).1 ++ [(gNext g, x)], (qAt qs c).2), [])) := by
  have e := opF_lt (s := s) (g := g) (qs := qs) (k := 3) (cp := c) (x := x) (by omega) hc
  rw [if_neg (by decide), if_pos rfl] at e
  have hone : ∀ r, opF s g qs (3, (c : Int), x) = r → opsA s g qs [] [(3, (c : Int), x)] = if r.1 = 0 then (0, r.2.1, r.2.2.1, r.2.2.2.1, r.2.2.2.2) else (r.1, (0, [], []), zGr, [], []) := fun r hr => by
    unfold opsA
    rw [hr]
    rfl
  have hh := hone _ e
  obtain ⟨⟨b1, b2, b3⟩, hlen, hq⟩ := hg
  obtain ⟨q1, q2, q3⟩ := hq _ (qAt_mem hc)
  by_cases hf : 2147483645 < gNext g
  · rw [if_pos hf] at hh
    exact .inl ⟨.inl hf, hh.trans (if_neg (show ¬ ((6 : Int) = 0) by decide))⟩
  · rw [if_neg hf] at hh
    have hn := gNext_le (g := g)
    have hak := b2.2.2.2.2.1
    have hp : putF (qAt qs c).2 (qAt qs c).1 x (gNext g - g.dn) = if (qAt qs c).1.length = 16 then (0, [], 6) else ((qAt qs c).2, (qAt qs c).1 ++ [((qAt qs c).2 + (gNext g - g.dn), x)], 0) := by
      unfold putF
      rw [if_neg (not_not_intro q1), if_neg (by omega), if_neg]
      rintro ⟨h1, h2⟩
      have hm : (qAt qs c).1[(qAt qs c).1.length - 1]'(by omega) ∈ (qAt qs c).1 := List.getElem_mem _
      have h3 := q3 _ hm
      unfold perAt at h2
      rw [List.getElem?_eq_getElem (by omega)] at h2
      simp only [Option.getD_some] at h2
      omega
    change opsA s g qs [] [(3, (c : Int), x)] = if (putF (qAt qs c).2 (qAt qs c).1 x (gNext g - g.dn)).2.2 = 0 then _ else _ at hh
    rw [hh]
    show _ ∨ _
    by_cases hl : (qAt qs c).1.length = 16
    · rw [if_pos hl] at hp
      refine .inl ⟨.inr hl, ?_⟩
      rw [if_neg (by rw [hp]; decide)]
      show ((putF (qAt qs c).2 (qAt qs c).1 x (gNext g - g.dn)).2.2, _) = _
      rw [hp]
    · rw [if_neg hl] at hp
      refine .inr ⟨by omega, by have := q1.2.1; omega, ?_⟩
      rw [if_pos (by rw [hp])]
      show (0, s, gAsk g, qs.set c ((putF (qAt qs c).2 (qAt qs c).1 x (gNext g - g.dn)).2.1, (putF (qAt qs c).2 (qAt qs c).1 x (gNext g - g.dn)).1), []) = _
      rw [hp, q2, show g.dn + (gNext g - g.dn) = gNext g by omega]
end Go.Proofs.YtfipdoofgbjbjaaGreat

/- afterglowref14: with; what its functions are handed, and hand back: it can be read whatever is done to certain blocks. No condition but sizes. -/
namespace Go.Proofs.YtfipdoofgbjbjaaGreat
open Go.RowKit
attribute [local go_sem] Oper.semAt_some
/-- another grace -/
theorem RcP.setG {p : Nat → Prop} {w : World} {s : St} {g g' : Gr} {es : List Qe} {a : Ra} (h : RcP p w s g es a) {D : Option Addr} {kd : Nat} (hd : ∀ w', GrownP p w w' → Sl blv false w' 0 w'.heap.size D g'.nd.length g'.nd) (hl : g'.nd.length ≤ 1000) (hi : g'.dn ≤ 9223372036854775807 ∧ g'.ak ≤ 9223372036854775807) : RcP p w s g' es { a with D := D, kd := kd } := fun w' k =>
  ⟨(h w' k).rd, hd w' k, hl, hi, (h w' k).qs, (h w' k).ql, (h w' k).qe⟩
/-- other queues -/
theorem RcP.setQ {p : Nat → Prop} {w : World} {s : St} {g : Gr} {es es' : List Qe} {a : Ra} (h : RcP p w s g es a) {Q : Option Addr} {nq kq : Nat} (hq : ∀ w', GrownP p w w' → Sm 2 encQ zQe w' 0 w'.heap.size Q nq es') (hl : nq ≤ 1000) (he : ∀ w', GrownP p w w' → ∀ x ∈ es', QeR w' x) : RcP p w s g es' { a with Q := Q, nq := nq, kq := kq } := fun w' k =>
  ⟨(h w' k).rd, (h w' k).gd, (h w' k).gl, (h w' k).gi, hq w' k, hl, he w' k⟩
/-- a row of its own abides those -/
theorem Ow.forP {α : Type} {enc : α → Value} {d : α} {p : Nat → Prop} {w : World} {lo n c : Nat} {e : TypeId} {A : Option Addr} {xs : List α} (h : Ow enc w lo e A n c xs) (hp : ∀ i, p i → i < lo) : ∀ w', GrownP p w w' → Sl enc d w' 0 w'.heap.size A n xs := fun w' k =>
  ((h.keptP k (fun a ha hq => by have := hp _ hq; have := (h.blk a ha).1; omega)).sl (d := d)).mono (Nat.zero_le _) (Nat.le_refl _)
theorem Om.forP {α : Type} {sz : Nat} {enc : α → Nat → Value} {d : α} {p : Nat → Prop} {w : World} {lo n c : Nat} {e : TypeId} {A : Option Addr} {xs : List α} (h : Om sz enc w lo e A n c xs) (hp : ∀ i, p i → i < lo) : ∀ w', GrownP p w w' → Sm sz enc d w' 0 w'.heap.size A n xs := fun w' k =>
  ((om_keptP h k (fun a ha hq => by have := hp _ hq; have := (h.blk a ha).1; omega)).sm (d := d)).mono (Nat.zero_le _) (Nat.le_refl _)
/-- a queue that can be read, whatever is done to those blocks -/
def QeP (p : Nat → Prop) (w : World) (x : Qe) : Prop := ∀ w', GrownP p w w' → QeR w' x
theorem QeP.step {p : Nat → Prop} {w w' : World} {x : Qe} (h : QeP p w x) (hb : Below w.heap.size w w') : QeP p w' x := fun w2 k => h w2 ((GrownP.ofBelow hb).trans k)
theorem QeP.fresh {p : Nat → Prop} {w : World} {x : Qe} (h : QeP p w x) : QeP (fun i => p i ∨ w.heap.size ≤ i) w x := fun w' k =>
  h w' ⟨k.os, k.tape, k.output, k.size, fun i hi hp => k.block i hi (fun hq => by rcases hq with hq | hq; exact hp hq; omega)⟩
theorem QeP.mono {p q : Nat → Prop} {w : World} {x : Qe} (h : QeP p w x) (hq : ∀ i, q i → p i) : QeP q w x := fun w' k => h w' (k.mono hq)
theorem QeP.turn {p : Nat → Prop} {w w' : World} {x : Qe} {r : Nat} (h : QeP p w x) (hg : w.grownBy w' (some r)) (hq : p r) : QeP p w' x := fun w2 k => h w2 ((GrownP.ofGrown hg hq).trans k)
theorem RcP.q_mem {p : Nat → Prop} {w : World} {s : St} {g : Gr} {es : List Qe} {a : Ra} (h : RcP p w s g es a) {x : Qe} (hx : x ∈ es) : QeP p w x := fun w' k => (h w' k).qe x hx
/-- what a function of the document hands back -/
def R14 (p : Nat → Prop) (w : World) (s : St) (g : Gr) (qs : Qs) (x : Ending) (w' : World) : Prop :=
  ∃ a es, x = .returned (rcv s g a) ∧ ql es = qs ∧ a.nq = es.length ∧ RcP p w' s g es a ∧ Below w.heap.size w w'
theorem Om.at2 {w : World} {lo n c : Nat} {e : TypeId} {A : Option Addr} {es : List Qe} (h : Om 2 encQ w lo e A n c es) {k : Nat} (hk : k < n) : ∃ gQ, A = some ⟨gQ, 0, none⟩ ∧ w.cell? ⟨gQ, k * 2, none⟩ = some (.slice (es[k]?.getD zQe).A (es[k]?.getD zQe).n (es[k]?.getD zQe).c) ∧ w.cell? ⟨gQ, k * 2 + 1, none⟩ = some (.int .u64 (es[k]?.getD zQe).o) ∧ (∀ i, w.frozen? ⟨gQ, i, none⟩ = false) := by
  obtain ⟨gQ, h1, h2, h3, h4, h5⟩ := h.at_ zQe hk
  exact ⟨gQ, h1, h4 0 (by omega), h4 1 (by omega), h5⟩
set_option maxRecDepth 100000 in
set_option maxHeartbeats 8000000 in
theorem rwith14_any (p : Nat → Prop) (s : St) (g : Gr) (es : List Qe) (a : Ra) (cp : Nat) (x : Qe) (w : World) (h : RcP p w s g es a) (hp : ∀ i, p i → i < w.heap.size) (hx : QeP p w x) (hcp : cp < es.length) (hnq : a.nq = es.length) :
    Calls Tryz.prog 39 #[rcv s g a, .int .i64 cp, qv x.A x.n x.c x.o] w (R14 p w s g ((ql es).set cp (x.l, x.o))) := by
  have HB := hid (Below.refl w.heap.size w); have HR := hid h.fresh; have HX := hid hx.fresh; have HP := hid hp; have HC := hid hcp; have HNQ := hid hnq
  have HLQ := hid h.rcr.ql
  clear h hx hp hcp hnq
  obtain ⟨A, n, k, B, m, d, D, kd, Q, nq, kq⟩ := a
  dsimp only at HNQ HLQ
  obtain ⟨xl, xo, xA, xn, xc⟩ := x
  obtain ⟨i0, hi0, hz00, hz01, hz02⟩ := info_parts info_que
  have bx := below_box w (.cells #[.int .i64 s.1, .slice A n k, .slice B m d, .int .i64 g.dn, .int .i64 g.ak, .bool g.on, .slice D g.nd.length kd, .slice Q nq kq] 30)
  replace HR := hid (HR.out.step bx); replace HX := hid (HX.out.step bx); replace HB := hid (below_then HB.out bx)
  clear bx
  have P := hid (Blk.new w 30 #[.int .i64 s.1, .slice A n k, .slice B m d, .int .i64 g.dn, .int .i64 g.ak, .bool g.on, .slice D g.nd.length kd, .slice Q nq kq])
  have bx := below_box (w.alloc (.cells #[.int .i64 s.1, .slice A n k, .slice B m d, .int .i64 g.dn, .int .i64 g.ak, .bool g.on, .slice D g.nd.length kd, .slice Q nq kq] 30)) (.cells #[.slice xA xn xc, .int .u64 xo] 58)
  replace HR := hid (HR.out.step bx); replace HX := hid (HX.out.step bx); replace P := hid (P.out.step bx); replace HB := hid (below_then HB.out bx)
  clear bx
  have PX := hid (Blk.new2 w 58 #[.slice xA xn xc, .int .u64 xo] (.cells #[.int .i64 s.1, .slice A n k, .slice B m d, .int .i64 g.dn, .int .i64 g.ak, .bool g.on, .slice D g.nd.length kd, .slice Q nq kq] 30))
  have bx := below_box ((w.alloc (.cells #[.int .i64 s.1, .slice A n k, .slice B m d, .int .i64 g.dn, .int .i64 g.ak, .bool g.on, .slice D g.nd.length kd, .slice Q nq kq] 30)).alloc (.cells #[.slice xA xn xc, .int .u64 xo] 58)) (.cells #[.int .i64 0, .slice none 0 0, .slice none 0 0, .int .i64 0, .int .i64 0, .bool false, .slice none 0 0, .slice none 0 0] 30)
  replace HR := hid (HR.out.step bx); replace HX := hid (HX.out.step bx); replace P := hid (P.out.step bx); replace PX := hid (PX.out.step bx); replace HB := hid (below_then HB.out bx)
  clear bx
  have PZ := hid (Blk.new3 w 30 #[.int .i64 0, .slice none 0 0, .slice none 0 0, .int .i64 0, .int .i64 0, .bool false, .slice none 0 0, .slice none 0 0] (.cells #[.int .i64 s.1, .slice A n k, .slice B m d, .int .i64 g.dn, .int .i64 g.ak, .bool g.on, .slice D g.nd.length kd, .slice Q nq kq] 30) (.cells #[.slice xA xn xc, .int .u64 xo] 58))
  go_enter Tryz.func39, Tryz.ntmps39
  obtain ⟨y00, y01, y02, y03, y04, y05, y06, y07, yf0⟩ := P.out.cells8
  obtain ⟨y10, y11, yf1⟩ := PX.out.cells2
  obtain ⟨y20, y21, y22, y23, y24, y25, y26, y27, yf2⟩ := PZ.out.cells8
  go_upto_region 1 with fail
  clear y20 y21 y22 y23 y24 y25 y26 y27 yf2 y10 y11 yf1 y00 y01 y02 y03 y04 y05 y06 y07 yf0
  have hz0 := hid (show (((w.alloc (.cells #[.int .i64 s.1, .slice A n k, .slice B m d, .int .i64 g.dn, .int .i64 g.ak, .bool g.on, .slice D g.nd.length kd, .slice Q nq kq] 30)).alloc (.cells #[.slice xA xn xc, .int .u64 xo] 58)).alloc (.cells #[.int .i64 0, .slice none 0 0, .slice none 0 0, .int .i64 0, .int .i64 0, .bool false, .slice none 0 0, .slice none 0 0] 30)).heap.size = w.heap.size + 3 by simp)
  generalize ((w.alloc (.cells #[.int .i64 s.1, .slice A n k, .slice B m d, .int .i64 g.dn, .int .i64 g.ak, .bool g.on, .slice D g.nd.length kd, .slice Q nq kq] 30)).alloc (.cells #[.slice xA xn xc, .int .u64 xo] 58)).alloc (.cells #[.int .i64 0, .slice none 0 0, .slice none 0 0, .int .i64 0, .int .i64 0, .bool false, .slice none 0 0, .slice none 0 0] 30) = W0 at *
  have bx := below_box W0 (.cells #[] 58)
  have HR0 := hid (HR.out.step bx); have P0 := hid (P.out.step bx)
  clear bx
  obtain ⟨y00, y01, y02, y03, y04, y05, y06, y07, yf0⟩ := P.out.cells8
  obtain ⟨y10, y11, y12, y13, y14, y15, y16, y17, yf1⟩ := P0.out.cells8
  have hq1 : nq ≤ 1000 := HLQ.out
  go_upto_region 2 with (first | (at_builtin; refine wpList_appm 2 encQ zQe _ rfl _ _ 28 rfl W0.heap.size 58 i0 _ 32 Tryz.underlying28 hi0 hz00 hz01 hz02 rfl (by omega) _ _ _ [] rfl (Om.empty W0 _ _ (Nat.le_refl _)) 0 (W0.alloc (.cells #[] 58)).heap.size Q nq kq es rfl HR0.out.rcr.qs encQ_one (by simp only [maxLen]; omega) (by omega) (by simp) ?_; intro A1 c1 w5 own1 hg1 hat1; simp only [Nat.zero_add, List.nil_append] at own1; have hb5 := hid (((Below.refl _ W0).alloc (Nat.le_refl _) (.cells #[] 58)).grown hg1 (by simp) (fun k hk => by simp [Value.ownBlock] at hk; omega)); have HO := hid own1; clear own1 hg1 hat1; obtain ⟨u0, u1, u2, u3, u4, u5, u6, u7, uf⟩ := (P.out.step hb5.out).cells8))
  clear u0 u1 u2 u3 u4 u5 u6 u7 uf y10 y11 y12 y13 y14 y15 y16 y17 yf1 HR0 P0 hq1 y00 y01 y02 y03 y04 y05 y06 y07 yf0
  replace HR := hid (HR.out.step hb5.out); replace HX := hid (HX.out.step hb5.out); replace P := hid (P.out.step hb5.out); replace PX := hid (PX.out.step hb5.out); replace PZ := hid (PZ.out.step hb5.out); replace HB := hid (below_then HB.out hb5.out)
  have HW0 := hid (show w.heap.size + 3 ≤ W0.heap.size by have := hz0.out; omega)
  clear hb5
  have hbk0 : Blk (w5.setCell ⟨w.heap.size, 7, none⟩ (.slice A1 nq c1)) (w.heap.size) 30 #[.int .i64 s.1, .slice A n k, .slice B m d, .int .i64 g.dn, .int .i64 g.ak, .bool g.on, .slice D g.nd.length kd, .slice A1 nq c1] := P.out.setCell 7 (.slice A1 nq c1)
  have hgr : w5.grownBy (w5.setCell ⟨w.heap.size, 7, none⟩ (.slice A1 nq c1)) (some (w.heap.size)) := (grown_set (World.grownBy.refl w5 (some (w.heap.size))) 7 (.slice A1 nq c1))
  replace P := hid hbk0
  clear hbk0
  generalize w5.setCell ⟨w.heap.size, 7, none⟩ (.slice A1 nq c1) = w6 at *
  replace HR := hid (HR.out.turn hgr (.inr (Nat.le_refl _))); replace HX := hid (HX.out.turn hgr (.inr (Nat.le_refl _)))
  replace PX := hid (PX.out.grown hgr (by simp)); replace PZ := hid (PZ.out.grown hgr (by simp <;> omega))
  replace HO := hid (HO.out.keptG hgr (fun a ha e => by have h1 := (HO.out.blk a ha).1; have := Option.some.inj e; have := HW0.out; omega))
  replace HB := hid (HB.out.grown hgr HB.out.size (fun r e => by cases e; exact Nat.le_refl _))
  clear hgr
  have hcn : cp < nq := by rw [HNQ.out]; exact HC.out
  have hci : (cp : Int) < (nq : Int) := by omega
  obtain ⟨gQ, hA1, f0, f1, ff⟩ := HO.out.at2 hcn
  have hgQ := hid (show W0.heap.size ≤ gQ from (HO.out.blk _ hA1).1)
  subst hA1
  obtain ⟨y00, y01, y02, y03, y04, y05, y06, y07, yf0⟩ := P.out.cells8
  obtain ⟨y10, y11, yf1⟩ := PX.out.cells2
  go_upto_region 3 with fail
  clear y10 y11 yf1 f0 f1 ff hci y00 y01 y02 y03 y04 y05 y06 y07 yf0
  have hgr := grown_set (grown_set (World.grownBy.refl w6 (some gQ)) (cp * 2) (.slice xA xn xc)) (cp * 2 + 1) (.int .u64 xo)
  replace HO := hid (show Om 2 encQ ((w6.setCell ⟨gQ, cp * 2, none⟩ (.slice xA xn xc)).setCell ⟨gQ, cp * 2 + 1, none⟩ (.int .u64 xo)) W0.heap.size 58 (some ⟨gQ, 0, none⟩) nq c1 (es.set cp ⟨xl, xo, xA, xn, xc⟩) from HO.out.stored2 cp ⟨xl, xo, xA, xn, xc⟩ hcn)
  have hge : w.heap.size ≤ gQ := by have := hgQ.out; have := HW0.out; omega
  replace HR := hid (HR.out.turn hgr (.inr (hge))); replace HX := hid (HX.out.turn hgr (.inr (hge)))
  replace P := hid (P.out.grown hgr (by have := hgQ.out; have := HW0.out; simp; omega)); replace PZ := hid (PZ.out.grown hgr (by have := hgQ.out; have := HW0.out; simp; omega))
  replace HB := hid (HB.out.grown hgr HB.out.size (fun r e => by cases e; exact hge))
  clear hgr PX hcn
  generalize (w6.setCell ⟨gQ, cp * 2, none⟩ (.slice xA xn xc)).setCell ⟨gQ, cp * 2 + 1, none⟩ (.int .u64 xo) = w7 at *
  obtain ⟨y00, y01, y02, y03, y04, y05, y06, y07, yf0⟩ := P.out.cells8
  obtain ⟨y10, y11, y12, y13, y14, y15, y16, y17, yf1⟩ := PZ.out.cells8
  go_wp2_with fail
  clear y00 y01 y02 y03 y04 y05 y06 y07 yf0 y10 y11 y12 y13 y14 y15 y16 y17 yf1
  have hbk0 : Blk (w7.setCell ⟨w.heap.size + 2, 0, none⟩ (.int .i64 s.1)) (w.heap.size + 2) 30 #[.int .i64 s.1, .slice none 0 0, .slice none 0 0, .int .i64 0, .int .i64 0, .bool false, .slice none 0 0, .slice none 0 0] := PZ.out.setCell 0 (.int .i64 s.1)
  have hbk1 : Blk ((w7.setCell ⟨w.heap.size + 2, 0, none⟩ (.int .i64 s.1)).setCell ⟨w.heap.size + 2, 1, none⟩ (.slice A n k)) (w.heap.size + 2) 30 #[.int .i64 s.1, .slice A n k, .slice none 0 0, .int .i64 0, .int .i64 0, .bool false, .slice none 0 0, .slice none 0 0] := hbk0.setCell 1 (.slice A n k)
  have hbk2 : Blk (((w7.setCell ⟨w.heap.size + 2, 0, none⟩ (.int .i64 s.1)).setCell ⟨w.heap.size + 2, 1, none⟩ (.slice A n k)).setCell ⟨w.heap.size + 2, 2, none⟩ (.slice B m d)) (w.heap.size + 2) 30 #[.int .i64 s.1, .slice A n k, .slice B m d, .int .i64 0, .int .i64 0, .bool false, .slice none 0 0, .slice none 0 0] := hbk1.setCell 2 (.slice B m d)
  have hbk3 : Blk ((((w7.setCell ⟨w.heap.size + 2, 0, none⟩ (.int .i64 s.1)).setCell ⟨w.heap.size + 2, 1, none⟩ (.slice A n k)).setCell ⟨w.heap.size + 2, 2, none⟩ (.slice B m d)).setCell ⟨w.heap.size + 2, 3, none⟩ (.int .i64 g.dn)) (w.heap.size + 2) 30 #[.int .i64 s.1, .slice A n k, .slice B m d, .int .i64 g.dn, .int .i64 0, .bool false, .slice none 0 0, .slice none 0 0] := hbk2.setCell 3 (.int .i64 g.dn)
  have hbk4 : Blk (((((w7.setCell ⟨w.heap.size + 2, 0, none⟩ (.int .i64 s.1)).setCell ⟨w.heap.size + 2, 1, none⟩ (.slice A n k)).setCell ⟨w.heap.size + 2, 2, none⟩ (.slice B m d)).setCell ⟨w.heap.size + 2, 3, none⟩ (.int .i64 g.dn)).setCell ⟨w.heap.size + 2, 4, none⟩ (.int .i64 g.ak)) (w.heap.size + 2) 30 #[.int .i64 s.1, .slice A n k, .slice B m d, .int .i64 g.dn, .int .i64 g.ak, .bool false, .slice none 0 0, .slice none 0 0] := hbk3.setCell 4 (.int .i64 g.ak)
  have hbk5 : Blk ((((((w7.setCell ⟨w.heap.size + 2, 0, none⟩ (.int .i64 s.1)).setCell ⟨w.heap.size + 2, 1, none⟩ (.slice A n k)).setCell ⟨w.heap.size + 2, 2, none⟩ (.slice B m d)).setCell ⟨w.heap.size + 2, 3, none⟩ (.int .i64 g.dn)).setCell ⟨w.heap.size + 2, 4, none⟩ (.int .i64 g.ak)).setCell ⟨w.heap.size + 2, 5, none⟩ (.bool g.on)) (w.heap.size + 2) 30 #[.int .i64 s.1, .slice A n k, .slice B m d, .int .i64 g.dn, .int .i64 g.ak, .bool g.on, .slice none 0 0, .slice none 0 0] := hbk4.setCell 5 (.bool g.on)
  have hbk6 : Blk (((((((w7.setCell ⟨w.heap.size + 2, 0, none⟩ (.int .i64 s.1)).setCell ⟨w.heap.size + 2, 1, none⟩ (.slice A n k)).setCell ⟨w.heap.size + 2, 2, none⟩ (.slice B m d)).setCell ⟨w.heap.size + 2, 3, none⟩ (.int .i64 g.dn)).setCell ⟨w.heap.size + 2, 4, none⟩ (.int .i64 g.ak)).setCell ⟨w.heap.size + 2, 5, none⟩ (.bool g.on)).setCell ⟨w.heap.size + 2, 6, none⟩ (.slice D g.nd.length kd)) (w.heap.size + 2) 30 #[.int .i64 s.1, .slice A n k, .slice B m d, .int .i64 g.dn, .int .i64 g.ak, .bool g.on, .slice D g.nd.length kd, .slice none 0 0] := hbk5.setCell 6 (.slice D g.nd.length kd)
  have hbk7 : Blk ((((((((w7.setCell ⟨w.heap.size + 2, 0, none⟩ (.int .i64 s.1)).setCell ⟨w.heap.size + 2, 1, none⟩ (.slice A n k)).setCell ⟨w.heap.size + 2, 2, none⟩ (.slice B m d)).setCell ⟨w.heap.size + 2, 3, none⟩ (.int .i64 g.dn)).setCell ⟨w.heap.size + 2, 4, none⟩ (.int .i64 g.ak)).setCell ⟨w.heap.size + 2, 5, none⟩ (.bool g.on)).setCell ⟨w.heap.size + 2, 6, none⟩ (.slice D g.nd.length kd)).setCell ⟨w.heap.size + 2, 7, none⟩ (.slice (some ⟨gQ, 0, none⟩) nq c1)) (w.heap.size + 2) 30 #[.int .i64 s.1, .slice A n k, .slice B m d, .int .i64 g.dn, .int .i64 g.ak, .bool g.on, .slice D g.nd.length kd, .slice (some ⟨gQ, 0, none⟩) nq c1] := hbk6.setCell 7 (.slice (some ⟨gQ, 0, none⟩) nq c1)
  have hgr : w7.grownBy ((((((((w7.setCell ⟨w.heap.size + 2, 0, none⟩ (.int .i64 s.1)).setCell ⟨w.heap.size + 2, 1, none⟩ (.slice A n k)).setCell ⟨w.heap.size + 2, 2, none⟩ (.slice B m d)).setCell ⟨w.heap.size + 2, 3, none⟩ (.int .i64 g.dn)).setCell ⟨w.heap.size + 2, 4, none⟩ (.int .i64 g.ak)).setCell ⟨w.heap.size + 2, 5, none⟩ (.bool g.on)).setCell ⟨w.heap.size + 2, 6, none⟩ (.slice D g.nd.length kd)).setCell ⟨w.heap.size + 2, 7, none⟩ (.slice (some ⟨gQ, 0, none⟩) nq c1)) (some (w.heap.size + 2)) := (grown_set (grown_set (grown_set (grown_set (grown_set (grown_set (grown_set (grown_set (World.grownBy.refl w7 (some (w.heap.size + 2))) 0 (.int .i64 s.1)) 1 (.slice A n k)) 2 (.slice B m d)) 3 (.int .i64 g.dn)) 4 (.int .i64 g.ak)) 5 (.bool g.on)) 6 (.slice D g.nd.length kd)) 7 (.slice (some ⟨gQ, 0, none⟩) nq c1))
  replace PZ := hid hbk7
  clear hbk0 hbk1 hbk2 hbk3 hbk4 hbk5 hbk6 hbk7
  generalize (((((((w7.setCell ⟨w.heap.size + 2, 0, none⟩ (.int .i64 s.1)).setCell ⟨w.heap.size + 2, 1, none⟩ (.slice A n k)).setCell ⟨w.heap.size + 2, 2, none⟩ (.slice B m d)).setCell ⟨w.heap.size + 2, 3, none⟩ (.int .i64 g.dn)).setCell ⟨w.heap.size + 2, 4, none⟩ (.int .i64 g.ak)).setCell ⟨w.heap.size + 2, 5, none⟩ (.bool g.on)).setCell ⟨w.heap.size + 2, 6, none⟩ (.slice D g.nd.length kd)).setCell ⟨w.heap.size + 2, 7, none⟩ (.slice (some ⟨gQ, 0, none⟩) nq c1) = w8 at *
  replace HR := hid (HR.out.turn hgr (.inr (by omega))); replace HX := hid (HX.out.turn hgr (.inr (by omega)))
  replace HO := hid (HO.out.keptG hgr (fun a ha e => by cases ha; have := hgQ.out; have h9 : gQ = w.heap.size + 2 := Option.some.inj e; have := HW0.out; omega))
  replace HB := hid (HB.out.grown hgr HB.out.size (fun r e => by cases e; omega))
  clear hgr P
  obtain ⟨q0, q1, q2, q3, q4, q5, q6, q7, qf⟩ := PZ.out.cells8
  have hlen : (es.set cp ⟨xl, xo, xA, xn, xc⟩).length = nq := by rw [List.length_set]; exact HNQ.out.symm
  refine bodyPost_ret (v := rcv s g ⟨A, n, k, B, m, d, D, kd, some ⟨gQ, 0, none⟩, nq, c1⟩) (by simp [results, Tryz.results39, go_sem, q0, q1, q2, q3, q4, q5, q6, q7]) rfl ⟨_, es.set cp ⟨xl, xo, xA, xn, xc⟩, rfl, ql_set _ _ _, hlen.symm, ?_, HB.out⟩
  have hRP := HR.out.mono (q := p) (fun i hi => .inl hi)
  refine hRP.setQ (a := ⟨A, n, k, B, m, d, D, kd, Q, nq, kq⟩) (HO.out.forP (fun i hi => by have := HP.out i hi; have := HW0.out; omega)) HLQ.out (fun w' hk y hy => ?_)
  rcases List.mem_or_eq_of_mem_set hy with hy | rfl
  ·exact hRP.q_mem hy w' hk
  ·exact (HX.out.mono (q := p) (fun i hi => .inl hi)) w' hk
end Go.Proofs.YtfipdoofgbjbjaaGreat

/- afterglowref14: pick. No condition but sizes. -/
namespace Go.Proofs.YtfipdoofgbjbjaaGreat
open Go.RowKit
attribute [local go_sem] Oper.semAt_some
/-- the first j queues are of that period -/
def ovN (d : Int) (qs : Qs) (j : Nat) : Qs := (qs.take j).map (fun x => (x.1, d)) ++ qs.drop j
theorem ovN_zero (d : Int) (qs : Qs) : ovN d qs 0 = qs := by simp [ovN]
theorem ovN_all (d : Int) (qs : Qs) {n : Nat} (h : n = qs.length) : ovN d qs n = qs.map (fun x => (x.1, d)) := by subst h; simp [ovN]
theorem ovN_len (d : Int) (qs : Qs) (j : Nat) : (ovN d qs j).length = qs.length := by simp [ovN]; omega
theorem ovN_succ (d : Int) (qs : Qs) {j : Nat} (hj : j < qs.length) : (ovN d qs j).set j ((qAt qs j).1, d) = ovN d qs (j + 1) := by
  unfold ovN qAt
  have h1 : ((qs.take j).map (fun x => (x.1, d))).length = j := by simp; omega
  rw [List.set_append_right _ _ (by omega), h1, Nat.sub_self, List.take_succ_eq_append_getElem hj, List.map_append, List.append_assoc, List.drop_eq_getElem_cons hj, List.getElem?_eq_getElem hj]
  rfl
set_option maxRecDepth 100000 in
set_option maxHeartbeats 8000000 in
theorem rpick14_any (p : Nat → Prop) (s : St) (g : Gr) (es : List Qe) (a : Ra) (cp : Nat) (w : World) (h : RcP p w s g es a) (hp : ∀ i, p i → i < w.heap.size) (hcp : cp < g.nd.length) (hcn : cp < s.2.1.length) (hnq : a.nq = es.length) (hdn : 0 ≤ g.dn ∧ g.dn ≤ 2147483645) (hak : g.ak ≤ 2147483645) :
    Calls Tryz.prog 37 #[rcv s g a, .int .i64 cp] w (R14 p w s (gPick g cp (decide (s.2.1[cp]?.getD 0 = 0))) ((ql es).map fun x => (x.1, (gPick g cp (decide (s.2.1[cp]?.getD 0 = 0))).dn))) := by
  have HB := hid (Below.refl w.heap.size w); have HR := hid h.fresh; have HP := hid hp; have HC := hid hcp; have HNQ := hid hnq; have HD := hid hdn
  have HLQ := hid h.rcr.ql; have HNL := hid h.rcr.gl
  obtain ⟨cx, hcx⟩ : ∃ cx, cx = s.2.1[cp]?.getD 0 := ⟨_, rfl⟩
  have hlen1 := h.rcr.rd.lenx
  have HCN := hid (show cp < a.n by omega)
  obtain ⟨g2, hg2⟩ : ∃ g2, g2 = gPick g cp (decide (cx = 0)) := ⟨_, rfl⟩
  have HG2 := hid (show g2.nd.length = g.nd.length by rw [hg2]; exact gPick_len _ _ _)
  have HG3 := hid (show g2.ak = g.ak by rw [hg2]; exact gPick_ak _ _ _)
  have HG4 := hid (show 0 ≤ g2.dn ∧ g2.dn ≤ 2147483646 by rw [hg2]; unfold gPick gReport gBegin; (repeat' split) <;> ((try dsimp only) <;> omega))
  have HAK := hid hak
  rw [← hcx, ← hg2]
  have HGE := hid hg2; have HCX := hid hcx
  clear h hp hcp hcn hnq hdn hak hg2 hcx hlen1
  have bx := below_box w (.cells (rcells s g a) 30)
  replace HR := hid (HR.out.step bx); replace HB := hid (below_then HB.out bx)
  clear bx
  have P := hid (Blk.new w 30 (rcells s g a))
  have bx := below_box (w.alloc (.cells (rcells s g a) 30)) (.cells #[.int .i64 0, .slice none 0 0, .slice none 0 0, .int .i64 0, .int .i64 0, .bool false, .slice none 0 0, .slice none 0 0] 30)
  replace HR := hid (HR.out.step bx); replace P := hid (P.out.step bx); replace HB := hid (below_then HB.out bx)
  clear bx
  have PZ := hid (Blk.new2 w 30 #[.int .i64 0, .slice none 0 0, .slice none 0 0, .int .i64 0, .int .i64 0, .bool false, .slice none 0 0, .slice none 0 0] (.cells (rcells s g a) 30))
  go_enter Tryz.func37, Tryz.ntmps37
  obtain ⟨y00, y01, y02, y03, y04, y05, y06, y07, yf0⟩ := P.out.cells8
  obtain ⟨y10, y11, y12, y13, y14, y15, y16, y17, yf1⟩ := PZ.out.cells8
  go_upto_region 1 with fail
  clear y00 y01 y02 y03 y04 y05 y06 y07 yf0 y10 y11 y12 y13 y14 y15 y16 y17 yf1
  have hz0 := hid (show ((w.alloc (.cells (rcells s g a) 30)).alloc (.cells #[.int .i64 0, .slice none 0 0, .slice none 0 0, .int .i64 0, .int .i64 0, .bool false, .slice none 0 0, .slice none 0 0] 30)).heap.size = w.heap.size + 2 by simp)
  generalize (w.alloc (.cells (rcells s g a) 30)).alloc (.cells #[.int .i64 0, .slice none 0 0, .slice none 0 0, .int .i64 0, .int .i64 0, .bool false, .slice none 0 0, .slice none 0 0] 30) = W0 at *
  obtain ⟨b1, o1, hA, _, _, hrow⟩ := HR.out.rcr.rd.hx.row (by have := HCN.out; omega)
  have HROW := hid (show ∀ W', Below W0.heap.size W0 W' → W'.cell? ⟨b1, o1 + cp, none⟩ = some (.int .i64 cx) from fun W' hb => by
    obtain ⟨b2, o2, hA2, _, _, hrow2⟩ := (HR.out.step hb).rcr.rd.hx.row (by have := HCN.out; omega)
    rw [hA] at hA2; cases hA2
    have := hrow2 cp HCN.out
    rw [← HCX.out] at this
    exact this)
  have hcci : (cp : Int) < (a.n : Int) := by have := HCN.out; omega
  have HQ := hid (Below.refl W0.heap.size W0)
  clear hrow
  have P0 := hid (show Blk W0 w.heap.size 30 #[.int .i64 s.1, .slice (some ⟨b1, o1, none⟩) a.n a.k, .slice a.B a.m a.d, .int .i64 g.dn, .int .i64 g.ak, .bool g.on, .slice a.D g.nd.length a.kd, .slice a.Q a.nq a.kq] by have := P.out; unfold rcells at this; rw [hA] at this; exact this)
  replace P := P0
  clear P0
  have bx := (Below.refl W0.heap.size W0).drew
  replace P := hid (P.out.step bx); replace PZ := hid (PZ.out.step bx); replace HR := hid (HR.out.step bx); replace HQ := hid (below_then HQ.out bx)
  clear bx
  have hszd := hid (show W0.drew.heap.size = W0.heap.size from rfl)
  refine wp_region_noPanic ?_
  refine wp_region_held_tail 12 (fun W' : World => W'.cell? ⟨w.heap.size, 0, none⟩ = some (.int .i64 s.1) ∧ W'.cell? ⟨w.heap.size, 1, none⟩ = some (.slice (some ⟨b1, o1, none⟩) a.n a.k) ∧ W'.cell? ⟨w.heap.size, 2, none⟩ = some (.slice a.B a.m a.d) ∧ W'.cell? ⟨w.heap.size, 3, none⟩ = some (.int .i64 g.dn) ∧ W'.cell? ⟨w.heap.size, 4, none⟩ = some (.int .i64 g.ak) ∧ W'.cell? ⟨w.heap.size, 5, none⟩ = some (.bool g.on) ∧ W'.cell? ⟨w.heap.size, 6, none⟩ = some (.slice a.D g.nd.length a.kd) ∧ W'.cell? ⟨w.heap.size, 7, none⟩ = some (.slice a.Q a.nq a.kq) ∧ W'.cell? ⟨b1, o1 + cp, none⟩ = some (.int .i64 cx)) #[false, false, false, false, false, false, false, false, false, false, false, false, false] (by kernel_rfl) ⟨P.out.cells8.1, P.out.cells8.2.1, P.out.cells8.2.2.1, P.out.cells8.2.2.2.1, P.out.cells8.2.2.2.2.1, P.out.cells8.2.2.2.2.2.1, P.out.cells8.2.2.2.2.2.2.1, P.out.cells8.2.2.2.2.2.2.2.1, (HROW.out _ HQ.out)⟩ (by kernel_rfl) (by kernel_rfl) (fun hS => ?_)
  generalize W0.drew = Wd at *
  refine tkT 0 hS ?_
  refine tkT 1 hS ?_
  refine tkT 2 hS ?_
  refine tkT 3 hS ?_
  refine tkT 4 hS ?_
  refine tkT 5 hS ?_
  refine tkT 6 hS ?_
  refine tkT 7 hS ?_
  refine tkT 8 hS ?_
  refine tkT 9 hS ?_
  refine rdyT [10] (csyT (fun K hK => ?_) AllReadyT.nil)
  go_simp
  refine (rgpick_any g a.D a.kd cp (decide (cx = 0)) _ HR.out.rcr.gd HNL.out HC.out HD.out).mono ?_
  rintro e w1 ⟨D2, k2, rfl, ho2, hb⟩
  have hsz0 := hid (show Wd.heap.size ≤ w1.heap.size from hb.size)
  replace P := hid (P.out.step hb); replace PZ := hid (PZ.out.step hb); replace HR := hid (HR.out.step hb); replace HQ := hid (below_then HQ.out hb)
  clear hb
  have HO2 := hid ho2
  rw [← HGE.out] at HO2 ⊢
  clear ho2
  go_wp2_with fail
  clear hS
  refine kyT hK ⟨P.out.cells8.1, P.out.cells8.2.1, P.out.cells8.2.2.1, P.out.cells8.2.2.2.1, P.out.cells8.2.2.2.2.1, P.out.cells8.2.2.2.2.2.1, P.out.cells8.2.2.2.2.2.2.1, P.out.cells8.2.2.2.2.2.2.2.1, (HROW.out _ HQ.out)⟩ fun hS => ?_
  clear hK K
  refine tkT 11 hS ?_
  refine wpAnyT_done (by kernel_rfl) ?_
  simp only [List.drop_succ_cons, List.drop_zero]
  clear hS
  have hlo := hid (show w.heap.size + 2 ≤ Wd.heap.size by have := hszd.out; have := hz0.out; omega)
  have HR2 := hid (HR.out.mono (q := fun i => p i ∨ (w.heap.size ≤ i ∧ i < w.heap.size + 2)) (fun i hi => hi.elim .inl (fun h => .inr h.1)))
  have HRG : Hid (RcP (fun i => p i ∨ (w.heap.size ≤ i ∧ i < w.heap.size + 2)) w1 s g2 es { a with D := D2, kd := k2 }) := by
    rcases HO2.out with ho | ⟨h1, h2, h3⟩
    · refine hid (HR2.out.setG (ho.forP (fun i hi => ?_)) (by rw [HG2.out]; exact HNL.out) (by have := HG4.out; have := HG3.out; have := HAK.out; omega))
      have := hlo.out
      rcases hi with hi | hi
      · have := HP.out i hi; omega
      · omega
    · rw [h1, h2, h3]; exact HR2
  clear hcci hszd HO2 HR hlo HROW
  have HBQ := hid (below_then HB.out (HQ.out.mono (by have := hz0.out; omega)))
  clear HB HQ hz0
  obtain ⟨y00, y01, y02, y03, y04, y05, y06, y07, yf0⟩ := P.out.cells8
  go_wp2_with fail
  refine NoPanic.normal ?_
  clear y00 y01 y02 y03 y04 y05 y06 y07 yf0
  have hbk0 : Blk (w1.setCell ⟨w.heap.size, 3, none⟩ (.int .i64 g2.dn)) (w.heap.size) 30 #[.int .i64 s.1, .slice (some ⟨b1, o1, none⟩) a.n a.k, .slice a.B a.m a.d, .int .i64 g2.dn, .int .i64 g.ak, .bool g.on, .slice a.D g.nd.length a.kd, .slice a.Q a.nq a.kq] := P.out.setCell 3 (.int .i64 g2.dn)
  have hbk1 : Blk ((w1.setCell ⟨w.heap.size, 3, none⟩ (.int .i64 g2.dn)).setCell ⟨w.heap.size, 4, none⟩ (.int .i64 g2.ak)) (w.heap.size) 30 #[.int .i64 s.1, .slice (some ⟨b1, o1, none⟩) a.n a.k, .slice a.B a.m a.d, .int .i64 g2.dn, .int .i64 g2.ak, .bool g.on, .slice a.D g.nd.length a.kd, .slice a.Q a.nq a.kq] := hbk0.setCell 4 (.int .i64 g2.ak)
  have hbk2 : Blk (((w1.setCell ⟨w.heap.size, 3, none⟩ (.int .i64 g2.dn)).setCell ⟨w.heap.size, 4, none⟩ (.int .i64 g2.ak)).setCell ⟨w.heap.size, 5, none⟩ (.bool g2.on)) (w.heap.size) 30 #[.int .i64 s.1, .slice (some ⟨b1, o1, none⟩) a.n a.k, .slice a.B a.m a.d, .int .i64 g2.dn, .int .i64 g2.ak, .bool g2.on, .slice a.D g.nd.length a.kd, .slice a.Q a.nq a.kq] := hbk1.setCell 5 (.bool g2.on)
  have hbk3 : Blk ((((w1.setCell ⟨w.heap.size, 3, none⟩ (.int .i64 g2.dn)).setCell ⟨w.heap.size, 4, none⟩ (.int .i64 g2.ak)).setCell ⟨w.heap.size, 5, none⟩ (.bool g2.on)).setCell ⟨w.heap.size, 6, none⟩ (.slice D2 g2.nd.length k2)) (w.heap.size) 30 #[.int .i64 s.1, .slice (some ⟨b1, o1, none⟩) a.n a.k, .slice a.B a.m a.d, .int .i64 g2.dn, .int .i64 g2.ak, .bool g2.on, .slice D2 g2.nd.length k2, .slice a.Q a.nq a.kq] := hbk2.setCell 6 (.slice D2 g2.nd.length k2)
  have hgr : w1.grownBy ((((w1.setCell ⟨w.heap.size, 3, none⟩ (.int .i64 g2.dn)).setCell ⟨w.heap.size, 4, none⟩ (.int .i64 g2.ak)).setCell ⟨w.heap.size, 5, none⟩ (.bool g2.on)).setCell ⟨w.heap.size, 6, none⟩ (.slice D2 g2.nd.length k2)) (some (w.heap.size)) := (grown_set (grown_set (grown_set (grown_set (World.grownBy.refl w1 (some (w.heap.size))) 3 (.int .i64 g2.dn)) 4 (.int .i64 g2.ak)) 5 (.bool g2.on)) 6 (.slice D2 g2.nd.length k2))
  replace P := hid hbk3
  clear hbk0 hbk1 hbk2 hbk3
  generalize (((w1.setCell ⟨w.heap.size, 3, none⟩ (.int .i64 g2.dn)).setCell ⟨w.heap.size, 4, none⟩ (.int .i64 g2.ak)).setCell ⟨w.heap.size, 5, none⟩ (.bool g2.on)).setCell ⟨w.heap.size, 6, none⟩ (.slice D2 g2.nd.length k2) = w2 at *
  replace HR2 := hid (HR2.out.turn hgr (.inr (by omega))); replace HRG := hid (HRG.out.turn hgr (.inr (by omega)))
  replace PZ := hid (PZ.out.grown hgr (by simp)); replace HBQ := hid (HBQ.out.grown hgr HBQ.out.size (fun r e => by cases e; exact Nat.le_refl _))
  clear hgr
  have P2 : Hid (Blk w2 w.heap.size 30 (rcells s g2 { a with D := D2, kd := k2 })) := by have h := P; unfold rcells; dsimp only; rw [hA]; exact h
  clear hA
  obtain ⟨a0, ha0⟩ : ∃ a0 : Ra, a0 = { a with D := D2, kd := k2 } := ⟨_, rfl⟩
  have HQ0 := hid (show a0.Q = a.Q ∧ a0.nq = a.nq by rw [ha0]; exact ⟨rfl, rfl⟩)
  rw [← ha0] at HRG P2
  clear ha0 P HNL HG2 HG3 HC HCX HGE HCN HAK HD
  obtain ⟨y00, y01, y02, y03, y04, y05, y06, y07, yf0⟩ := P2.out.cells8
  have hlr : a0.nq ≤ 1000 := by rw [HQ0.out.2]; exact HLQ.out
  go_wp2_with fail
  clear hlr y00 y01 y02 y03 y04 y05 y06 y07 yf0
  rw [HQ0.out.1, HQ0.out.2]
  have HB0 := hid (Below.refl w2.heap.size w2)
  have HDV : Hid (∀ i, (p i ∨ w.heap.size ≤ i ∧ i < w.heap.size + 2) → i < w.heap.size + 2) := hid (fun i hi => hi.elim (fun h => by have := HP.out i h; omega) (fun h => h.2))
  have HPI : Hid (∀ i, p i → (fun i => p i ∨ (w.heap.size ≤ i ∧ i < w.heap.size + 2)) i) := hid (fun i hi => .inl hi)
  obtain ⟨pp, hpp⟩ : ∃ pp : Nat → Prop, pp = fun i => p i ∨ (w.heap.size ≤ i ∧ i < w.heap.size + 2) := ⟨_, rfl⟩
  have HP2 := hid (show pp w.heap.size ∧ pp (w.heap.size + 1) by rw [hpp]; exact ⟨.inr (by omega), .inr (by omega)⟩)
  replace HDV : Hid (∀ i, pp i → i < w.heap.size + 2) := by rw [hpp]; exact HDV
  rw [← hpp] at HR2 HRG HPI
  have HS2 := hid (show w.heap.size + 2 ≤ w2.heap.size from PZ.out.lt)
  clear hpp
  go_loopw [22] (fun i wr => ∃ (j : Nat) (a' : Ra) (es' : List Qe), j ≤ a.nq ∧ i = .int .i64 j ∧ ql es' = ovN g2.dn (ql es) j ∧ a'.nq = es'.length ∧ Blk wr w.heap.size 30 (rcells s g2 a') ∧ RcP pp wr s g2 es' a' ∧ Below w.heap.size w wr ∧ Blk wr (w.heap.size + 1) 30 #[.int .i64 0, .slice none 0 0, .slice none 0 0, .int .i64 0, .int .i64 0, .bool false, .slice none 0 0, .slice none 0 0] ∧ RcP pp wr s g es a ∧ w.heap.size + 2 ≤ wr.heap.size) (fun i _ => a.nq - (intOf i).toNat)
  case atStart => exact ⟨0, a0, es, Nat.zero_le _, rfl, (ovN_zero _ _).symm, by rw [HQ0.out.2]; exact HNQ.out, P2.out, HRG.out, HBQ.out, PZ.out, HR2.out, HS2.out⟩
  case round =>
    obtain ⟨j, a', es', hj, rfl, hqs, hnq, hP, hR, hB, hZ, hO, hsz⟩ := hrel
    have HQS := hid hqs; have HN' := hid hnq; have HPP := hid hP; have HRR := hid hR; have HBB := hid hB; have HZZ := hid hZ; have HOO := hid hO; have HSZ := hid hsz
    clear hqs hnq hP hR hB hZ hO hsz P2 HRG HBQ HB0 HQ0 PZ HR2 HS2
    by_cases hjn : j < a.nq
    rotate_left
    · obtain rfl : j = a.nq := by omega
      skip
      have hnn : ¬ ((a.nq : Int) < (a.nq : Int)) := by omega
      rw [ovN_all _ _ (by rw [ql_len]; exact HNQ.out)] at HQS
      obtain ⟨y00, y01, y02, y03, y04, y05, y06, y07, yf0⟩ := HPP.out.cells8
      obtain ⟨y10, y11, y12, y13, y14, y15, y16, y17, yf1⟩ := HZZ.out.cells8
      go_wp2_with fail
      clear y00 y01 y02 y03 y04 y05 y06 y07 yf0 y10 y11 y12 y13 y14 y15 y16 y17 yf1
      have hbk0 : Blk (wr.setCell ⟨w.heap.size + 1, 0, none⟩ (.int .i64 s.1)) (w.heap.size + 1) 30 #[.int .i64 s.1, .slice none 0 0, .slice none 0 0, .int .i64 0, .int .i64 0, .bool false, .slice none 0 0, .slice none 0 0] := HZZ.out.setCell 0 (.int .i64 s.1)
      have hbk1 : Blk ((wr.setCell ⟨w.heap.size + 1, 0, none⟩ (.int .i64 s.1)).setCell ⟨w.heap.size + 1, 1, none⟩ (.slice a'.A a'.n a'.k)) (w.heap.size + 1) 30 #[.int .i64 s.1, .slice a'.A a'.n a'.k, .slice none 0 0, .int .i64 0, .int .i64 0, .bool false, .slice none 0 0, .slice none 0 0] := hbk0.setCell 1 (.slice a'.A a'.n a'.k)
      have hbk2 : Blk (((wr.setCell ⟨w.heap.size + 1, 0, none⟩ (.int .i64 s.1)).setCell ⟨w.heap.size + 1, 1, none⟩ (.slice a'.A a'.n a'.k)).setCell ⟨w.heap.size + 1, 2, none⟩ (.slice a'.B a'.m a'.d)) (w.heap.size + 1) 30 #[.int .i64 s.1, .slice a'.A a'.n a'.k, .slice a'.B a'.m a'.d, .int .i64 0, .int .i64 0, .bool false, .slice none 0 0, .slice none 0 0] := hbk1.setCell 2 (.slice a'.B a'.m a'.d)
      have hbk3 : Blk ((((wr.setCell ⟨w.heap.size + 1, 0, none⟩ (.int .i64 s.1)).setCell ⟨w.heap.size + 1, 1, none⟩ (.slice a'.A a'.n a'.k)).setCell ⟨w.heap.size + 1, 2, none⟩ (.slice a'.B a'.m a'.d)).setCell ⟨w.heap.size + 1, 3, none⟩ (.int .i64 g2.dn)) (w.heap.size + 1) 30 #[.int .i64 s.1, .slice a'.A a'.n a'.k, .slice a'.B a'.m a'.d, .int .i64 g2.dn, .int .i64 0, .bool false, .slice none 0 0, .slice none 0 0] := hbk2.setCell 3 (.int .i64 g2.dn)
      have hbk4 : Blk (((((wr.setCell ⟨w.heap.size + 1, 0, none⟩ (.int .i64 s.1)).setCell ⟨w.heap.size + 1, 1, none⟩ (.slice a'.A a'.n a'.k)).setCell ⟨w.heap.size + 1, 2, none⟩ (.slice a'.B a'.m a'.d)).setCell ⟨w.heap.size + 1, 3, none⟩ (.int .i64 g2.dn)).setCell ⟨w.heap.size + 1, 4, none⟩ (.int .i64 g2.ak)) (w.heap.size + 1) 30 #[.int .i64 s.1, .slice a'.A a'.n a'.k, .slice a'.B a'.m a'.d, .int .i64 g2.dn, .int .i64 g2.ak, .bool false, .slice none 0 0, .slice none 0 0] := hbk3.setCell 4 (.int .i64 g2.ak)
      have hbk5 : Blk ((((((wr.setCell ⟨w.heap.size + 1, 0, none⟩ (.int .i64 s.1)).setCell ⟨w.heap.size + 1, 1, none⟩ (.slice a'.A a'.n a'.k)).setCell ⟨w.heap.size + 1, 2, none⟩ (.slice a'.B a'.m a'.d)).setCell ⟨w.heap.size + 1, 3, none⟩ (.int .i64 g2.dn)).setCell ⟨w.heap.size + 1, 4, none⟩ (.int .i64 g2.ak)).setCell ⟨w.heap.size + 1, 5, none⟩ (.bool g2.on)) (w.heap.size + 1) 30 #[.int .i64 s.1, .slice a'.A a'.n a'.k, .slice a'.B a'.m a'.d, .int .i64 g2.dn, .int .i64 g2.ak, .bool g2.on, .slice none 0 0, .slice none 0 0] := hbk4.setCell 5 (.bool g2.on)
      have hbk6 : Blk (((((((wr.setCell ⟨w.heap.size + 1, 0, none⟩ (.int .i64 s.1)).setCell ⟨w.heap.size + 1, 1, none⟩ (.slice a'.A a'.n a'.k)).setCell ⟨w.heap.size + 1, 2, none⟩ (.slice a'.B a'.m a'.d)).setCell ⟨w.heap.size + 1, 3, none⟩ (.int .i64 g2.dn)).setCell ⟨w.heap.size + 1, 4, none⟩ (.int .i64 g2.ak)).setCell ⟨w.heap.size + 1, 5, none⟩ (.bool g2.on)).setCell ⟨w.heap.size + 1, 6, none⟩ (.slice a'.D g2.nd.length a'.kd)) (w.heap.size + 1) 30 #[.int .i64 s.1, .slice a'.A a'.n a'.k, .slice a'.B a'.m a'.d, .int .i64 g2.dn, .int .i64 g2.ak, .bool g2.on, .slice a'.D g2.nd.length a'.kd, .slice none 0 0] := hbk5.setCell 6 (.slice a'.D g2.nd.length a'.kd)
      have hbk7 : Blk ((((((((wr.setCell ⟨w.heap.size + 1, 0, none⟩ (.int .i64 s.1)).setCell ⟨w.heap.size + 1, 1, none⟩ (.slice a'.A a'.n a'.k)).setCell ⟨w.heap.size + 1, 2, none⟩ (.slice a'.B a'.m a'.d)).setCell ⟨w.heap.size + 1, 3, none⟩ (.int .i64 g2.dn)).setCell ⟨w.heap.size + 1, 4, none⟩ (.int .i64 g2.ak)).setCell ⟨w.heap.size + 1, 5, none⟩ (.bool g2.on)).setCell ⟨w.heap.size + 1, 6, none⟩ (.slice a'.D g2.nd.length a'.kd)).setCell ⟨w.heap.size + 1, 7, none⟩ (.slice a'.Q a'.nq a'.kq)) (w.heap.size + 1) 30 #[.int .i64 s.1, .slice a'.A a'.n a'.k, .slice a'.B a'.m a'.d, .int .i64 g2.dn, .int .i64 g2.ak, .bool g2.on, .slice a'.D g2.nd.length a'.kd, .slice a'.Q a'.nq a'.kq] := hbk6.setCell 7 (.slice a'.Q a'.nq a'.kq)
      have hgr : wr.grownBy ((((((((wr.setCell ⟨w.heap.size + 1, 0, none⟩ (.int .i64 s.1)).setCell ⟨w.heap.size + 1, 1, none⟩ (.slice a'.A a'.n a'.k)).setCell ⟨w.heap.size + 1, 2, none⟩ (.slice a'.B a'.m a'.d)).setCell ⟨w.heap.size + 1, 3, none⟩ (.int .i64 g2.dn)).setCell ⟨w.heap.size + 1, 4, none⟩ (.int .i64 g2.ak)).setCell ⟨w.heap.size + 1, 5, none⟩ (.bool g2.on)).setCell ⟨w.heap.size + 1, 6, none⟩ (.slice a'.D g2.nd.length a'.kd)).setCell ⟨w.heap.size + 1, 7, none⟩ (.slice a'.Q a'.nq a'.kq)) (some (w.heap.size + 1)) := (grown_set (grown_set (grown_set (grown_set (grown_set (grown_set (grown_set (grown_set (World.grownBy.refl wr (some (w.heap.size + 1))) 0 (.int .i64 s.1)) 1 (.slice a'.A a'.n a'.k)) 2 (.slice a'.B a'.m a'.d)) 3 (.int .i64 g2.dn)) 4 (.int .i64 g2.ak)) 5 (.bool g2.on)) 6 (.slice a'.D g2.nd.length a'.kd)) 7 (.slice a'.Q a'.nq a'.kq))
      replace HZZ := hid hbk7
      clear hbk0 hbk1 hbk2 hbk3 hbk4 hbk5 hbk6 hbk7
      generalize (((((((wr.setCell ⟨w.heap.size + 1, 0, none⟩ (.int .i64 s.1)).setCell ⟨w.heap.size + 1, 1, none⟩ (.slice a'.A a'.n a'.k)).setCell ⟨w.heap.size + 1, 2, none⟩ (.slice a'.B a'.m a'.d)).setCell ⟨w.heap.size + 1, 3, none⟩ (.int .i64 g2.dn)).setCell ⟨w.heap.size + 1, 4, none⟩ (.int .i64 g2.ak)).setCell ⟨w.heap.size + 1, 5, none⟩ (.bool g2.on)).setCell ⟨w.heap.size + 1, 6, none⟩ (.slice a'.D g2.nd.length a'.kd)).setCell ⟨w.heap.size + 1, 7, none⟩ (.slice a'.Q a'.nq a'.kq) = w9 at *
      replace HRR := hid (HRR.out.turn hgr HP2.out.2)
      replace HBB := hid (HBB.out.grown hgr HBB.out.size (fun r e => by cases e; omega))
      clear hgr
      obtain ⟨q0, q1, q2, q3, q4, q5, q6, q7, qf⟩ := HZZ.out.cells8
      refine bodyPost_ret (v := rcv s g2 a') (by simp [results, Tryz.results37, go_sem, q0, q1, q2, q3, q4, q5, q6, q7]) rfl ⟨a', es', rfl, HQS.out, HN'.out, HRR.out.mono HPI.out, HBB.out⟩
    have hji : (j : Int) < (a.nq : Int) := by omega
    have hw1 : IntKind.i64.wrap ((j : Int) + 1) = (j : Int) + 1 := by rw [IntKind.wrap_i64]; have := HLQ.out; omega
    have hw2 : IntKind.u64.wrap g2.dn = g2.dn := by rw [IntKind.wrap_u64]; have := HG4.out; omega
    have hjl : j < es.length := by rw [← HNQ.out]; exact hjn
    obtain ⟨x, hx⟩ : ∃ x, x = es[j]?.getD zQe := ⟨_, rfl⟩
    obtain ⟨b, off, hQ, _, hbh, hc⟩ := HOO.out.rcr.qs.row (by omega)
    have f0 := hc j hjn 0 (by omega)
    have f1 := hc j hjn 1 (by omega)
    rw [← hx] at f0 f1
    have HX := hid ((HOO.out.q_mem (show x ∈ es by rw [hx, List.getElem?_eq_getElem hjl]; exact List.getElem_mem _)).fresh)
    have HRQ := hid HRR.out.fresh; have HO2 := hid HOO.out.fresh
    have hxx : (qAt (ql es) j).1 = x.l := by rw [hx]; unfold qAt ql; rw [List.getElem?_map, List.getElem?_eq_getElem hjl]; rfl
    have HXX := hid hxx; have HJL := hid hjl
    obtain ⟨xl, xo, xA, xn, xc⟩ := x
    replace f0 : wr.cell? ⟨b, off + j * 2, none⟩ = some (.slice xA xn xc) := f0
    replace f1 : wr.cell? ⟨b, off + j * 2 + 1, none⟩ = some (.int .u64 xo) := f1
    rw [hQ]
    clear hx hxx hjl hc hbh hQ
    have bx := below_box wr (.cells #[.slice xA xn xc, .int .u64 xo] 58)
    replace HPP := hid (HPP.out.step bx); replace HZZ := hid (HZZ.out.step bx); replace HRQ := hid (HRQ.out.step bx); replace HO2 := hid (HO2.out.step bx); replace HX := hid (HX.out.step bx); replace HBB := hid (below_then HBB.out bx)
    clear bx
    have PX := hid (Blk.new wr 58 #[.slice xA xn xc, .int .u64 xo])
    obtain ⟨y00, y01, y02, y03, y04, y05, y06, y07, yf0⟩ := HPP.out.cells8
    go_upto_region 5 with fail
    have hz1 := hid (show (wr.alloc (.cells #[.slice xA xn xc, .int .u64 xo] 58)).heap.size = wr.heap.size + 1 by simp)
    generalize wr.alloc (.cells #[.slice xA xn xc, .int .u64 xo] 58) = W3 at *
    clear f0 f1 y00 y01 y02 y03 y04 y05 y06 y07 yf0
    obtain ⟨y00, y01, y02, y03, y04, y05, y06, y07, yf0⟩ := HPP.out.cells8
    obtain ⟨y10, y11, yf1⟩ := PX.out.cells2
    go_upto_region 6 with fail
    clear y10 y11 yf1 y00 y01 y02 y03 y04 y05 y06 y07 yf0
    have hbk0 : Blk (W3.setCell ⟨wr.heap.size, 1, none⟩ (.int .u64 g2.dn)) (wr.heap.size) 58 #[.slice xA xn xc, .int .u64 g2.dn] := PX.out.setCell 1 (.int .u64 g2.dn)
    have hgr : W3.grownBy (W3.setCell ⟨wr.heap.size, 1, none⟩ (.int .u64 g2.dn)) (some (wr.heap.size)) := (grown_set (World.grownBy.refl W3 (some (wr.heap.size))) 1 (.int .u64 g2.dn))
    replace PX := hid hbk0
    clear hbk0
    generalize W3.setCell ⟨wr.heap.size, 1, none⟩ (.int .u64 g2.dn) = W4 at *
    replace HPP := hid (HPP.out.grown hgr (by have := HSZ.out; simp; omega)); replace HZZ := hid (HZZ.out.grown hgr (by have := HSZ.out; simp; omega))
    replace HRQ := hid (HRQ.out.turn hgr (.inr (Nat.le_refl _))); replace HO2 := hid (HO2.out.turn hgr (.inr (Nat.le_refl _))); replace HX := hid (HX.out.turn hgr (.inr (Nat.le_refl _)))
    replace HBB := hid (HBB.out.grown hgr HBB.out.size (fun r e => by cases e; have := HSZ.out; omega))
    have HZ4 := hid (show wr.heap.size + 1 ≤ W4.heap.size by have := hz1.out; have := hgr.size; omega)
    clear hgr
    obtain ⟨y00, y01, y02, y03, y04, y05, y06, y07, yf0⟩ := HPP.out.cells8
    obtain ⟨y10, y11, yf1⟩ := PX.out.cells2
    go_wp2_with fail
    clear y10 y11 yf1 y00 y01 y02 y03 y04 y05 y06 y07 yf0
    have hq : ∀ i, (pp i ∨ i = wr.heap.size) → (pp i ∨ wr.heap.size ≤ i) := fun i hi => hi.elim .inl (fun e => .inr (by omega))
    refine (rwith14_any (fun i => pp i ∨ i = wr.heap.size) s g2 es' a' j ⟨xl, g2.dn, xA, xn, xc⟩ W4 (HRQ.out.mono hq) (fun i hi => ?_) (fun w' k => ?_) (by rw [← ql_len, HQS.out, ovN_len, ql_len]; exact HJL.out) HN'.out).mono ?_
    · have := HSZ.out; have := HZ4.out
      rcases hi with hi | rfl
      · have := HDV.out i hi; omega
      · omega
    · obtain ⟨h1, h2, h3, h4⟩ := (HX.out.mono hq) w' k
      exact ⟨h1, h2, h3, by have := HG4.out; dsimp only; omega⟩
    clear HX HRQ
    rintro e W5 ⟨a2, es2, rfl, hqs, hnq, hR, hb⟩
    have HR2 := hid (hR.mono (q := pp) (fun i hi => .inl hi))
    have HOO2 := hid (((HO2.out.mono hq).mono (q := pp) (fun i hi => .inl hi)).step hb)
    have HQS2 := hid (show ql es2 = ovN g2.dn (ql es) (j + 1) by rw [hqs, HQS.out, ← ovN_succ _ _ (by rw [ql_len]; exact HJL.out), HXX.out])
    have HN2 := hid hnq; have HS5 := hid (Nat.le_trans HZ4.out hb.size)
    clear hq hqs hnq hR HO2 HQS HN' HRR HOO PX
    replace HPP := hid (HPP.out.step hb); replace HZZ := hid (HZZ.out.step hb); replace HBB := hid (below_then HBB.out hb)
    clear hb
    obtain ⟨y00, y01, y02, y03, y04, y05, y06, y07, yf0⟩ := HPP.out.cells8
    go_upto_region 7 with fail
    clear y00 y01 y02 y03 y04 y05 y06 y07 yf0
    have hbk0 : Blk (W5.setCell ⟨w.heap.size, 0, none⟩ (.int .i64 s.1)) (w.heap.size) 30 #[.int .i64 s.1, .slice a'.A a'.n a'.k, .slice a'.B a'.m a'.d, .int .i64 g2.dn, .int .i64 g2.ak, .bool g2.on, .slice a'.D g2.nd.length a'.kd, .slice a'.Q a'.nq a'.kq] := HPP.out.setCell 0 (.int .i64 s.1)
    have hbk1 : Blk ((W5.setCell ⟨w.heap.size, 0, none⟩ (.int .i64 s.1)).setCell ⟨w.heap.size, 1, none⟩ (.slice a2.A a2.n a2.k)) (w.heap.size) 30 #[.int .i64 s.1, .slice a2.A a2.n a2.k, .slice a'.B a'.m a'.d, .int .i64 g2.dn, .int .i64 g2.ak, .bool g2.on, .slice a'.D g2.nd.length a'.kd, .slice a'.Q a'.nq a'.kq] := hbk0.setCell 1 (.slice a2.A a2.n a2.k)
    have hbk2 : Blk (((W5.setCell ⟨w.heap.size, 0, none⟩ (.int .i64 s.1)).setCell ⟨w.heap.size, 1, none⟩ (.slice a2.A a2.n a2.k)).setCell ⟨w.heap.size, 2, none⟩ (.slice a2.B a2.m a2.d)) (w.heap.size) 30 #[.int .i64 s.1, .slice a2.A a2.n a2.k, .slice a2.B a2.m a2.d, .int .i64 g2.dn, .int .i64 g2.ak, .bool g2.on, .slice a'.D g2.nd.length a'.kd, .slice a'.Q a'.nq a'.kq] := hbk1.setCell 2 (.slice a2.B a2.m a2.d)
    have hbk3 : Blk ((((W5.setCell ⟨w.heap.size, 0, none⟩ (.int .i64 s.1)).setCell ⟨w.heap.size, 1, none⟩ (.slice a2.A a2.n a2.k)).setCell ⟨w.heap.size, 2, none⟩ (.slice a2.B a2.m a2.d)).setCell ⟨w.heap.size, 3, none⟩ (.int .i64 g2.dn)) (w.heap.size) 30 #[.int .i64 s.1, .slice a2.A a2.n a2.k, .slice a2.B a2.m a2.d, .int .i64 g2.dn, .int .i64 g2.ak, .bool g2.on, .slice a'.D g2.nd.length a'.kd, .slice a'.Q a'.nq a'.kq] := hbk2.setCell 3 (.int .i64 g2.dn)
    have hbk4 : Blk (((((W5.setCell ⟨w.heap.size, 0, none⟩ (.int .i64 s.1)).setCell ⟨w.heap.size, 1, none⟩ (.slice a2.A a2.n a2.k)).setCell ⟨w.heap.size, 2, none⟩ (.slice a2.B a2.m a2.d)).setCell ⟨w.heap.size, 3, none⟩ (.int .i64 g2.dn)).setCell ⟨w.heap.size, 4, none⟩ (.int .i64 g2.ak)) (w.heap.size) 30 #[.int .i64 s.1, .slice a2.A a2.n a2.k, .slice a2.B a2.m a2.d, .int .i64 g2.dn, .int .i64 g2.ak, .bool g2.on, .slice a'.D g2.nd.length a'.kd, .slice a'.Q a'.nq a'.kq] := hbk3.setCell 4 (.int .i64 g2.ak)
    have hbk5 : Blk ((((((W5.setCell ⟨w.heap.size, 0, none⟩ (.int .i64 s.1)).setCell ⟨w.heap.size, 1, none⟩ (.slice a2.A a2.n a2.k)).setCell ⟨w.heap.size, 2, none⟩ (.slice a2.B a2.m a2.d)).setCell ⟨w.heap.size, 3, none⟩ (.int .i64 g2.dn)).setCell ⟨w.heap.size, 4, none⟩ (.int .i64 g2.ak)).setCell ⟨w.heap.size, 5, none⟩ (.bool g2.on)) (w.heap.size) 30 #[.int .i64 s.1, .slice a2.A a2.n a2.k, .slice a2.B a2.m a2.d, .int .i64 g2.dn, .int .i64 g2.ak, .bool g2.on, .slice a'.D g2.nd.length a'.kd, .slice a'.Q a'.nq a'.kq] := hbk4.setCell 5 (.bool g2.on)
    have hbk6 : Blk (((((((W5.setCell ⟨w.heap.size, 0, none⟩ (.int .i64 s.1)).setCell ⟨w.heap.size, 1, none⟩ (.slice a2.A a2.n a2.k)).setCell ⟨w.heap.size, 2, none⟩ (.slice a2.B a2.m a2.d)).setCell ⟨w.heap.size, 3, none⟩ (.int .i64 g2.dn)).setCell ⟨w.heap.size, 4, none⟩ (.int .i64 g2.ak)).setCell ⟨w.heap.size, 5, none⟩ (.bool g2.on)).setCell ⟨w.heap.size, 6, none⟩ (.slice a2.D g2.nd.length a2.kd)) (w.heap.size) 30 #[.int .i64 s.1, .slice a2.A a2.n a2.k, .slice a2.B a2.m a2.d, .int .i64 g2.dn, .int .i64 g2.ak, .bool g2.on, .slice a2.D g2.nd.length a2.kd, .slice a'.Q a'.nq a'.kq] := hbk5.setCell 6 (.slice a2.D g2.nd.length a2.kd)
    have hbk7 : Blk ((((((((W5.setCell ⟨w.heap.size, 0, none⟩ (.int .i64 s.1)).setCell ⟨w.heap.size, 1, none⟩ (.slice a2.A a2.n a2.k)).setCell ⟨w.heap.size, 2, none⟩ (.slice a2.B a2.m a2.d)).setCell ⟨w.heap.size, 3, none⟩ (.int .i64 g2.dn)).setCell ⟨w.heap.size, 4, none⟩ (.int .i64 g2.ak)).setCell ⟨w.heap.size, 5, none⟩ (.bool g2.on)).setCell ⟨w.heap.size, 6, none⟩ (.slice a2.D g2.nd.length a2.kd)).setCell ⟨w.heap.size, 7, none⟩ (.slice a2.Q a2.nq a2.kq)) (w.heap.size) 30 #[.int .i64 s.1, .slice a2.A a2.n a2.k, .slice a2.B a2.m a2.d, .int .i64 g2.dn, .int .i64 g2.ak, .bool g2.on, .slice a2.D g2.nd.length a2.kd, .slice a2.Q a2.nq a2.kq] := hbk6.setCell 7 (.slice a2.Q a2.nq a2.kq)
    have hgr : W5.grownBy ((((((((W5.setCell ⟨w.heap.size, 0, none⟩ (.int .i64 s.1)).setCell ⟨w.heap.size, 1, none⟩ (.slice a2.A a2.n a2.k)).setCell ⟨w.heap.size, 2, none⟩ (.slice a2.B a2.m a2.d)).setCell ⟨w.heap.size, 3, none⟩ (.int .i64 g2.dn)).setCell ⟨w.heap.size, 4, none⟩ (.int .i64 g2.ak)).setCell ⟨w.heap.size, 5, none⟩ (.bool g2.on)).setCell ⟨w.heap.size, 6, none⟩ (.slice a2.D g2.nd.length a2.kd)).setCell ⟨w.heap.size, 7, none⟩ (.slice a2.Q a2.nq a2.kq)) (some (w.heap.size)) := (grown_set (grown_set (grown_set (grown_set (grown_set (grown_set (grown_set (grown_set (World.grownBy.refl W5 (some (w.heap.size))) 0 (.int .i64 s.1)) 1 (.slice a2.A a2.n a2.k)) 2 (.slice a2.B a2.m a2.d)) 3 (.int .i64 g2.dn)) 4 (.int .i64 g2.ak)) 5 (.bool g2.on)) 6 (.slice a2.D g2.nd.length a2.kd)) 7 (.slice a2.Q a2.nq a2.kq))
    replace HPP := hid hbk7
    clear hbk0 hbk1 hbk2 hbk3 hbk4 hbk5 hbk6 hbk7
    generalize (((((((W5.setCell ⟨w.heap.size, 0, none⟩ (.int .i64 s.1)).setCell ⟨w.heap.size, 1, none⟩ (.slice a2.A a2.n a2.k)).setCell ⟨w.heap.size, 2, none⟩ (.slice a2.B a2.m a2.d)).setCell ⟨w.heap.size, 3, none⟩ (.int .i64 g2.dn)).setCell ⟨w.heap.size, 4, none⟩ (.int .i64 g2.ak)).setCell ⟨w.heap.size, 5, none⟩ (.bool g2.on)).setCell ⟨w.heap.size, 6, none⟩ (.slice a2.D g2.nd.length a2.kd)).setCell ⟨w.heap.size, 7, none⟩ (.slice a2.Q a2.nq a2.kq) = W6 at *
    replace HZZ := hid (HZZ.out.grown hgr (by simp))
    replace HR2 := hid (HR2.out.turn hgr HP2.out.1); replace HOO2 := hid (HOO2.out.turn hgr HP2.out.1)
    replace HBB := hid (HBB.out.grown hgr HBB.out.size (fun r e => by cases e; exact Nat.le_refl _))
    have HS6 := hid (show w.heap.size + 2 ≤ W6.heap.size by have := hgr.size; have := HSZ.out; have := HS5.out; omega)
    clear hgr
    go_wp2_with fail
    refine ⟨⟨j + 1, a2, es2, by omega, rfl, HQS2.out, HN2.out, HPP.out, HR2.out, HBB.out, HZZ.out, HOO2.out, HS6.out⟩, ?_⟩
    have h1 : intOf (.int .i64 ((j : Int) + 1)) = (j : Int) + 1 := rfl
    have h2 : intOf (.int .i64 (j : Int)) = (j : Int) := rfl
    rw [h1, h2]
    omega
end Go.Proofs.YtfipdoofgbjbjaaGreat
