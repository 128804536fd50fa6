/- Walks and plain laws for this claim, part 7. No condition but sizes. -/
import Derived.Test.YtfipdoofgbjbjaaGreatM6
import Derived.Deep.DeepCutAuto
import Derived.Deep.CutBlock
import Derived.Test.YtfipdoofgbjbjaaGreatM1
/- afterglowlaw14: own, op. No condition but sizes, and that numbers are of their kinds. -/
namespace Go.Proofs.YtfipdoofgbjbjaaGreat
open Go.RowKit
attribute [local go_sem] Oper.semAt_some
/-- all of it, as it came in -/
structure RcIn (w : World) (s : St) (g : Gr) (es : List Qe) (a : Ra) : Prop where
  ra : Sl i64 0 w 0 w.heap.size a.A a.n s.2.1
  ka : a.n ≤ a.k
  rb : Sl i64 0 w 0 w.heap.size a.B a.m s.2.2
  kb : a.m ≤ a.d
  gd : Sl blv false w 0 w.heap.size a.D g.nd.length g.nd
  kd : g.nd.length ≤ a.kd
  gi : g.dn ≤ 9223372036854775807 ∧ g.ak ≤ 9223372036854775807
  qs : Sm 2 encQ zQe w 0 w.heap.size a.Q a.nq es
  kq : a.nq ≤ a.kq
  qe : ∀ x ∈ es, Sm 2 encC (0, 0) w 0 w.heap.size x.A x.n x.l ∧ x.n ≤ x.c ∧ 0 ≤ x.o ∧ x.o ≤ 18446744073709551615
theorem RcIn.step {w w' : World} {s : St} {g : Gr} {es : List Qe} {a : Ra} (h : RcIn w s g es a) (hb : Below w.heap.size w w') : RcIn w' s g es a :=
  ⟨h.ra.step hb, h.ka, h.rb.step hb, h.kb, h.gd.step hb, h.kd, h.gi, h.qs.step hb, h.kq, fun x hx => ⟨(h.qe x hx).1.step hb, (h.qe x hx).2⟩⟩
def cutS (s : St) : St := (s.1, s.2.1.take 9, s.2.2.take 9)
def cutG (g : Gr) : Gr := ⟨g.nd.take 9, g.dn, g.ak, g.on⟩
def cutQ (es : List Qe) : Qs := (es.take 9).map fun x => (x.l.take 18, x.o)
def LoPost (s : St) (g : Gr) (es : List Qe) (w : World) (e : Ending) (w' : World) : Prop :=
  ∃ a' es', e = .returned (rcv (cutS s) (cutG g) a') ∧ ql es' = cutQ es ∧ RcT w' w.heap.size (cutS s) (cutG g) es' a' ∧ Below w.heap.size w w'
theorem min9 (n c : Nat) (hn : n ≤ c) : ∃ m, m = min n 9 ∧ (if (9 : Int) < (n : Int) then (9 : Int) else (n : Int)) = (m : Int) ∧ min (n : Int) 9 = (m : Int) ∧ (m : Int) ≤ (c : Int) ∧ (0 : Int) ≤ (m : Int) ∧ m ≤ 9 ∧ m ≤ n :=
  ⟨min n 9, rfl, by split <;> omega, by omega, by omega, by omega, by omega, by omega⟩
theorem min18 (n c : Nat) (hn : n ≤ c) : ∃ m, m = min n 18 ∧ (if (18 : Int) < (n : Int) then (18 : Int) else (n : Int)) = (m : Int) ∧ min (n : Int) 18 = (m : Int) ∧ (m : Int) ≤ (c : Int) ∧ (0 : Int) ≤ (m : Int) ∧ m ≤ 18 ∧ m ≤ n :=
  ⟨min n 18, rfl, by split <;> omega, by omega, by omega, by omega, by omega, by omega⟩
theorem Sl.cut {α : Type} {enc : α → Value} {d : α} {w : World} {lo hi n k : Nat} {A : Option Addr} {xs : List α} (h : Sl enc d w lo hi A n xs) : Sl enc d w lo hi A (min n k) (xs.take k) := by
  by_cases hk : n ≤ k
  · rw [show min n k = n by omega, List.take_of_length_le (by rw [h.len]; exact hk)]; exact h
  · rw [show min n k = k by omega]; exact h.take (by omega)
theorem Sm.cut {α : Type} {sz : Nat} {enc : α → Nat → Value} {d : α} {w : World} {lo hi n k : Nat} {A : Option Addr} {xs : List α} (h : Sm sz enc d w lo hi A n xs) : Sm sz enc d w lo hi A (min n k) (xs.take k) := by
  by_cases hk : n ≤ k
  · rw [show min n k = n by omega, List.take_of_length_le (by rw [h.len]; exact hk)]; exact h
  · rw [show min n k = k by omega]; exact h.take (by omega)
/-- behind own's first step -/
def OwnI (W0 W : World) (g3 : Nat) (s : St) (A : Option Addr) (n k : Nat) (B : Option Addr) (m d : Nat) : Prop :=
  W0.heap.size ≤ g3 ∧ Blk W g3 30 #[.int .i64 s.1, .slice A n k, .slice B m d, .int .i64 0, .int .i64 0, .bool false, .slice none 0 0, .slice none 0 0] ∧ Rown W W0.heap.size A n k B m d s.2.1 s.2.2 ∧ Below W0.heap.size W0 W
theorem op_any (k c x : Int) (w : World) : Calls Tryz.prog 26 #[.int .i64 k, .int .i64 c, .int .u64 x] w fun e w' => e = .returned (.agg (ocs (k, c, x))) ∧ Below w.heap.size w w' := by
  have HB := hid (Below.refl w.heap.size w)
  have bx := below_box w (.cells #[.int .i64 0, .int .i64 0, .int .u64 0] 37)
  replace HB := hid (below_then HB.out bx)
  clear bx
  have PO := hid (Blk.new w 37 #[.int .i64 0, .int .i64 0, .int .u64 0])
  go_enter Tryz.func26, Tryz.ntmps26
  obtain ⟨y00, y01, y02, yf0⟩ := PO.out.cells3
  go_wp2
  clear y00 y01 y02 yf0 HB PO
  obtain ⟨y00, y01, y02, yf0⟩ := (Blk.new w 37 #[.int .i64 k, .int .i64 c, .int .u64 x]).cells3
  exact bodyPost_ret (v := .agg (ocs (k, c, x))) (by simp [results, Tryz.results26, go_sem, y00, y01, y02]) rfl ⟨rfl, below_box w _⟩
set_option maxRecDepth 100000 in
set_option maxHeartbeats 8000000 in
theorem lown_any (s : St) (g : Gr) (es : List Qe) (a : Ra) (w : World) (h : RcIn w s g es a) : Calls Tryz.prog 7 #[rcv s g a] w (LoPost s g es w) := by
  obtain ⟨A, n, k, B, m, d, D, kd, Q, nq, kq⟩ := a
  obtain ⟨now, ns, os⟩ := s
  obtain ⟨m1, hm1, e11, e12, e13, e14, e15, _⟩ := min9 n k h.ka
  obtain ⟨m2, hm2, e21, e22, e23, e24, e25, _⟩ := min9 m d h.kb
  obtain ⟨m3, hm3, e31, e32, e33, e34, e35, _⟩ := min9 g.nd.length kd h.kd
  obtain ⟨m4, hm4, e41, e42, e43, e44, e45, e46⟩ := min9 nq kq h.kq
  have R1 := hid (show Sl i64 0 w 0 w.heap.size A m1 (ns.take 9) by rw [hm1]; exact h.ra.cut)
  have R2 := hid (show Sl i64 0 w 0 w.heap.size B m2 (os.take 9) by rw [hm2]; exact h.rb.cut)
  have R3 := hid (show Sl blv false w 0 w.heap.size D m3 (g.nd.take 9) by rw [hm3]; exact h.gd.cut)
  have R4 := hid (show Sm 2 encQ zQe w 0 w.heap.size Q m4 (es.take 9) by rw [hm4]; exact h.qs.cut)
  have hl3 := hid (show m3 = (g.nd.take 9).length from R3.out.len.symm)
  have hl3m := hid (show min 9 g.nd.length = m3 by omega)
  have HI := hid h; have HB := hid (Below.refl w.heap.size w)
  clear h hm1 hm2 hm3 hm4
  have bx := below_box w (.cells #[.int .i64 now, .slice A n k, .slice B m d, .int .i64 g.dn, .int .i64 g.ak, .bool g.on, .slice D g.nd.length kd, .slice Q nq kq] 30)
  replace R1 := hid (R1.out.step bx); replace R2 := hid (R2.out.step bx); replace R3 := hid (R3.out.step bx); replace R4 := hid (R4.out.step bx); replace HI := hid (HI.out.step bx); replace HB := hid (below_then HB.out bx)
  clear bx
  have PX := hid (Blk.new w 30 #[.int .i64 now, .slice A n k, .slice B m d, .int .i64 g.dn, .int .i64 g.ak, .bool g.on, .slice D g.nd.length kd, .slice Q nq kq])
  have bx := below_box (w.alloc (.cells #[.int .i64 now, .slice A n k, .slice B m d, .int .i64 g.dn, .int .i64 g.ak, .bool g.on, .slice D g.nd.length kd, .slice Q nq kq] 30)) (.cells #[.int .i64 0, .slice none 0 0, .slice none 0 0, .int .i64 0, .int .i64 0, .bool false, .slice none 0 0, .slice none 0 0] 30)
  replace R1 := hid (R1.out.step bx); replace R2 := hid (R2.out.step bx); replace R3 := hid (R3.out.step bx); replace R4 := hid (R4.out.step bx); replace HI := hid (HI.out.step bx); replace PX := hid (PX.out.step bx); replace HB := hid (below_then HB.out bx)
  clear bx
  have PZ := hid (Blk.new2 w 30 #[.int .i64 0, .slice none 0 0, .slice none 0 0, .int .i64 0, .int .i64 0, .bool false, .slice none 0 0, .slice none 0 0] (.cells #[.int .i64 now, .slice A n k, .slice B m d, .int .i64 g.dn, .int .i64 g.ak, .bool g.on, .slice D g.nd.length kd, .slice Q nq kq] 30))
  go_enter Tryz.func7, Tryz.ntmps7
  go_upto_region 1 with fail
  have hz0 := hid (show ((w.alloc (.cells #[.int .i64 now, .slice A n k, .slice B m d, .int .i64 g.dn, .int .i64 g.ak, .bool g.on, .slice D g.nd.length kd, .slice Q nq kq] 30)).alloc (.cells #[.int .i64 0, .slice none 0 0, .slice none 0 0, .int .i64 0, .int .i64 0, .bool false, .slice none 0 0, .slice none 0 0] 30)).heap.size = w.heap.size + 2 by simp)
  generalize (w.alloc (.cells #[.int .i64 now, .slice A n k, .slice B m d, .int .i64 g.dn, .int .i64 g.ak, .bool g.on, .slice D g.nd.length kd, .slice Q nq kq] 30)).alloc (.cells #[.int .i64 0, .slice none 0 0, .slice none 0 0, .int .i64 0, .int .i64 0, .bool false, .slice none 0 0, .slice none 0 0] 30) = W0 at *
  have HB0 := hid (Below.refl W0.heap.size W0)
  go_cut [3] (fun s3 wx => ∃ g3 A1 c1 B1 d1, s3 = ptr g3 ∧ OwnI W0 wx g3 (now, ns.take 9, os.take 9) A1 m1 c1 B1 m2 d1)
  case first =>
      have bx := (Below.refl W0.heap.size W0).drew
      replace R1 := hid (R1.out.step bx); replace R2 := hid (R2.out.step bx); replace PX := hid (PX.out.step bx); replace HB0 := hid (below_then HB0.out bx)
      clear bx
      have hszd := hid (show W0.drew.heap.size = W0.heap.size from rfl)
      refine wp_region_noPanic ?_
      refine wp_region_held_drew (S := (fun W' : World => W'.cell? ⟨w.heap.size, 0, none⟩ = some (.int .i64 now) ∧ W'.cell? ⟨w.heap.size, 1, none⟩ = some (.slice A n k) ∧ W'.cell? ⟨w.heap.size, 2, none⟩ = some (.slice B m d))) (by kernel_rfl) ⟨PX.out.cells8.1, PX.out.cells8.2.1, PX.out.cells8.2.2.1⟩ (fun hS => ?_)
      generalize W0.drew = Wd at *
      refine tk 0 hS ?_
      refine tk 1 hS ?_
      refine tk 2 hS ?_
      refine tk 3 hS ?_
      refine tk 4 hS ?_
      refine tk 5 hS ?_
      refine tk 6 hS ?_
      refine tk 7 hS ?_
      refine tk 8 hS ?_
      refine tk 9 hS ?_
      refine tk 10 hS ?_
      refine tk 11 hS ?_
      refine tk 13 hS ?_
      refine tk 14 hS ?_
      refine tk 15 hS ?_
      refine tk 16 hS ?_
      refine tk 17 hS ?_
      refine tk 18 hS ?_
      refine tk 19 hS ?_
      refine tk 20 hS ?_
      refine tk 21 hS ?_
      refine rdy [12, 25] (csy (fun K hK => ?_) (csy (fun K hK => ?_) AllReadyH.nil))
      ·skip
       go_simp
       refine (clone_int A m1 k 0 (ns.take 9) _ R1.out (by omega)).mono ?_
       rintro e w12 ⟨A12, c12, rfl, ho, hb⟩
       have hsz0 := hid (show Wd.heap.size ≤ w12.heap.size from hb.size)
       replace R1 := hid (R1.out.step hb); replace R2 := hid (R2.out.step hb); replace PX := hid (PX.out.step hb); replace HB0 := hid (below_then HB0.out hb)
       clear hb
       have O12 := hid (ho.mono (show W0.heap.size ≤ _ by have := hszd.out; omega)); have O12b := hid ho
       go_wp2_with fail
       clear hS
       refine ky hK ⟨PX.out.cells8.1, PX.out.cells8.2.1, PX.out.cells8.2.2.1⟩ fun hS => ?_
       clear hK K
       refine rdy [22, 25] (csy (fun K hK => ?_) (csy (fun K hK => ?_) AllReadyH.nil))
       ·skip
        go_simp
        refine (clone_int B m2 d 0 (os.take 9) _ R2.out (by omega)).mono ?_
        rintro e w22 ⟨B22, c22, rfl, ho, hb⟩
        have hsz1 := hid (show w12.heap.size ≤ w22.heap.size from hb.size)
        replace R1 := hid (R1.out.step hb); replace R2 := hid (R2.out.step hb); replace PX := hid (PX.out.step hb); replace O12 := hid (O12.out.step hb); replace HB0 := hid (below_then HB0.out hb)
        clear hb
        have O22 := hid (ho.mono (show W0.heap.size ≤ _ by have := hszd.out; have := hsz0.out; omega))
        have HAP := hid (show ∀ a b, A12 = some a → B22 = some b → a.block ≠ b.block from fun a b h1 h2 e => by have := (ho.blk b h2).1; obtain ⟨_, cs, q⟩ := O12b.out.blk a h1; have := q.lt; have := hszd.out; have := hsz0.out; omega)
        go_wp2_with fail
        clear hS
        refine ky hK ⟨PX.out.cells8.1, PX.out.cells8.2.1, PX.out.cells8.2.2.1⟩ fun hS => ?_
        clear hK K
        refine tk 23 hS ?_
        refine tk 24 hS ?_
        refine rdy [25] (csy (fun K hK => ?_) AllReadyH.nil)
        go_simp
        refine named_alloc ?_
        intro Wa25 hbk hb hsz
        have hsz2 := hid hsz
        have HG3 := hid (show W0.heap.size ≤ w22.heap.size by have := hszd.out; have := hsz0.out; have := hsz1.out; have := hsz2.out; omega)
        replace R1 := hid (R1.out.step hb); replace R2 := hid (R2.out.step hb); replace PX := hid (PX.out.step hb); replace O12 := hid (O12.out.step hb); replace O22 := hid (O22.out.step hb); replace HB0 := hid (below_then HB0.out hb)
        have P3 := hid hbk
        clear hb hbk hsz
        clear hS
        refine ky hK ⟨PX.out.cells8.1, PX.out.cells8.2.1, PX.out.cells8.2.2.1⟩ fun hS => ?_
        clear hK K
        refine rdy [26] (csy (fun K hK => ?_) AllReadyH.nil)
        obtain ⟨y00, y01, y02, y03, y04, y05, y06, y07, yf0⟩ := P3.out.cells8
        go_simp
        clear y00 y01 y02 y03 y04 y05 y06 y07 yf0
        refine named_store_8_8_0 P3.out ?_
        intro Ws26 hbk hgr hsz
        have hsz3 := hid hsz
        clear hsz
        replace O12 := hid (O12.out.keptR P3.out (by decide) hgr); replace O22 := hid (O22.out.keptR P3.out (by decide) hgr)
        replace HB0 := hid (HB0.out.grown hgr HB0.out.size (fun r e => by cases e; exact HG3.out)); replace PX := hid (PX.out.grown hgr (by have := HG3.out; have := hz0.out; simp; omega))
        replace P3 := hid hbk
        clear hbk hgr
        clear hS
        refine ky hK ⟨PX.out.cells8.1, PX.out.cells8.2.1, PX.out.cells8.2.2.1⟩ fun hS => ?_
        clear hK K
        refine wpAnyH_done (by kernel_rfl) ?_ _
        refine NoPanic.normal ?_
        clear hS
        go_wp2_with fail
        go_meet
        exact ⟨_, _, _, _, _, rfl, HG3.out, P3.out, ⟨O12.out, O22.out, fun ga gb h1 h2 => HAP.out _ _ h1 h2, by omega, by omega⟩, HB0.out⟩
       ·skip
        go_simp
        refine named_alloc ?_
        intro Wa25 hbk hb hsz
        have hsz1 := hid hsz
        have HG3 := hid (show W0.heap.size ≤ w12.heap.size by have := hszd.out; have := hsz0.out; have := hsz1.out; omega)
        replace R1 := hid (R1.out.step hb); replace R2 := hid (R2.out.step hb); replace PX := hid (PX.out.step hb); replace O12 := hid (O12.out.step hb); replace HB0 := hid (below_then HB0.out hb)
        have P3 := hid hbk
        clear hb hbk hsz
        clear hS
        refine ky hK ⟨PX.out.cells8.1, PX.out.cells8.2.1, PX.out.cells8.2.2.1⟩ fun hS => ?_
        clear hK K
        refine rdy [22] (csy (fun K hK => ?_) AllReadyH.nil)
        go_simp
        refine (clone_int B m2 d 0 (os.take 9) _ R2.out (by omega)).mono ?_
        rintro e w22 ⟨B22, c22, rfl, ho, hb⟩
        have hsz2 := hid (show Wa25.heap.size ≤ w22.heap.size from hb.size)
        replace R1 := hid (R1.out.step hb); replace R2 := hid (R2.out.step hb); replace PX := hid (PX.out.step hb); replace O12 := hid (O12.out.step hb); replace P3 := hid (P3.out.step hb); replace HB0 := hid (below_then HB0.out hb)
        clear hb
        have O22 := hid (ho.mono (show W0.heap.size ≤ _ by have := hszd.out; have := hsz0.out; have := hsz1.out; omega))
        have HAP := hid (show ∀ a b, A12 = some a → B22 = some b → a.block ≠ b.block from fun a b h1 h2 e => by have := (ho.blk b h2).1; obtain ⟨_, cs, q⟩ := O12b.out.blk a h1; have := q.lt; have := hszd.out; have := hsz0.out; have := hsz1.out; omega)
        go_wp2_with fail
        clear hS
        refine ky hK ⟨PX.out.cells8.1, PX.out.cells8.2.1, PX.out.cells8.2.2.1⟩ fun hS => ?_
        clear hK K
        refine tk 23 hS ?_
        refine tk 24 hS ?_
        refine rdy [26] (csy (fun K hK => ?_) AllReadyH.nil)
        obtain ⟨y00, y01, y02, y03, y04, y05, y06, y07, yf0⟩ := P3.out.cells8
        go_simp
        clear y00 y01 y02 y03 y04 y05 y06 y07 yf0
        refine named_store_8_8_0 P3.out ?_
        intro Ws26 hbk hgr hsz
        have hsz3 := hid hsz
        clear hsz
        replace O12 := hid (O12.out.keptR P3.out (by decide) hgr); replace O22 := hid (O22.out.keptR P3.out (by decide) hgr)
        replace HB0 := hid (HB0.out.grown hgr HB0.out.size (fun r e => by cases e; exact HG3.out)); replace PX := hid (PX.out.grown hgr (by have := HG3.out; have := hz0.out; simp; omega))
        replace P3 := hid hbk
        clear hbk hgr
        clear hS
        refine ky hK ⟨PX.out.cells8.1, PX.out.cells8.2.1, PX.out.cells8.2.2.1⟩ fun hS => ?_
        clear hK K
        refine wpAnyH_done (by kernel_rfl) ?_ _
        refine NoPanic.normal ?_
        clear hS
        go_wp2_with fail
        go_meet
        exact ⟨_, _, _, _, _, rfl, HG3.out, P3.out, ⟨O12.out, O22.out, fun ga gb h1 h2 => HAP.out _ _ h1 h2, by omega, by omega⟩, HB0.out⟩
      ·skip
       go_simp
       refine named_alloc ?_
       intro Wa25 hbk hb hsz
       have hsz0 := hid hsz
       have HG3 := hid (show W0.heap.size ≤ Wd.heap.size by have := hszd.out; have := hsz0.out; omega)
       replace R1 := hid (R1.out.step hb); replace R2 := hid (R2.out.step hb); replace PX := hid (PX.out.step hb); replace HB0 := hid (below_then HB0.out hb)
       have P3 := hid hbk
       clear hb hbk hsz
       clear hS
       refine ky hK ⟨PX.out.cells8.1, PX.out.cells8.2.1, PX.out.cells8.2.2.1⟩ fun hS => ?_
       clear hK K
       refine rdy [12] (csy (fun K hK => ?_) AllReadyH.nil)
       go_simp
       refine (clone_int A m1 k 0 (ns.take 9) _ R1.out (by omega)).mono ?_
       rintro e w12 ⟨A12, c12, rfl, ho, hb⟩
       have hsz1 := hid (show Wa25.heap.size ≤ w12.heap.size from hb.size)
       replace R1 := hid (R1.out.step hb); replace R2 := hid (R2.out.step hb); replace PX := hid (PX.out.step hb); replace P3 := hid (P3.out.step hb); replace HB0 := hid (below_then HB0.out hb)
       clear hb
       have O12 := hid (ho.mono (show W0.heap.size ≤ _ by have := hszd.out; have := hsz0.out; omega)); have O12b := hid ho
       go_wp2_with fail
       clear hS
       refine ky hK ⟨PX.out.cells8.1, PX.out.cells8.2.1, PX.out.cells8.2.2.1⟩ fun hS => ?_
       clear hK K
       refine rdy [22] (csy (fun K hK => ?_) AllReadyH.nil)
       go_simp
       refine (clone_int B m2 d 0 (os.take 9) _ R2.out (by omega)).mono ?_
       rintro e w22 ⟨B22, c22, rfl, ho, hb⟩
       have hsz2 := hid (show w12.heap.size ≤ w22.heap.size from hb.size)
       replace R1 := hid (R1.out.step hb); replace R2 := hid (R2.out.step hb); replace PX := hid (PX.out.step hb); replace P3 := hid (P3.out.step hb); replace O12 := hid (O12.out.step hb); replace HB0 := hid (below_then HB0.out hb)
       clear hb
       have O22 := hid (ho.mono (show W0.heap.size ≤ _ by have := hszd.out; have := hsz0.out; have := hsz1.out; omega))
       have HAP := hid (show ∀ a b, A12 = some a → B22 = some b → a.block ≠ b.block from fun a b h1 h2 e => by have := (ho.blk b h2).1; obtain ⟨_, cs, q⟩ := O12b.out.blk a h1; have := q.lt; have := hszd.out; have := hsz0.out; have := hsz1.out; omega)
       go_wp2_with fail
       clear hS
       refine ky hK ⟨PX.out.cells8.1, PX.out.cells8.2.1, PX.out.cells8.2.2.1⟩ fun hS => ?_
       clear hK K
       refine tk 23 hS ?_
       refine tk 24 hS ?_
       refine rdy [26] (csy (fun K hK => ?_) AllReadyH.nil)
       obtain ⟨y00, y01, y02, y03, y04, y05, y06, y07, yf0⟩ := P3.out.cells8
       go_simp
       clear y00 y01 y02 y03 y04 y05 y06 y07 yf0
       refine named_store_8_8_0 P3.out ?_
       intro Ws26 hbk hgr hsz
       have hsz3 := hid hsz
       clear hsz
       replace O12 := hid (O12.out.keptR P3.out (by decide) hgr); replace O22 := hid (O22.out.keptR P3.out (by decide) hgr)
       replace HB0 := hid (HB0.out.grown hgr HB0.out.size (fun r e => by cases e; exact HG3.out)); replace PX := hid (PX.out.grown hgr (by have := HG3.out; have := hz0.out; simp; omega))
       replace P3 := hid hbk
       clear hbk hgr
       clear hS
       refine ky hK ⟨PX.out.cells8.1, PX.out.cells8.2.1, PX.out.cells8.2.2.1⟩ fun hS => ?_
       clear hK K
       refine wpAnyH_done (by kernel_rfl) ?_ _
       refine NoPanic.normal ?_
       clear hS
       go_wp2_with fail
       go_meet
       exact ⟨_, _, _, _, _, rfl, HG3.out, P3.out, ⟨O12.out, O22.out, fun ga gb h1 h2 => HAP.out _ _ h1 h2, by omega, by omega⟩, HB0.out⟩
  case rest =>
    obtain ⟨g3, A1, c1, B1, d1, rfl, h1, h2, h3, h4⟩ := hcut
    rename World => W1
    have XPX := PX; have XPZ := PZ; have XHB := HB
    have HG3 := hid h1; have P3 := hid h2; have RO := hid h3; have HQ := hid h4
    clear h1 h2 h3 h4 HB0 PX PZ HB R1 R2 e11 e12 e13 e14 e21 e22 e23 e24
    have PXa := hid (XPX.out.below HQ.out XPX.out.lt)
    have P30 := P3
    obtain ⟨y00, y01, y02, y03, y04, y05, y06, y07, yf0⟩ := PXa.out.cells8
    obtain ⟨y10, y11, y12, y13, y14, y15, y16, y17, yf1⟩ := P3.out.cells8
    go_upto_region 3 with fail
    clear PXa y00 y01 y02 y03 y04 y05 y06 y07 yf0 y10 y11 y12 y13 y14 y15 y16 y17 yf1
    have hbk0 : Blk (W1.setCell ⟨g3, 3, none⟩ (.int .i64 g.dn)) (g3) 30 #[.int .i64 now, .slice A1 m1 c1, .slice B1 m2 d1, .int .i64 g.dn, .int .i64 0, .bool false, .slice none 0 0, .slice none 0 0] := P3.out.setCell 3 (.int .i64 g.dn)
    have hbk1 : Blk ((W1.setCell ⟨g3, 3, none⟩ (.int .i64 g.dn)).setCell ⟨g3, 4, none⟩ (.int .i64 g.ak)) (g3) 30 #[.int .i64 now, .slice A1 m1 c1, .slice B1 m2 d1, .int .i64 g.dn, .int .i64 g.ak, .bool false, .slice none 0 0, .slice none 0 0] := hbk0.setCell 4 (.int .i64 g.ak)
    have hbk2 : Blk (((W1.setCell ⟨g3, 3, none⟩ (.int .i64 g.dn)).setCell ⟨g3, 4, none⟩ (.int .i64 g.ak)).setCell ⟨g3, 5, none⟩ (.bool g.on)) (g3) 30 #[.int .i64 now, .slice A1 m1 c1, .slice B1 m2 d1, .int .i64 g.dn, .int .i64 g.ak, .bool g.on, .slice none 0 0, .slice none 0 0] := hbk1.setCell 5 (.bool g.on)
    have hbk3 : Blk ((((W1.setCell ⟨g3, 3, none⟩ (.int .i64 g.dn)).setCell ⟨g3, 4, none⟩ (.int .i64 g.ak)).setCell ⟨g3, 5, none⟩ (.bool g.on)).setCell ⟨g3, 6, none⟩ (.slice D g.nd.length kd)) (g3) 30 #[.int .i64 now, .slice A1 m1 c1, .slice B1 m2 d1, .int .i64 g.dn, .int .i64 g.ak, .bool g.on, .slice D g.nd.length kd, .slice none 0 0] := hbk2.setCell 6 (.slice D g.nd.length kd)
    have hgr : W1.grownBy ((((W1.setCell ⟨g3, 3, none⟩ (.int .i64 g.dn)).setCell ⟨g3, 4, none⟩ (.int .i64 g.ak)).setCell ⟨g3, 5, none⟩ (.bool g.on)).setCell ⟨g3, 6, none⟩ (.slice D g.nd.length kd)) (some (g3)) := (grown_set (grown_set (grown_set (grown_set (World.grownBy.refl W1 (some (g3))) 3 (.int .i64 g.dn)) 4 (.int .i64 g.ak)) 5 (.bool g.on)) 6 (.slice D g.nd.length kd))
    replace P3 := hid hbk3
    clear hbk0 hbk1 hbk2 hbk3
    generalize (((W1.setCell ⟨g3, 3, none⟩ (.int .i64 g.dn)).setCell ⟨g3, 4, none⟩ (.int .i64 g.ak)).setCell ⟨g3, 5, none⟩ (.bool g.on)).setCell ⟨g3, 6, none⟩ (.slice D g.nd.length kd) = W2 at *
    replace RO := hid (RO.out.keptR P30.out (by decide) hgr)
    replace HQ := hid (HQ.out.grown hgr HQ.out.size (fun r e => by cases e; exact HG3.out))
    clear hgr P30
    have PXa := hid (XPX.out.below HQ.out XPX.out.lt)
    obtain ⟨y00, y01, y02, y03, y04, y05, y06, y07, yf0⟩ := PXa.out.cells8
    go_wp2_with fail
    clear PXa e31 e32 e33 e34 y00 y01 y02 y03 y04 y05 y06 y07 yf0
    refine (clone_bool D m3 kd 0 (g.nd.take 9) W2 ((R3.out.below HQ.out (Nat.le_refl _)).mono (Nat.le_refl _) HQ.out.size) (by omega)).mono ?_
    rintro e W3 ⟨A7, c7, rfl, ho, hb⟩
    have DO := hid (ho.mono HQ.out.size)
    replace P3 := hid (P3.out.step hb); replace RO := hid (RO.out.step hb); replace HQ := hid (below_then HQ.out hb)
    clear ho hb R3
    have PXa := hid (XPX.out.below HQ.out XPX.out.lt)
    have P30 := P3
    obtain ⟨y00, y01, y02, y03, y04, y05, y06, y07, yf0⟩ := PXa.out.cells8
    obtain ⟨y10, y11, y12, y13, y14, y15, y16, y17, yf1⟩ := P3.out.cells8
    go_upto_region 4 with fail
    clear PXa y00 y01 y02 y03 y04 y05 y06 y07 yf0 y10 y11 y12 y13 y14 y15 y16 y17 yf1
    have hbk0 : Blk (W3.setCell ⟨g3, 6, none⟩ (.slice A7 m3 c7)) (g3) 30 #[.int .i64 now, .slice A1 m1 c1, .slice B1 m2 d1, .int .i64 g.dn, .int .i64 g.ak, .bool g.on, .slice A7 m3 c7, .slice none 0 0] := P3.out.setCell 6 (.slice A7 m3 c7)
    have hgr : W3.grownBy (W3.setCell ⟨g3, 6, none⟩ (.slice A7 m3 c7)) (some (g3)) := (grown_set (World.grownBy.refl W3 (some (g3))) 6 (.slice A7 m3 c7))
    replace P3 := hid hbk0
    clear hbk0
    generalize W3.setCell ⟨g3, 6, none⟩ (.slice A7 m3 c7) = W4 at *
    replace RO := hid (RO.out.keptR P30.out (by decide) hgr); replace DO := hid (DO.out.keptR P30.out (by decide) hgr)
    replace HQ := hid (HQ.out.grown hgr HQ.out.size (fun r e => by cases e; exact HG3.out))
    clear hgr P30
    have PXa := hid (XPX.out.below HQ.out XPX.out.lt)
    obtain ⟨y00, y01, y02, y03, y04, y05, y06, y07, yf0⟩ := PXa.out.cells8
    go_wp2_with fail
    clear PXa e41 e42 e43 e44 y00 y01 y02 y03 y04 y05 y06 y07 yf0
    go_loopw [5, 54] (fun _ i wr => ∃ (j : Nat) (Qo : Option Addr) (cq : Nat) (ej : List Qe), j ≤ m4 ∧ i = .int .i64 j ∧ Below W0.heap.size W0 wr ∧ Blk wr g3 30 #[.int .i64 now, .slice A1 m1 c1, .slice B1 m2 d1, .int .i64 g.dn, .int .i64 g.ak, .bool g.on, .slice A7 m3 c7, .slice Qo j cq] ∧ RcT wr W0.heap.size (cutS (now, ns, os)) (cutG g) ej ⟨A1, m1, c1, B1, m2, d1, A7, c7, Qo, j, cq⟩ ∧ ql ej = ((es.take 9).take j).map (fun x => (x.l.take 18, x.o))) (fun _ i _ => m4 - (intOf i).toNat)
    case atStart => exact ⟨0, none, 0, [], Nat.zero_le _, rfl, HQ.out, P3.out, ⟨RO.out, (show Ow blv _ _ _ A7 (g.nd.take 9).length c7 (g.nd.take 9) by rw [← hl3.out]; exact DO.out), Om.nil _ _ _, fun _ h => (by cases h)⟩, rfl⟩
    case round =>
      clear HQ P3 RO DO
      obtain ⟨j, Qo, cq, ej, hj, rfl, h1, h2, h3, h4⟩ := hrel
      have HQ := hid h1; have P3 := hid h2; have RT := hid h3; have HQL := hid h4
      clear h1 h2 h3 h4
      by_cases hjn : j < m4
      rotate_left
      ·skip
       obtain rfl : j = m4 := by omega
       have hnn : ¬ ((j : Int) < (j : Int)) := by omega
       have HQ2 := hid (show ql ej = cutQ es by rw [HQL.out, List.take_of_length_le (by rw [R4.out.len]; exact Nat.le_refl _)]; rfl)
       have HW := hid (show w.heap.size ≤ W0.heap.size by have := hz0.out; omega)
       have HB := hid (below_then XHB.out HQ.out)
       have PZ := hid (XPZ.out.below HQ.out XPZ.out.lt)
       clear HQL
       obtain ⟨y00, y01, y02, y03, y04, y05, y06, y07, yf0⟩ := P3.out.cells8
       obtain ⟨y10, y11, y12, y13, y14, y15, y16, y17, yf1⟩ := PZ.out.cells8
       go_wp2_with fail
       clear y00 y01 y02 y03 y04 y05 y06 y07 yf0 y10 y11 y12 y13 y14 y15 y16 y17 yf1
       have PZ0 := PZ
       have hbk0 : Blk (wr.setCell ⟨w.heap.size + 1, 0, none⟩ (.int .i64 now)) (w.heap.size + 1) 30 #[.int .i64 now, .slice none 0 0, .slice none 0 0, .int .i64 0, .int .i64 0, .bool false, .slice none 0 0, .slice none 0 0] := PZ.out.setCell 0 (.int .i64 now)
       have hbk1 : Blk ((wr.setCell ⟨w.heap.size + 1, 0, none⟩ (.int .i64 now)).setCell ⟨w.heap.size + 1, 1, none⟩ (.slice A1 m1 c1)) (w.heap.size + 1) 30 #[.int .i64 now, .slice A1 m1 c1, .slice none 0 0, .int .i64 0, .int .i64 0, .bool false, .slice none 0 0, .slice none 0 0] := hbk0.setCell 1 (.slice A1 m1 c1)
       have hbk2 : Blk (((wr.setCell ⟨w.heap.size + 1, 0, none⟩ (.int .i64 now)).setCell ⟨w.heap.size + 1, 1, none⟩ (.slice A1 m1 c1)).setCell ⟨w.heap.size + 1, 2, none⟩ (.slice B1 m2 d1)) (w.heap.size + 1) 30 #[.int .i64 now, .slice A1 m1 c1, .slice B1 m2 d1, .int .i64 0, .int .i64 0, .bool false, .slice none 0 0, .slice none 0 0] := hbk1.setCell 2 (.slice B1 m2 d1)
       have hbk3 : Blk ((((wr.setCell ⟨w.heap.size + 1, 0, none⟩ (.int .i64 now)).setCell ⟨w.heap.size + 1, 1, none⟩ (.slice A1 m1 c1)).setCell ⟨w.heap.size + 1, 2, none⟩ (.slice B1 m2 d1)).setCell ⟨w.heap.size + 1, 3, none⟩ (.int .i64 g.dn)) (w.heap.size + 1) 30 #[.int .i64 now, .slice A1 m1 c1, .slice B1 m2 d1, .int .i64 g.dn, .int .i64 0, .bool false, .slice none 0 0, .slice none 0 0] := hbk2.setCell 3 (.int .i64 g.dn)
       have hbk4 : Blk (((((wr.setCell ⟨w.heap.size + 1, 0, none⟩ (.int .i64 now)).setCell ⟨w.heap.size + 1, 1, none⟩ (.slice A1 m1 c1)).setCell ⟨w.heap.size + 1, 2, none⟩ (.slice B1 m2 d1)).setCell ⟨w.heap.size + 1, 3, none⟩ (.int .i64 g.dn)).setCell ⟨w.heap.size + 1, 4, none⟩ (.int .i64 g.ak)) (w.heap.size + 1) 30 #[.int .i64 now, .slice A1 m1 c1, .slice B1 m2 d1, .int .i64 g.dn, .int .i64 g.ak, .bool false, .slice none 0 0, .slice none 0 0] := hbk3.setCell 4 (.int .i64 g.ak)
       have hbk5 : Blk ((((((wr.setCell ⟨w.heap.size + 1, 0, none⟩ (.int .i64 now)).setCell ⟨w.heap.size + 1, 1, none⟩ (.slice A1 m1 c1)).setCell ⟨w.heap.size + 1, 2, none⟩ (.slice B1 m2 d1)).setCell ⟨w.heap.size + 1, 3, none⟩ (.int .i64 g.dn)).setCell ⟨w.heap.size + 1, 4, none⟩ (.int .i64 g.ak)).setCell ⟨w.heap.size + 1, 5, none⟩ (.bool g.on)) (w.heap.size + 1) 30 #[.int .i64 now, .slice A1 m1 c1, .slice B1 m2 d1, .int .i64 g.dn, .int .i64 g.ak, .bool g.on, .slice none 0 0, .slice none 0 0] := hbk4.setCell 5 (.bool g.on)
       have hbk6 : Blk (((((((wr.setCell ⟨w.heap.size + 1, 0, none⟩ (.int .i64 now)).setCell ⟨w.heap.size + 1, 1, none⟩ (.slice A1 m1 c1)).setCell ⟨w.heap.size + 1, 2, none⟩ (.slice B1 m2 d1)).setCell ⟨w.heap.size + 1, 3, none⟩ (.int .i64 g.dn)).setCell ⟨w.heap.size + 1, 4, none⟩ (.int .i64 g.ak)).setCell ⟨w.heap.size + 1, 5, none⟩ (.bool g.on)).setCell ⟨w.heap.size + 1, 6, none⟩ (.slice A7 m3 c7)) (w.heap.size + 1) 30 #[.int .i64 now, .slice A1 m1 c1, .slice B1 m2 d1, .int .i64 g.dn, .int .i64 g.ak, .bool g.on, .slice A7 m3 c7, .slice none 0 0] := hbk5.setCell 6 (.slice A7 m3 c7)
       have hbk7 : Blk ((((((((wr.setCell ⟨w.heap.size + 1, 0, none⟩ (.int .i64 now)).setCell ⟨w.heap.size + 1, 1, none⟩ (.slice A1 m1 c1)).setCell ⟨w.heap.size + 1, 2, none⟩ (.slice B1 m2 d1)).setCell ⟨w.heap.size + 1, 3, none⟩ (.int .i64 g.dn)).setCell ⟨w.heap.size + 1, 4, none⟩ (.int .i64 g.ak)).setCell ⟨w.heap.size + 1, 5, none⟩ (.bool g.on)).setCell ⟨w.heap.size + 1, 6, none⟩ (.slice A7 m3 c7)).setCell ⟨w.heap.size + 1, 7, none⟩ (.slice Qo j cq)) (w.heap.size + 1) 30 #[.int .i64 now, .slice A1 m1 c1, .slice B1 m2 d1, .int .i64 g.dn, .int .i64 g.ak, .bool g.on, .slice A7 m3 c7, .slice Qo j cq] := hbk6.setCell 7 (.slice Qo j cq)
       have hgr : wr.grownBy ((((((((wr.setCell ⟨w.heap.size + 1, 0, none⟩ (.int .i64 now)).setCell ⟨w.heap.size + 1, 1, none⟩ (.slice A1 m1 c1)).setCell ⟨w.heap.size + 1, 2, none⟩ (.slice B1 m2 d1)).setCell ⟨w.heap.size + 1, 3, none⟩ (.int .i64 g.dn)).setCell ⟨w.heap.size + 1, 4, none⟩ (.int .i64 g.ak)).setCell ⟨w.heap.size + 1, 5, none⟩ (.bool g.on)).setCell ⟨w.heap.size + 1, 6, none⟩ (.slice A7 m3 c7)).setCell ⟨w.heap.size + 1, 7, none⟩ (.slice Qo j cq)) (some (w.heap.size + 1)) := (grown_set (grown_set (grown_set (grown_set (grown_set (grown_set (grown_set (grown_set (World.grownBy.refl wr (some (w.heap.size + 1))) 0 (.int .i64 now)) 1 (.slice A1 m1 c1)) 2 (.slice B1 m2 d1)) 3 (.int .i64 g.dn)) 4 (.int .i64 g.ak)) 5 (.bool g.on)) 6 (.slice A7 m3 c7)) 7 (.slice Qo j cq))
       replace PZ := hid hbk7
       clear hbk0 hbk1 hbk2 hbk3 hbk4 hbk5 hbk6 hbk7
       generalize (((((((wr.setCell ⟨w.heap.size + 1, 0, none⟩ (.int .i64 now)).setCell ⟨w.heap.size + 1, 1, none⟩ (.slice A1 m1 c1)).setCell ⟨w.heap.size + 1, 2, none⟩ (.slice B1 m2 d1)).setCell ⟨w.heap.size + 1, 3, none⟩ (.int .i64 g.dn)).setCell ⟨w.heap.size + 1, 4, none⟩ (.int .i64 g.ak)).setCell ⟨w.heap.size + 1, 5, none⟩ (.bool g.on)).setCell ⟨w.heap.size + 1, 6, none⟩ (.slice A7 m3 c7)).setCell ⟨w.heap.size + 1, 7, none⟩ (.slice Qo j cq) = W6 at *
       have HBf := hid (HB.out.grown hgr HB.out.size (fun r e => by cases e; omega))
       have RTf := hid (RT.out.keptR PZ0.out (by decide) (by decide) (by decide) (by decide) hgr)
       obtain ⟨y00, y01, y02, y03, y04, y05, y06, y07, yf0⟩ := PZ.out.cells8
       exact bodyPost_ret (v := rcv (cutS (now, ns, os)) (cutG g) ⟨A1, m1, c1, B1, m2, d1, A7, c7, Qo, j, cq⟩) (by simp [results, Tryz.results7, go_sem, cutS, cutG, hl3m.out, y00, y01, y02, y03, y04, y05, y06, y07]) rfl ⟨⟨A1, m1, c1, B1, m2, d1, A7, c7, Qo, j, cq⟩, ej, rfl, HQ2.out, ⟨RTf.out.ro.mono HW.out, RTf.out.gd.mono HW.out, RTf.out.qs.mono HW.out, fun x hx => ⟨(RTf.out.qe x hx).1.mono HW.out, (RTf.out.qe x hx).2⟩⟩, HBf.out⟩
      have hji : (j : Int) < (m4 : Int) := by omega
      obtain ⟨b, off, hbq, _, hbh, hc⟩ := (R4.out).row (by omega)
      obtain ⟨x, hx⟩ : ∃ x, x = (es.take 9)[j]?.getD zQe := ⟨_, rfl⟩
      have c0 := hc j hjn 0 (by omega)
      have c1' := hc j hjn 1 (by omega)
      rw [← hx] at c0 c1'
      have hlt : j < (es.take 9).length := by rw [R4.out.len]; exact hjn
      have HQE := hid (HI.out.qe x (by rw [hx, List.getElem?_eq_getElem hlt]; exact List.mem_of_mem_take (List.getElem_mem _)))
      have HXQ := hid (show ((es.take 9).take (j + 1)).map (fun x => (x.l.take 18, x.o)) = ((es.take 9).take j).map (fun x => (x.l.take 18, x.o)) ++ [(x.l.take 18, x.o)] by
        rw [List.take_succ_eq_append_getElem hlt, hx, List.getElem?_eq_getElem hlt]; simp)
      obtain ⟨xl, xo, xA, xn, xc⟩ := x
      have f0 : wr.cell? ⟨b, off + j * 2, none⟩ = some (.slice xA xn xc) := by rw [Nat.add_zero] at c0; exact (HQ.out.cell (p := ⟨b, off + j * 2, none⟩) (by show b < _; omega)).trans c0
      have f1 : wr.cell? ⟨b, off + j * 2 + 1, none⟩ = some (.int .u64 xo) := (HQ.out.cell (p := ⟨b, off + j * 2 + 1, none⟩) (by show b < _; omega)).trans c1'
      clear hc c0 c1' hx hbh
      subst hbq
      obtain ⟨m5, hm5, e51, e52, e53, e54, e55, _⟩ := min18 xn xc HQE.out.2.1
      have R5 := hid (show Sm 2 encC (0, 0) W0 0 W0.heap.size xA m5 (xl.take 18) by rw [hm5]; exact HQE.out.1.cut)
      clear hm5
      have HQB := hid (show ∀ a, Qo = some a → a.block < wr.heap.size from fun a ha => by obtain ⟨_, cs, q⟩ := RT.out.qs.blk a ha; exact q.lt)
      have bx := below_box wr (.cells #[.slice xA xn xc, .int .u64 xo] 58)
      replace P3 := hid (P3.out.step bx); replace RT := hid (RT.out.step bx); replace HQ := hid (below_then HQ.out bx)
      clear bx
      have PT := hid (Blk.new wr 58 #[.slice xA xn xc, .int .u64 xo])
      go_upto_region 7 with fail
      clear f0 f1
      have hzr := hid (show (wr.alloc (.cells #[.slice xA xn xc, .int .u64 xo] 58)).heap.size = wr.heap.size + 1 by simp)
      generalize wr.alloc (.cells #[.slice xA xn xc, .int .u64 xo] 58) = W7 at *
      have HVW := hid (show W0.heap.size ≤ wr.heap.size by have := hzr.out; have := P3.out.lt; have := HG3.out; omega)
      obtain ⟨i0, hi0, hz00, hz01, hz02⟩ := info_parts info_que
      have bx := (Below.refl W7.heap.size W7).drew
      replace P3 := hid (P3.out.step bx); replace RT := hid (RT.out.step bx); replace PT := hid (PT.out.step bx); replace HQ := hid (below_then HQ.out bx)
      clear bx
      have hszd := hid (show W7.drew.heap.size = W7.heap.size from rfl)
      refine wp_region_noPanic ?_
      refine wp_region_held_tail 15 (fun W' : World => W'.cell? ⟨g3, 7, none⟩ = some (.slice Qo j cq) ∧ W'.cell? ⟨wr.heap.size, 0, none⟩ = some (.slice xA xn xc) ∧ W'.cell? ⟨wr.heap.size, 1, none⟩ = some (.int .u64 xo)) #[false, false, false, false, false, false, false, false, false, false, false, false, false, false, false, false, false] (by kernel_rfl) ⟨P3.out.cells8.2.2.2.2.2.2.2.1, PT.out.cells2.1, PT.out.cells2.2.1⟩ (by kernel_rfl) (by kernel_rfl) (fun hS => ?_)
      generalize W7.drew = Wd at *
      refine tkT 0 hS ?_
      refine tkT 1 hS ?_
      refine tkT 2 hS ?_
      refine tkT 3 hS ?_
      refine tkT 4 hS ?_
      refine tkT 5 hS ?_
      refine tkT 6 hS ?_
      refine tkT 7 hS ?_
      refine tkT 8 hS ?_
      refine tkT 9 hS ?_
      refine tkT 10 hS ?_
      refine rdyT [11] (csyT (fun K hK => ?_) AllReadyT.nil)
      go_simp
      refine (clone_cb xA m5 xc 0 (xl.take 18) _ ((R5.out.below HQ.out (Nat.le_refl _)).mono (Nat.le_refl _) HQ.out.size) (by omega)).mono ?_
      rintro e w11 ⟨A11, c11, rfl, ho, hb⟩
      have hsz0 := hid (show Wd.heap.size ≤ w11.heap.size from hb.size)
      replace P3 := hid (P3.out.step hb); replace RT := hid (RT.out.step hb); replace PT := hid (PT.out.step hb); replace HQ := hid (below_then HQ.out hb)
      clear hb
      have O11 := hid (ho.mono (show W0.heap.size ≤ _ by have := HVW.out; have := hzr.out; have := hszd.out; omega))
      clear ho
      go_wp2_with fail
      clear hS
      refine kyT hK ⟨P3.out.cells8.2.2.2.2.2.2.2.1, PT.out.cells2.1, PT.out.cells2.2.1⟩ fun hS => ?_
      clear hK K
      refine tkT 12 hS ?_
      refine rdyT [13] (csyT (fun K hK => ?_) AllReadyT.nil)
      go_simp
      refine named_alloc ?_
      intro Wa13 hbk hb hsz
      have hsz1 := hid hsz
      replace P3 := hid (P3.out.step hb); replace RT := hid (RT.out.step hb); replace PT := hid (PT.out.step hb); replace O11 := hid (O11.out.step hb); replace HQ := hid (below_then HQ.out hb)
      have PL := hid hbk
      clear hb hbk hsz
      clear hS
      refine kyT hK ⟨P3.out.cells8.2.2.2.2.2.2.2.1, PT.out.cells2.1, PT.out.cells2.2.1⟩ fun hS => ?_
      clear hK K
      refine rdyT [14] (csyT (fun K hK => ?_) AllReadyT.nil)
      refine step_appm 2 encQ zQe _ rfl _ _ 28 rfl W0.heap.size 58 i0 _ 32 Tryz.underlying28 hi0 hz00 hz01 hz02 rfl (by omega) Qo j cq ej rfl RT.out.qs 0 _ (some ⟨w11.heap.size, 0, none⟩) 1 1 [⟨xl.take 18, xo, A11, m5, c11⟩] rfl (Sm.oneB PL.out (fun k hk => by match k, hk with | 0, _ => rfl | 1, _ => rfl)) encQ_one (by simp only [maxLen]; omega) (by omega) HQ.out.size ?_
      intro A9 c9 Wc9 hown hgr hat
      have RT9 := hid (show RcT Wc9 W0.heap.size (cutS (now, ns, os)) (cutG g) (ej ++ [⟨xl.take 18, xo, A11, m5, c11⟩]) ⟨A1, m1, c1, B1, m2, d1, A7, c7, A9, j + 1, c9⟩ from
        ⟨RT.out.ro.keptM' RT.out.qs (by decide) hgr, RT.out.gd.keptM RT.out.qs (by decide) hgr, hown, fun y hy => by
          rcases List.mem_append.1 hy with hy | hy
          · exact ⟨(RT.out.qe y hy).1.keptM RT.out.qs (by decide) hgr, (RT.out.qe y hy).2⟩
          · obtain rfl := List.mem_singleton.1 hy
            exact ⟨O11.out.keptM RT.out.qs (by decide) hgr, by show m5 ≤ 1000; omega⟩⟩)
      replace P3 := hid (P3.out.keptM RT.out.qs (by decide) hgr)
      replace PT := hid (PT.out.grown hgr (fun e => by obtain ⟨a, ha, hb⟩ := own_addr e.symm; have := HQB.out a ha; omega))
      replace HQ := hid (HQ.out.grown hgr HQ.out.size (fun r e => RT.out.qs.row_ge r e))
      clear hown hgr hat PL RT O11
      clear hS
      refine kyT hK ⟨P3.out.cells8.2.2.2.2.2.2.2.1, PT.out.cells2.1, PT.out.cells2.2.1⟩ fun hS => ?_
      clear hK K
      refine wpAnyT_done (by kernel_rfl) ?_
      simp only [List.drop_succ_cons, List.drop_zero]
      clear hS
      have P30 := P3
      obtain ⟨y00, y01, y02, y03, y04, y05, y06, y07, yf0⟩ := P3.out.cells8
      go_wp2_with fail
      refine NoPanic.normal ?_
      clear y00 y01 y02 y03 y04 y05 y06 y07 yf0
      have hbk0 : Blk (Wc9.setCell ⟨g3, 7, none⟩ (.slice A9 (j + 1) c9)) (g3) 30 #[.int .i64 now, .slice A1 m1 c1, .slice B1 m2 d1, .int .i64 g.dn, .int .i64 g.ak, .bool g.on, .slice A7 m3 c7, .slice A9 (j + 1) c9] := P3.out.setCell 7 (.slice A9 (j + 1) c9)
      have hgr : Wc9.grownBy (Wc9.setCell ⟨g3, 7, none⟩ (.slice A9 (j + 1) c9)) (some (g3)) := (grown_set (World.grownBy.refl Wc9 (some (g3))) 7 (.slice A9 (j + 1) c9))
      replace P3 := hid hbk0
      clear hbk0
      generalize Wc9.setCell ⟨g3, 7, none⟩ (.slice A9 (j + 1) c9) = Wn at *
      have RTn := hid (RT9.out.keptR P30.out (by decide) (by decide) (by decide) (by decide) hgr)
      replace HQ := hid (HQ.out.grown hgr HQ.out.size (fun r e => by cases e; exact HG3.out))
      clear hgr RT9 P30
      have hw1 : IntKind.i64.wrap ((j : Int) + 1) = (j : Int) + 1 := by rw [IntKind.wrap_i64]; omega
      go_wp2_with fail
      go_roundw
      case rel => exact ⟨j + 1, A9, c9, _, by omega, by go_num, HQ.out, P3.out, RTn.out, by rw [HXQ.out, ← HQL.out]; simp [ql]⟩
      case measure => simp [intOf]; omega
end Go.Proofs.YtfipdoofgbjbjaaGreat

/- package rcu: Settle, from what its closure does; where a section is open. No condition but sizes, and that numbers are of their kinds. -/
namespace Go.Proofs.YtfipdoofgbjbjaaGreat
open Go.RowKit
attribute [local go_sem] Oper.semAt_some
theorem CA.rcrg {w : World} {l gc : Nat} {s : St} {g : Gr} {es : List Qe} {is what : Int} {ran : List Int} {a : Ra} {R : Option Addr} {nr kr : Nat} (h : CA w l gc s g es is what ran a R nr kr) (hg : RcGood s g (ql es)) : RcR w s g es a := by
  have h1 := hg.1.2.1.small
  have h2 := hg.1.2.1.2.1
  have h3 := hg.1.2.1.2.2.2.2.2.1
  have h4 := hg.2.1
  rw [ql_len, h.qs.len] at h4
  exact h.rcr (by omega) (by omega) (by omega)
set_option maxRecDepth 100000 in
set_option maxHeartbeats 4000000 in
theorem rsettle_from (s : St) (g : Gr) (es : List Qe) (a : Ra) (w : World) (r : Int × St × Gr × Qs × List Int) (h : RcR w s g es a) (hz : r.1 ≠ 0 → r.2 = ((0, [], []), zGr, [], [])) (hno : ¬ RcOk s g es → r = (240, (0, [], []), zGr, [], []))
    (hyes : RcOk s g es → ∀ (l gc : Nat) (es1 : List Qe) (a1 : Ra) (W : World), CA W l gc s g es1 0 0 [] a1 none 0 0 → RcGood s g (ql es1) → ql es1 = ql es →
      Calls Tryz.prog 45 #[ptr gc] W fun x w' => GrownP (fun i => l ≤ i) W w' ∧ ((x = .returned (.tuple #[]) ∧ RYes r l gc w') ∨ ∃ c, x = leaves c ∧ RNo r c w')) :
    Calls Tryz.prog 16 #[rcv s g a] w (RnPost w r) := by
  have HR := hid h; have HB := hid (Below.refl w.heap.size w); have HZR := hid hz; have HNO := hid hno; have HYES := hid hyes
  clear h hz hno hyes
  have bx := below_box w (.cells (rcells s g a) 30)
  replace HR := hid (HR.out.step bx); replace HB := hid (below_then HB.out bx)
  clear bx
  have PR := hid (Blk.new w 30 (rcells s g a))
  have bx := below_box (w.alloc (.cells (rcells s g a) 30)) (.cells #[.int .i64 0, .slice none 0 0, .slice none 0 0, .int .i64 0, .int .i64 0, .bool false, .slice none 0 0, .slice none 0 0] 30)
  replace HR := hid (HR.out.step bx); replace PR := hid (PR.out.step bx); replace HB := hid (below_then HB.out bx)
  clear bx
  have ZR := hid (Blk.new2 w 30 #[.int .i64 0, .slice none 0 0, .slice none 0 0, .int .i64 0, .int .i64 0, .bool false, .slice none 0 0, .slice none 0 0] (.cells (rcells s g a) 30))
  go_enter Tryz.func16, Tryz.ntmps16
  obtain ⟨y00, y01, y02, y03, y04, y05, y06, y07, yf0⟩ := PR.out.cells8
  go_wp2_with fail
  clear y00 y01 y02 y03 y04 y05 y06 y07 yf0
  have hz0 := hid (show ((w.alloc (.cells (rcells s g a) 30)).alloc (.cells #[.int .i64 0, .slice none 0 0, .slice none 0 0, .int .i64 0, .int .i64 0, .bool false, .slice none 0 0, .slice none 0 0] 30)).heap.size = w.heap.size + 2 by simp)
  generalize (w.alloc (.cells (rcells s g a) 30)).alloc (.cells #[.int .i64 0, .slice none 0 0, .slice none 0 0, .int .i64 0, .int .i64 0, .bool false, .slice none 0 0, .slice none 0 0] 30) = w1 at *
  refine (rtries_any s g es a 45 #[] (fun _ => False) (RYes r) (RNo r) w1 (fun _ h => h.elim) HR.out (enters_of Tryz.func45 (by kernel_rfl) rfl) ?_ ?_ ?_ ?_).mono ?_
  ·intro hn W _
   rw [HNO.out hn]
   exact ⟨by decide, rfl⟩
  ·intro hok W l gc a1 es1 hl hgc hbW hbc hrt hql
   obtain ⟨hca, hgd⟩ := tries_ca (rcOk_iff.1 hok) hbc hrt hgc hql
   refine (HYES.out hok l gc es1 a1 W hca hgd hql).mono ?_
   rintro x w2 ⟨hg2, hx⟩
   exact ⟨hg2.mono (fun i hi => .inr hi), hx⟩
  ·rintro l gb W p u ⟨hc, hba⟩ h1 h2
   exact ⟨hc, hba.setCell h2 u⟩
  ·exact fun c W W' h _ => h
  intro x w2 hx
  obtain ⟨gp, rfl, hb2, hra⟩ := triedR HZR.out hx
  clear hx
  have HRA := hid hra; have HRL := hid (show w1.heap.size ≤ gp by obtain ⟨_, _, _, _, _, _, _, _, h2⟩ := hra; exact h2.lg)
  clear hra HR PR
  replace ZR := hid (ZR.out.step hb2); replace HB := hid (below_then HB.out hb2)
  clear hb2 HZR HNO HYES
  obtain ⟨rc, ⟨rnow, rns, ros⟩, rg, rqs, ran⟩ := r
  dsimp only at HRA ⊢
  obtain ⟨b, es2, is, what, R, nr, kr, hq2, hca⟩ := HRA.out
  have HQ2 := hid hq2; have HX := hid hca.cx; have PC := hid hca.box
  clear hq2 hca HRA
  go_upto_region 2 with fail
  have HLZ := hid (show w.heap.size + 1 < w1.heap.size by have := hz0.out; omega)
  have hne := hid (show gp ≠ w.heap.size + 1 by have := HLZ.out; have := HRL.out; omega)
  have bx := (Below.refl w2.heap.size w2).drew
  replace ZR := hid (ZR.out.step bx); replace PC := hid (PC.out.step bx); replace HX := hid (HX.out.step bx); replace HB := hid (below_then HB.out bx)
  clear bx
  have hszd := hid (show w2.drew.heap.size = w2.heap.size from rfl)
  refine wp_region_noPanic ?_
  refine wp_region_held_drew (S := (fun W' : World => W'.cell? ⟨gp, 0, none⟩ = some (.int .i64 rnow) ∧ W'.cell? ⟨gp, 1, none⟩ = some (.slice b.A b.n b.k) ∧ W'.cell? ⟨gp, 2, none⟩ = some (.slice b.B b.m b.d) ∧ W'.cell? ⟨gp, 3, none⟩ = some (.int .i64 rg.dn) ∧ W'.cell? ⟨gp, 4, none⟩ = some (.int .i64 rg.ak) ∧ W'.cell? ⟨gp, 5, none⟩ = some (.bool rg.on) ∧ W'.cell? ⟨gp, 6, none⟩ = some (.slice b.D rg.nd.length b.kd) ∧ W'.cell? ⟨gp, 7, none⟩ = some (.slice b.Q b.nq b.kq) ∧ W'.cell? ⟨gp, 8, none⟩ = some (.int .i64 is) ∧ W'.cell? ⟨gp, 9, none⟩ = some (.int .u64 what) ∧ W'.cell? ⟨gp, 10, none⟩ = some (.slice R nr kr))) (by kernel_rfl) ⟨PC.out.cells11.1, PC.out.cells11.2.1, PC.out.cells11.2.2.1, PC.out.cells11.2.2.2.1, PC.out.cells11.2.2.2.2.1, PC.out.cells11.2.2.2.2.2.1, PC.out.cells11.2.2.2.2.2.2.1, PC.out.cells11.2.2.2.2.2.2.2.1, PC.out.cells11.2.2.2.2.2.2.2.2.1, PC.out.cells11.2.2.2.2.2.2.2.2.2.1, PC.out.cells11.2.2.2.2.2.2.2.2.2.2.1⟩ (fun hS => ?_)
  generalize w2.drew = Wd at *
  refine tk 0 hS ?_
  refine tk 1 hS ?_
  refine tk 2 hS ?_
  refine tk 3 hS ?_
  refine tk 4 hS ?_
  refine tk 5 hS ?_
  refine tk 6 hS ?_
  refine tk 7 hS ?_
  refine tk 8 hS ?_
  refine rdy [9] (csy (fun K hK => ?_) AllReadyH.nil)
  obtain ⟨y00, y01, y02, y03, y04, y05, y06, y07, yf0⟩ := ZR.out.cells8
  go_simp
  clear y00 y01 y02 y03 y04 y05 y06 y07 yf0
  refine named_store_8_8_0 ZR.out ?_
  intro Ws9 hbk hgr hsz
  have hsz0 := hid hsz
  clear hsz
  replace PC := hid (PC.out.grown hgr (by have := hne.out; simp; omega)); replace HX := hid (HX.out.low HLZ.out hgr)
  replace HB := hid (HB.out.grown hgr HB.out.size (fun r e => by cases e; omega))
  replace ZR := hid hbk
  clear hbk hgr
  clear hS
  refine ky hK ⟨PC.out.cells11.1, PC.out.cells11.2.1, PC.out.cells11.2.2.1, PC.out.cells11.2.2.2.1, PC.out.cells11.2.2.2.2.1, PC.out.cells11.2.2.2.2.2.1, PC.out.cells11.2.2.2.2.2.2.1, PC.out.cells11.2.2.2.2.2.2.2.1, PC.out.cells11.2.2.2.2.2.2.2.2.1, PC.out.cells11.2.2.2.2.2.2.2.2.2.1, PC.out.cells11.2.2.2.2.2.2.2.2.2.2.1⟩ fun hS => ?_
  clear hK K
  refine tk 10 hS ?_
  refine tk 11 hS ?_
  refine wpAnyH_done (by kernel_rfl) ?_ _
  refine NoPanic.normal ?_
  clear hS
  go_wp2
  obtain ⟨y00, y01, y02, y03, y04, y05, y06, y07, yf0⟩ := ZR.out.cells8
  refine bodyPost_ret (v := .tuple #[rcv (rnow, rns, ros) rg b, .slice R nr kr, .int .i64 rc]) (by simp [results, Tryz.results16, go_sem, y00, y01, y02, y03, y04, y05, y06, y07]) rfl ⟨b, R, nr, kr, rfl, ⟨es2, gp, HQ2.out, HX.out.mono (by have := HLZ.out; omega)⟩, HB.out⟩
set_option maxRecDepth 100000 in
set_option maxHeartbeats 4000000 in
theorem rsettle1_open (l gc : Nat) (s : St) (g : Gr) (es : List Qe) (a : Ra) (w : World) (h : CA w l gc s g es 0 0 [] a none 0 0) (hg : RcGood s g (ql es)) (hq : quietB s = false) :
    Calls Tryz.prog 45 #[ptr gc] w fun x w' => x = leaves 241 ∧ Below w.heap.size w w' := by
  have HC := hid h; have HR := hid (h.rcrg hg); have HQ := hid hq; have HB := hid (Below.refl w.heap.size w)
  clear h hg hq
  have bx := below_box w (.cells #[ptr gc] 72)
  replace HC := hid (HC.out.step bx); replace HR := hid (HR.out.step bx); replace HB := hid (below_then HB.out bx)
  clear bx
  have PB := hid (Blk.new w 72 #[ptr gc])
  go_enter Tryz.func45, Tryz.ntmps45
  obtain ⟨y0, y1, y2, y3, y4, y5, y6, y7, y8, y9, y10, yf⟩ := HC.out.box.cells11
  obtain ⟨y00, yf0⟩ := PB.out.cells1
  go_wp2_with fail
  generalize w.alloc (.cells #[ptr gc] 72) = W0 at *
  refine wp_scope_label 0 (fun _ _ => False) (fun _ _ => 0) rfl (fun _ => ?_) (fun _ _ h => h.elim)
  go_wp2_with fail
  clear y0 y1 y2 y3 y4 y5 y6 y7 y8 y9 y10 yf y00 yf0
  refine (rquiet_any s g es a _ HR.out).mono ?_
  rintro e w1 ⟨rfl, hb⟩
  replace HC := hid (HC.out.step hb); replace HR := hid (HR.out.step hb); replace PB := hid (PB.out.step hb); replace HB := hid (below_then HB.out hb)
  clear hb
  rw [HQ.out]
  go_wp2_with fail
  refine (rneed_no 241 _).mono ?_
  rintro x v1 ⟨rfl, rfl⟩
  unfold leaves
  go_wp2_with fail
  exact ⟨rfl, rfl, HB.out⟩
theorem rsettle_open (s : St) (g : Gr) (es : List Qe) (a : Ra) (w : World) (h : RcR w s g es a) (hk : RcOk s g es) (hq : quietB s = false) :
    Calls Tryz.prog 16 #[rcv s g a] w (RnPost w (241, (0, [], []), zGr, [], [])) := by
  refine rsettle_from s g es a w _ h (fun _ => rfl) (fun hn => absurd hk hn) (fun _ l gc es1 a1 W hca hgd _ => ?_)
  refine (rsettle1_open l gc s g es1 a1 W hca hgd hq).mono ?_
  rintro x w' ⟨rfl, hb⟩
  exact ⟨.ofBelow hb, .inr ⟨241, rfl, by decide, rfl⟩⟩
end Go.Proofs.YtfipdoofgbjbjaaGreat

/- What afterglowlaw14.wakes runs, plainly, and as it is called. No condition but sizes. -/
namespace Go.Proofs.YtfipdoofgbjbjaaGreat
open Go.RowKit
def T1 : List (Int × Int × Int) := [(3, 0, 7), (4, 0, 0), (4, 0, 0), (4, 1, 0), (5, 0, 0)]
def T2 : List (Int × Int × Int) := [(1, 1, 0), (3, 0, 7), (4, 0, 0), (4, 0, 0), (4, 1, 0)]
def T3 : List (Int × Int × Int) := [(2, 1, 0), (4, 1, 0), (5, 0, 0)]
theorem opsA_is {X : Int × St × Gr × Qs × List Int} {ran : List Int} (h1 : X.1 = 0) (h2 : X.2.2.2.2 = ran) : X = (0, X.2.1, X.2.2.1, X.2.2.2.1, ran) := by rw [← h1, ← h2]
def wkX : Int × St × Gr × Qs × List Int := opsA (nSt 2) (nGr 2) (nQs 2) [] T2
theorem wk_facts : ∃ s1 g1 q1, opsA (nSt 2) (nGr 2) (nQs 2) [] T2 = (0, s1, g1, q1, []) ∧ quietB s1 = false ∧ wN q1 = 1 ∧ (opsA s1 g1 q1 [] [(5, 0, 0)]).1 = 4 ∧
    (∃ s g q, opsA s1 g1 q1 [] T3 = (0, s, g, q, [7])) ∧ ∃ s g q, opsA (nSt 2) (nGr 2) (nQs 2) [] T1 = (0, s, g, q, [7]) := by
  refine ⟨wkX.2.1, wkX.2.2.1, wkX.2.2.2.1, opsA_is (by decide +kernel) (by decide +kernel), by decide +kernel, by decide +kernel, by decide +kernel, ⟨_, _, _, opsA_is (by decide +kernel) (by decide +kernel)⟩, ⟨_, _, _, opsA_is (by decide +kernel) (by decide +kernel)⟩⟩
theorem good_opsA {L : List (Int × Int × Int)} : ∀ {s : St} {g : Gr} {qs : Qs} {ran : List Int}, RcGood s g qs → (opsA s g qs ran L).1 = 0 → RcGood (opsA s g qs ran L).2.1 (opsA s g qs ran L).2.2.1 (opsA s g qs ran L).2.2.2.1 := by
  induction L with
  | nil => exact fun h _ => h
  | cons o L ih =>
    intro s g qs ran h hc
    unfold opsA at hc ⊢
    split at hc
    · rename_i e; rw [if_pos e]; exact ih (good_opF h e) hc
    · rename_i e; exact absurd hc e
theorem nGood {n : Nat} (h1 : 1 ≤ n) (h8 : n ≤ 8) : RcGood (nSt n) (nGr n) (nQs n) := by
  refine ⟨⟨?_, nGr_ok h1 h8, by simp [nSt, nGr]⟩, by simp [nQs, nGr], fun q hq => ?_⟩
  · refine good_iff.2 ⟨⟨by simpa [nSt] using h1, by simpa [nSt] using h8, by simp [nSt], by show (0 : Int) ≤ 0; omega, by show (0 : Int) ≤ _; omega⟩, fun i hi => ?_⟩
    have e : ∀ i : Nat, (List.replicate n (0 : Int))[i]?.getD 0 = 0 := fun i => by rw [List.getElem?_replicate]; split <;> rfl
    unfold RowR nSt
    simp only [e]
    exact ⟨by omega, by omega, fun _ => trivial, fun h => by omega, fun _ _ h => absurd rfl h⟩
  · obtain rfl := (List.mem_replicate.1 hq).2
    exact ⟨⟨by decide, by decide, fun k hk => absurd hk (by simp), fun k hk => absurd hk (by simp)⟩, rfl, fun c hc => (by cases hc)⟩
theorem rcA_ok {s : St} {g : Gr} {es : List Qe} {L : List (Int × Int × Int)} (h : RcGood s g (ql es)) : rcA s g es L = opsA s g (ql es) [] L := if_pos (rcOk_iff.2 h)
theorem RcT.rcr {w : World} {lo : Nat} {s : St} {g : Gr} {es : List Qe} {a : Ra} (h : RcT w lo s g es a) (gl : g.nd.length ≤ 1000) (gi : g.dn ≤ 9223372036854775807 ∧ g.ak ≤ 9223372036854775807) (ql : a.nq ≤ 1000) (ho : ∀ x ∈ es, 0 ≤ x.o ∧ x.o ≤ 18446744073709551615) : RcR w s g es a :=
  ⟨h.ro.rds, (h.gd.sl (d := false)).mono (Nat.zero_le _) (Nat.le_refl _), gl, gi, (h.qs.sm (d := zQe)).mono (Nat.zero_le _) (Nat.le_refl _), ql, fun x hx => ⟨((h.qe x hx).1.sm (d := (0, 0))).mono (Nat.zero_le _) (Nat.le_refl _), (h.qe x hx).1.cap.1, (h.qe x hx).2, (ho x hx).1, (ho x hx).2⟩⟩
theorem CX.rcr {w : World} {l gc : Nat} {s : St} {g : Gr} {es : List Qe} {ran : List Int} {a : Ra} {R : Option Addr} {nr kr : Nat} (h : CX w l gc s g es ran a R nr kr) (hg : RcGood s g (ql es)) : RcR w s g es a := by
  have h1 := hg.1.2.1.small
  have h2 := hg.1.2.1.2.1
  have h3 := hg.1.2.1.2.2.2.2.2.1
  have h4 := hg.2.1
  rw [ql_len, h.qs.len] at h4
  exact ⟨h.ro.rds, (h.gd.sl (d := false)).mono (Nat.zero_le _) (Nat.le_refl _), by omega, by omega, (h.qs.sm (d := zQe)).mono (Nat.zero_le _) (Nat.le_refl _), by omega, fun x hx => ⟨((h.qe x hx).1.mono (Nat.zero_le _)).sm, (h.qe x hx).2.1, (h.qe x hx).2.2.1, (h.qe x hx).2.2.2.1.1, (h.qe x hx).2.2.2.1.2⟩⟩
/-- it can be read, whatever is done to those blocks -/
def RcP (p : Nat → Prop) (w : World) (s : St) (g : Gr) (es : List Qe) (a : Ra) : Prop := ∀ w', GrownP p w w' → RcR w' s g es a
theorem RcP.step {p : Nat → Prop} {w w' : World} {s : St} {g : Gr} {es : List Qe} {a : Ra} (h : RcP p w s g es a) (hb : Below w.heap.size w w') : RcP p w' s g es a := fun w2 k => h w2 ((GrownP.ofBelow hb).trans k)
theorem RcP.rcr {p : Nat → Prop} {w : World} {s : St} {g : Gr} {es : List Qe} {a : Ra} (h : RcP p w s g es a) : RcR w s g es a := h w (.refl _ _)
theorem RcP.turn {p : Nat → Prop} {w w' : World} {s : St} {g : Gr} {es : List Qe} {a : Ra} {q : Nat} (h : RcP p w s g es a) (hg : w.grownBy w' (some q)) (hq : p q) : RcP p w' s g es a := fun w2 k => h w2 ((GrownP.ofGrown hg hq).trans k)
/-- new blocks are not its own -/
theorem RcR.above {w : World} {s : St} {g : Gr} {es : List Qe} {a : Ra} (h : RcR w s g es a) : RcP (fun i => w.heap.size ≤ i) w s g es a := fun w' k =>
  h.step ⟨k.os, k.tape, k.output, k.size, fun i hi => k.block i hi (by omega)⟩
theorem om_keptP {α : Type} {sz : Nat} {enc : α → Nat → Value} {w w' : World} {lo n c : Nat} {e : TypeId} {A : Option Addr} {xs : List α} {p : Nat → Prop} (h : Om sz enc w lo e A n c xs) (k : GrownP p w w') (hp : ∀ a, A = some a → ¬ p a.block) : Om sz enc w' lo e A n c xs := by
  refine ⟨h.len, h.own.1, ?_⟩
  rcases h.own.2 with hh | ⟨g, cap, cur, hv, hb1, hg, r⟩
  · exact .inl hh
  · refine .inr ⟨g, cap, cur, hv, hb1, (k.block g (Array.getElem?_eq_some_iff.1 hg).1 ?_).trans hg, r⟩
    simp only [Value.slice.injEq] at hv
    exact hp ⟨g, 0, none⟩ hv.1
theorem CX.lowP {w w' : World} {l gc : Nat} {s : St} {g : Gr} {es : List Qe} {ran : List Int} {a : Ra} {R : Option Addr} {nr kr : Nat} {p : Nat → Prop} (h : CX w l gc s g es ran a R nr kr) (k : GrownP p w w') (hp : ∀ i, p i → i < l) : CX w' l gc s g es ran a R nr kr :=
  ⟨h.ro.keptP k (fun a ha hq => by
      have := hp _ hq
      rcases ha with ha | ha
      · have := (h.ro.oa.blk a ha).1; omega
      · have := (h.ro.ob.blk a ha).1; omega),
   h.gd.keptP k (fun a ha hq => by have := hp _ hq; have := (h.gd.blk a ha).1; omega), om_keptP h.qs k (fun a ha hq => by have := hp _ hq; have := (h.qs.blk a ha).1; omega),
   h.rn.keptP k (fun a ha hq => by have := hp _ hq; have := (h.rn.blk a ha).1; omega), fun x hx => by
    obtain ⟨k1, k2⟩ := h.qe x hx
    exact ⟨k1.keptP k (fun hn b hb e => by
      obtain ⟨b', off, e2, h2, _⟩ := k1.sm.row hn
      rw [hb] at e2; cases e2; dsimp only at e; have := hp _ e; omega), k2⟩, h.lg⟩
theorem Blk.smO {w : World} {g n : Nat} {e : TypeId} {cs : Array Value} {xs : List (Int × Int × Int)} (h : Blk w g e cs) (hn : xs.length = n) (hc : ∀ k, k < n → ∀ j, j < 3 → cs[k * 3 + j]? = some (encO (xs[k]?.getD (0, 0, 0)) j)) : Sm 3 encO (0, 0, 0) w 0 w.heap.size (some ⟨g, 0, none⟩) n xs := by
  refine ⟨hn, fun _ => ⟨g, 0, rfl, Nat.zero_le _, h.lt, fun k hk j hj => ?_⟩⟩
  rw [Nat.zero_add, h.cell, hc k hk j hj]
/-- Run, where all goes well, with what it comes to known -/
def WkR (s1 : St) (g1 : Gr) (q1 : Qs) (ran : List Int) (w : World) (x : Ending) (w' : World) : Prop :=
  ∃ a es R kr, x = .returned (.tuple #[rcv s1 g1 a, .slice R ran.length kr, .int .i64 0]) ∧ ql es = q1 ∧ RcP (fun i => i < w.heap.size) w' s1 g1 es a ∧ Ow u64v w' w.heap.size 35 R ran.length kr ran ∧ Below w.heap.size w w'
theorem wk_run {s : St} {g : Gr} {es : List Qe} {a : Ra} {L : List (Int × Int × Int)} {s1 : St} {g1 : Gr} {q1 : Qs} {ran : List Int} (T : Option Addr) (nt kt : Nat) (w : World) (hR : RcR w s g es a) (hk : RcGood s g (ql es)) (hT : Sm 3 encO (0, 0, 0) w 0 w.heap.size T nt L) (hnt : nt ≤ 1000000)
    (hr : opsA s g (ql es) [] L = (0, s1, g1, q1, ran)) : Calls Tryz.prog 14 #[rcv s g a, .slice T nt kt] w (WkR s1 g1 q1 ran w) := by
  refine (rrunall_any s g es a T nt kt L w hR hT hnt).mono ?_
  rw [rcA_ok hk, hr]
  have hg := good_opsA (L := L) (ran := []) hk (by rw [hr])
  rw [hr] at hg
  rintro x w' ⟨a', R, nr, kr, rfl, ⟨es', gc, h1, h2⟩, hb⟩
  dsimp only at h1 h2 hg
  obtain rfl : ran.length = nr := h2.rn.len
  exact ⟨a', es', R, kr, rfl, h1, fun w2 k => (h2.lowP k (fun i hi => hi)).rcr (by rw [h1]; exact hg), h2.rn, hb⟩
/-- Step, where it is refused -/
theorem wk_no {s : St} {g : Gr} {es : List Qe} {a : Ra} {o : Int × Int × Int} {c : Int} (w : World) (hR : RcR w s g es a) (hk : RcGood s g (ql es)) (hr : (opsA s g (ql es) [] [o]).1 = c) (hc : c ≠ 0) :
    Calls Tryz.prog 10 #[rcv s g a, .agg (ocs o)] w fun x w' => (∃ a', x = .returned (.tuple #[rcv (0, [], []) zGr a', .int .u64 0, .int .i64 c])) ∧ Below w.heap.size w w' := by
  refine (rstep_any s g es a o w hR).mono ?_
  rw [rcA_ok hk]
  have hz := opsA_nz (L := [o]) (s := s) (g := g) (qs := ql es) (ran := []) (by rw [hr]; exact hc)
  rintro x w' ⟨a', R, nr, kr, rfl, _, hb⟩
  rw [hr, hz]
  exact ⟨⟨a', rfl⟩, hb⟩
end Go.Proofs.YtfipdoofgbjbjaaGreat
