/- package rcu: Check. No condition but sizes, and that numbers are of their kinds. -/
import Derived.Test.YtfipdoofgbjbjaaRc1
namespace Go.Proofs.Ytfipdoofgbjbjaa
open Go.RowKit
attribute [local go_sem] Oper.semAt_some
/-- where all of it lies -/
structure Ra where
  A : Option Addr
  n : Nat
  k : Nat
  B : Option Addr
  m : Nat
  d : Nat
  D : Option Addr
  kd : Nat
  Q : Option Addr
  nq : Nat
  kq : Nat
@[reducible] def rcells (s : St) (g : Gr) (a : Ra) : Array Value := #[.int .i64 s.1, .slice a.A a.n a.k, .slice a.B a.m a.d, .int .i64 g.dn, .int .i64 g.ak, .bool g.on, .slice a.D g.nd.length a.kd, .slice a.Q a.nq a.kq]
@[reducible] def rcv (s : St) (g : Gr) (a : Ra) : Value := .agg (rcells s g a)
def QeR (w : World) (x : Qe) : Prop := Sm 2 encC (0, 0) w 0 w.heap.size x.A x.n x.l ∧ x.n ≤ x.c ∧ x.n ≤ 1000 ∧ 0 ≤ x.o ∧ x.o ≤ 18446744073709551615
/-- all of it can be read -/
structure RcR (w : World) (s : St) (g : Gr) (es : List Qe) (a : Ra) : Prop where
  rd : Rds w a.A a.n a.k a.B a.m a.d s.2.1 s.2.2
  gd : Sl blv false w 0 w.heap.size a.D g.nd.length g.nd
  gl : g.nd.length ≤ 1000
  gi : g.dn ≤ 9223372036854775807 ∧ g.ak ≤ 9223372036854775807
  qs : Sm 2 encQ zQe w 0 w.heap.size a.Q a.nq es
  ql : a.nq ≤ 1000
  qe : ∀ x ∈ es, QeR w x
theorem QeR.step {w w' : World} {x : Qe} (h : QeR w x) (hb : Below w.heap.size w w') : QeR w' x := ⟨h.1.step hb, h.2⟩
theorem RcR.step {w w' : World} {s : St} {g : Gr} {es : List Qe} {a : Ra} (h : RcR w s g es a) (hb : Below w.heap.size w w') : RcR w' s g es a :=
  ⟨h.rd.step hb, h.gd.step hb, h.gl, h.gi, h.qs.step hb, h.ql, fun x hx => (h.qe x hx).step hb⟩
def rightQ (g : Gr) (x : Qe) : Bool := decide (QGood x.o x.l) && (decide (x.o = max g.dn 0) && x.l.all (fun c => decide (c.1 ≤ max g.ak 0)))
def RcOk (s : St) (g : Gr) (es : List Qe) : Prop := Good s.1 s.2.1 s.2.2 ∧ gchkC g = 0 ∧ g.nd.length = s.2.1.length ∧ es.length = s.2.1.length ∧ es.all (rightQ g) = true
instance {s : St} {g : Gr} {es : List Qe} : Decidable (RcOk s g es) := by unfold RcOk; infer_instance
def rcheckC (s : St) (g : Gr) (es : List Qe) : Int := if RcOk s g es then 0 else 240
/-- a number that may be is a word -/
theorem u64_pos {a : Int} (h : a ≤ 9223372036854775807) : IntKind.u64.wrap (max a 0) = max a 0 := by rw [IntKind.wrap_u64]; omega
set_option maxRecDepth 100000 in
set_option maxHeartbeats 1000000 in
theorem asked_any (p x : Int) (gr : Nat) (s : St) (g : Gr) (a : Ra) (w : World) (hP : Blk w gr 30 (rcells s g a)) (hk : g.ak ≤ 9223372036854775807) :
    Calls Try.prog 20 #[cbv p x, ptr gr] w fun e w' => e = .returned (.bool (decide (p ≤ max g.ak 0))) ∧ Below w.heap.size w w' := by
  have hu := u64_pos hk
  have hmx : (if g.ak < 0 then (0 : Int) else g.ak) = max g.ak 0 := by split <;> omega
  have hmy : max g.ak 0 = max g.ak 0 := rfl
  obtain ⟨M, hM⟩ : ∃ M, M = max g.ak 0 := ⟨_, rfl⟩
  rw [← hM] at hu hmx ⊢
  have hmz : max g.ak 0 = M := hM.symm
  have HB := hid (below_box w (.cells #[.int .u64 p, .int .u64 x] 65))
  obtain ⟨y0, y1, y2, y3, y4, y5, y6, y7, yf⟩ := (hP.step HB.out).cells8
  obtain ⟨z0, z1, zf⟩ := (Blk.new w 65 #[.int .u64 p, .int .u64 x]).cells2
  clear hP hk hM hmy
  go_enter Try.func20, Try.ntmps20
  go_wp2
  all_goals
    go_ret
    refine ⟨ret_bool ?_, HB.out⟩
    first | rfl | (rw [decide_eq_decide]; omega)
set_option maxRecDepth 100000 in
set_option maxHeartbeats 2000000 in
theorem rightq_any (x : Qe) (gr gk : Nat) (s : St) (g : Gr) (a : Ra) (w : World) (hx : QeR w x) (hP : Blk w gr 30 (rcells s g a)) (hF : Blk w gk 66 #[.func (.func 20) #[] #[ptr gr]]) (hi : g.dn ≤ 9223372036854775807 ∧ g.ak ≤ 9223372036854775807) :
    Calls Try.prog 21 #[qv x.A x.n x.c x.o, ptr gr, ptr gk] w fun e w' => e = .returned (.bool (rightQ g x)) ∧ Below w.heap.size w w' := by
  obtain ⟨l, o, A, n, c⟩ := x
  have HX := hid hx; have P := hid hP; have PF := hid hF; have HI := hid hi; have HB := hid (Below.refl w.heap.size w)
  have HE : Hid (rightQ g ⟨l, o, A, n, c⟩ = (decide (QGood o l) && (decide (o = max g.dn 0) && l.all (fun c => decide (c.1 ≤ max g.ak 0))))) := hid rfl
  obtain ⟨R, hR⟩ : ∃ R, R = rightQ g ⟨l, o, A, n, c⟩ := ⟨_, rfl⟩
  rw [← hR] at HE ⊢
  clear hx hP hF hi hR
  dsimp only
  have bx := below_box w (.cells #[.slice A n c, .int .u64 o] 40)
  replace HX := hid (HX.out.step bx); replace P := hid (P.out.step bx); replace PF := hid (PF.out.step bx); replace HB := hid (below_then HB.out bx)
  clear bx
  have PQ := hid (Blk.new w 40 #[.slice A n c, .int .u64 o])
  obtain ⟨y00, y01, yf0⟩ := PQ.out.cells2
  go_enter Try.func21, Try.ntmps21
  go_wp2_with fail
  clear y00 y01 yf0
  generalize w.alloc (.cells #[.slice A n c, .int .u64 o] 40) = W0 at *
  refine (qcheck_any A n c o l _ HX.out.1 (by have := HX.out.2.2.1; dsimp only at this; omega) HX.out.2.2.2.1).mono ?_
  rintro e w1 ⟨rfl, hb⟩
  replace HX := hid (HX.out.step hb); replace P := hid (P.out.step hb); replace PF := hid (PF.out.step hb); replace PQ := hid (PQ.out.step hb); replace HB := hid (below_then HB.out hb)
  clear hb
  by_cases h1 : QGood o l
  rotate_left
  ·skip
   have e1 : qcheckC o l = 230 := if_neg h1
   have HR := hid (show R = false by rw [HE.out, decide_eq_false h1]; rfl)
   rw [e1]
   clear e1 h1
   go_wp2
   go_ret
   exact ⟨ret_bool HR.out.symm, HB.out⟩
  have e1 : qcheckC o l = 0 := if_pos h1
  replace HE := hid (show R = (decide (o = max g.dn 0) && l.all (fun c => decide (c.1 ≤ max g.ak 0))) by rw [HE.out, decide_eq_true h1]; rfl)
  rw [e1]
  clear e1 h1
  have hu := u64_pos HI.out.1
  obtain ⟨M, hM⟩ : ∃ M, M = max g.dn 0 := ⟨_, rfl⟩
  rw [← hM] at hu HE
  have hmz : max g.dn 0 = M := hM.symm
  have hmx : (if g.dn < 0 then (0 : Int) else g.dn) = M := by split <;> omega
  clear hM
  obtain ⟨y00, y01, yf0⟩ := PQ.out.cells2
  obtain ⟨y10, y11, y12, y13, y14, y15, y16, y17, yf1⟩ := P.out.cells8
  obtain ⟨y20, yf2⟩ := PF.out.cells1
  by_cases h2 : o = M
  rotate_left
  ·skip
   have HR := hid (show R = false by rw [HE.out, decide_eq_false h2]; rfl)
   have h2b : (o == M) = false := by simpa using h2
   clear h2
   go_wp2
   all_goals
     go_ret
     exact ⟨ret_bool HR.out.symm, HB.out⟩
  have h2b : (o == M) = true := by simpa using h2
  replace HE := hid (show R = l.all (fun c => decide (c.1 ≤ max g.ak 0)) by rw [HE.out, decide_eq_true h2]; rfl)
  clear h2
  go_wp2_with fail
  clear y00 y01 yf0 y10 y11 y12 y13 y14 y15 y16 y17 yf1 y20 yf2 hu hmz hmx h2b
  refine (all_cb A n c l 20 #[ptr gr] (fun c => decide (c.1 ≤ max g.ak 0)) w1 HX.out.1 (by have := HX.out.2.2.1; dsimp only at this; omega) (enters_of Try.func20 (by kernel_rfl) rfl) (fun y W hy hbW => asked_any y.1 y.2 gr s g a W (P.out.step hbW) HI.out.2)).mono ?_
  rintro e w2 ⟨rfl, hb⟩
  replace HX := hid (HX.out.step hb); replace P := hid (P.out.step hb); replace PF := hid (PF.out.step hb); replace PQ := hid (PQ.out.step hb); replace HB := hid (below_then HB.out hb)
  clear hb
  rw [← HE.out]
  go_wp2
  go_ret
  exact ⟨rfl, HB.out⟩
set_option maxRecDepth 100000 in
set_option maxHeartbeats 4000000 in
theorem rcheck_any (s : St) (g : Gr) (es : List Qe) (a : Ra) (w : World) (h : RcR w s g es a) :
    Calls Try.prog 7 #[rcv s g a] w fun e w' => e = .returned (.int .i64 (rcheckC s g es)) ∧ Below w.heap.size w w' := by
  have HR := hid h; have HB := hid (Below.refl w.heap.size w)
  have NO : Hid (¬ RcOk s g es → rcheckC s g es = 240) := hid (fun h => if_neg h)
  have YES : Hid (RcOk s g es → rcheckC s g es = 0) := hid (fun h => if_pos h)
  obtain ⟨cd, hcd⟩ : ∃ c, c = rcheckC s g es := ⟨_, rfl⟩
  rw [← hcd] at NO YES ⊢
  clear h hcd
  obtain ⟨A, n, k, B, m, d, D, kd, Q, nq, kq⟩ := a
  have hl1 := hid HR.out.rd.lenx; have hl2 := hid HR.out.gd.len; have hl3 := hid HR.out.qs.len
  obtain ⟨now, ns, os⟩ := s
  have bx := below_box w (.cells (rcells (now, ns, os) g ⟨A, n, k, B, m, d, D, kd, Q, nq, kq⟩) 30)
  replace HR := hid (HR.out.step bx); replace HB := hid (below_then HB.out bx)
  clear bx
  have PR := hid (Blk.new w 30 (rcells (now, ns, os) g ⟨A, n, k, B, m, d, D, kd, Q, nq, kq⟩))
  have bx := below_box (w.alloc (.cells (rcells (now, ns, os) g ⟨A, n, k, B, m, d, D, kd, Q, nq, kq⟩) 30)) (.cells #[.func (.func 20) #[] #[ptr w.heap.size]] 66)
  replace HR := hid (HR.out.step bx); replace PR := hid (PR.out.step bx); replace HB := hid (below_then HB.out bx)
  clear bx
  have PF := hid (Blk.new2 w 66 #[.func (.func 20) #[] #[ptr w.heap.size]] (.cells (rcells (now, ns, os) g ⟨A, n, k, B, m, d, D, kd, Q, nq, kq⟩) 30))
  have hmf : ∀ (fn : Fn) (first cap : Array Value) (w : World), (Instr.makeFunc fn first cap).run Try.prog w = .ok (.func fn first cap) w := fun _ _ _ _ => rfl
  have P1 := hid (Blk.new w 30 (rcells (now, ns, os) g ⟨A, n, k, B, m, d, D, kd, Q, nq, kq⟩))
  obtain ⟨z0, z1, z2, z3, z4, z5, z6, z7, zf⟩ := P1.out.cells8
  go_enter Try.func7, Try.ntmps7
  go_upto_region 4 with fail
  clear z0 z1 z2 z3 z4 z5 z6 z7 zf hmf P1
  generalize (w.alloc (.cells (rcells (now, ns, os) g ⟨A, n, k, B, m, d, D, kd, Q, nq, kq⟩) 30)).alloc (.cells #[.func (.func 20) #[] #[ptr w.heap.size]] 66) = W0 at *
  obtain ⟨y00, y01, y02, y03, y04, y05, y06, y07, yf0⟩ := PR.out.cells8
  go_wp2_with fail
  clear y00 y01 y02 y03 y04 y05 y06 y07 yf0
  by_cases h1 : Good now ns os
  rotate_left
  ·skip
   refine (check_bad now A n k B m d ns os _ HR.out.rd h1).mono ?_
   rintro e w1 ⟨rfl, hb⟩
   replace HR := hid (HR.out.step hb); replace PR := hid (PR.out.step hb); replace PF := hid (PF.out.step hb); replace HB := hid (below_then HB.out hb)
   clear hb
   have E := hid (NO.out (fun h => h1 h.1))
   clear h1
   go_wp2
   go_ret
   exact ⟨ret_int E.out.symm, HB.out⟩
  refine (check_good now A n k B m d ns os _ HR.out.rd h1).mono ?_
  rintro e w1 ⟨rfl, hb⟩
  replace HR := hid (HR.out.step hb); replace PR := hid (PR.out.step hb); replace PF := hid (PF.out.step hb); replace HB := hid (below_then HB.out hb)
  clear hb
  have H1 := hid h1
  clear h1
  obtain ⟨y00, y01, y02, y03, y04, y05, y06, y07, yf0⟩ := PR.out.cells8
  go_wp2_with fail
  clear y00 y01 y02 y03 y04 y05 y06 y07 yf0
  refine (gcheck_any g D g.nd.length kd 0 _ (HR.out.gd) (by have := HR.out.gl; omega)).mono ?_
  rintro e w2 ⟨rfl, hb⟩
  replace HR := hid (HR.out.step hb); replace PR := hid (PR.out.step hb); replace PF := hid (PF.out.step hb); replace HB := hid (below_then HB.out hb)
  clear hb
  by_cases h2 : gchkC g = 0
  rotate_left
  ·skip
   have E := hid (NO.out (fun h => h2 h.2.1))
   have h2b : (gchkC g == 0) = false := by simpa using h2
   clear h2
   go_wp2
   go_ret
   exact ⟨ret_int E.out.symm, HB.out⟩
  have H2 := hid h2
  rw [h2]
  clear h2
  by_cases h3 : g.nd.length = n
  rotate_left
  ·skip
   have E := hid (NO.out (fun h => h3 (by rw [h.2.2.1]; exact hl1.out)))
   have h3b : ((g.nd.length : Int) != (n : Int)) = true := by simp; omega
   clear h3
   obtain ⟨y00, y01, y02, y03, y04, y05, y06, y07, yf0⟩ := PR.out.cells8
   go_wp2
   go_ret
   exact ⟨ret_int E.out.symm, HB.out⟩
  have H3 := hid h3
  have h3b : ((g.nd.length : Int) != (n : Int)) = false := by rw [h3]; simp
  clear h3
  by_cases h4 : nq = n
  rotate_left
  ·skip
   have E := hid (NO.out (fun h => h4 (by have := h.2.2.2.1; have h5 := hl1.out; have h6 := hl3.out; dsimp only at this h5 h6; omega)))
   have h4b : ((nq : Int) != (n : Int)) = true := by simp; omega
   clear h4
   obtain ⟨y00, y01, y02, y03, y04, y05, y06, y07, yf0⟩ := PR.out.cells8
   go_wp2
   go_ret
   exact ⟨ret_int E.out.symm, HB.out⟩
  have H4 := hid h4
  have h4b : ((nq : Int) != (n : Int)) = false := by rw [h4]; simp
  clear h4
  obtain ⟨y00, y01, y02, y03, y04, y05, y06, y07, yf0⟩ := PR.out.cells8
  go_wp2_with fail
  clear h3b h4b y00 y01 y02 y03 y04 y05 y06 y07 yf0
  refine (all_qe Q nq kq es 21 #[ptr w.heap.size, ptr (w.heap.size + 1)] (rightQ g) w2 HR.out.qs (by have := HR.out.ql; dsimp only at this; omega) (enters_of Try.func21 (by kernel_rfl) rfl) (fun x W hx hbW => rightq_any x w.heap.size (w.heap.size + 1) (now, ns, os) g ⟨A, n, k, B, m, d, D, kd, Q, nq, kq⟩ W ((HR.out.qe x hx).step hbW) (PR.out.step hbW) (PF.out.step hbW) HR.out.gi)).mono ?_
  rintro e w3 ⟨rfl, hb⟩
  replace HR := hid (HR.out.step hb); replace PR := hid (PR.out.step hb); replace PF := hid (PF.out.step hb); replace HB := hid (below_then HB.out hb)
  clear hb
  obtain ⟨q, hq⟩ : ∃ q, q = es.all (rightQ g) := ⟨_, rfl⟩
  have HQ := hid hq
  rw [← hq]
  clear hq
  rcases q with _ | _
  · have E := hid (NO.out (fun h => by have h5 := h.2.2.2.2; rw [← HQ.out] at h5; cases h5))
    go_wp2
    go_ret
    exact ⟨ret_int E.out.symm, HB.out⟩
  · have E := hid (YES.out ⟨H1.out, H2.out, by have h5 := hl1.out; have h6 := H3.out; dsimp only at h5 ⊢; omega, by have h5 := hl1.out; have h6 := H4.out; have h7 := hl3.out; dsimp only at h5 h7 ⊢; omega, HQ.out.symm⟩)
    go_wp2
    go_ret
    exact ⟨ret_int E.out.symm, HB.out⟩
end Go.Proofs.Ytfipdoofgbjbjaa
