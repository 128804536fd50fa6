/- Walks and plain laws for this claim, part 10. No condition but sizes. -/
import Derived.Test.YtfipdoofgbjbjaaGreatM9
import Derived.Test.YtfipdoofgbjbjaaGreatM7
import Derived.Test.YtfipdoofgbjbjaaGreatM1
import Derived.Test.YtfipdoofgbjbjaaGreatM8
import Derived.BigRegionIn
/- afterglowref14: Step, all of it. No condition but sizes. -/
namespace Go.Proofs.YtfipdoofgbjbjaaGreat
open Go.RowKit
attribute [local go_sem] Oper.semAt_some
theorem good_bnd {now : Int} {ns os : List Int} (hg : Good now ns os) {k : Nat} (hk : k < ns.length) : 0 ≤ ns[k]?.getD 0 ∧ ns[k]?.getD 0 ≤ 8 := ⟨(hg.2.1 k hk).1, (hg.2.1 k hk).2.1⟩
/-- ref11's Step, of readers that may be -/
theorem rstep11_any (s : St) (A : Option Addr) (n c : Nat) (B : Option Addr) (m d : Nat) (k : Nat) (ent : Bool) (w : World) (h : Rds w A n c B m d s.2.1 s.2.2) (hg : Good s.1 s.2.1 s.2.2) (hk : k < s.2.1.length) :
    Calls Tryz.prog 40 #[rv s.1 A n c B m d, rdv (k : Int) ent] w (OnePost w (rstepF s ((k : Int), ent))) := by
  obtain ⟨now, ns, os⟩ := s
  dsimp only at h hg hk ⊢
  by_cases hc : stC (now, ns, os) ((k : Int), ent) = 0
  · have e : rstepF (now, ns, os) ((k : Int), ent) = (0, stN (now, ns, os) ((k : Int), ent)) := if_pos hc
    rw [e]
    have h1 := h.lenx; have h2 := h.leny
    have h3 := hg.1.2.2.1
    obtain rfl : n = m := by omega
    have hc' := hc
    unfold stC stepCode at hc
    dsimp only at hc
    rw [if_neg (by omega)] at hc
    have hnow : now ≠ 2147483647 := fun e => by rw [if_pos e] at hc; exact absurd hc (by decide)
    rw [if_neg hnow] at hc
    have hn1 : now < 2147483647 := by have := hg.1.2.2.2.2; omega
    cases ent
    · rw [if_neg (by decide)] at hc
      exact rstep_ok_f now A n c B d ns os k w h (by omega) hg.1.2.2.2.1 hn1 (good_bnd hg hk) (fun e => by rw [Int.toNat_natCast, if_pos e] at hc; exact absurd hc (by decide))
    · rw [if_pos rfl] at hc
      exact rstep_ok_t now A n c B d ns os k w h (by omega) hg.1.2.2.2.1 hn1 (good_bnd hg hk) (fun e => by rw [Int.toNat_natCast, if_pos e] at hc; exact absurd hc (by decide))
  · exact rstep_bad now A n c B m d ns os (k : Int) ent w h hc
/-- one op -/
theorem ops1 (s : St) (g : Gr) (qs : Qs) (o : Int × Int × Int) : opsA s g qs [] [o] = if (opF s g qs o).1 = 0 then (0, (opF s g qs o).2.1, (opF s g qs o).2.2.1, (opF s g qs o).2.2.2.1, (opF s g qs o).2.2.2.2) else ((opF s g qs o).1, (0, [], []), zGr, [], []) := by
  unfold opsA
  split
  · unfold opsA; rfl
  · rfl
theorem run_cases {s : St} {g : Gr} {qs : Qs} {c : Nat} (x : Int) (hg : RcGood s g qs) (hc : c < qs.length) :
    (0 < drN qs c ∧ opsA s g qs [] [(5, (c : Int), x)] = (0, s, g, drQ qs c 1, [(drR qs c 1)[0]?.getD 0])) ∨ (¬ 0 < drN qs c ∧ opsA s g qs [] [(5, (c : Int), x)] = (4, (0, [], []), zGr, [], [])) := by
  have e := opF_lt (s := s) (g := g) (qs := qs) (k := 5) (cp := c) (x := x) (by omega) hc
  rw [if_neg (by decide), if_neg (by decide), if_neg (by decide)] at e
  have hq := (hg.2.2 _ (qAt_mem hc)).1
  rw [ops1, e]
  change _ ∨ _
  have ht : takeF (qs[c]?.getD ([], 0)).2 (qs[c]?.getD ([], 0)).1 = if drN qs c = 0 then (0, [], 0, 4) else ((qAt qs c).2, (qAt qs c).1.drop 1, ((qAt qs c).1[0]?.getD (0, 0)).2, 0) := by
    unfold takeF
    rw [if_neg (not_not_intro hq)]
    rfl
  rw [ht]
  by_cases h0 : drN qs c = 0
  · rw [if_pos h0]; exact .inr ⟨by omega, rfl⟩
  · rw [if_neg h0]
    refine .inl ⟨by omega, ?_⟩
    have hr : (drR qs c 1)[0]?.getD 0 = ((qAt qs c).1[0]?.getD (0, 0)).2 := by
      unfold drR
      cases (qAt qs c).1 <;> rfl
    rw [hr]
    rfl
theorem Rown.forP {w : World} {lo n k m d : Nat} {A B : Option Addr} {ns os : List Int} {p : Nat → Prop} (h : Rown w lo A n k B m d ns os) (hp : ∀ i, p i → i < lo) : ∀ w', GrownP p w w' → Rds w' A n k B m d ns os := fun w' kk =>
  (h.keptP kk (fun a ha hq => by
    have := hp _ hq
    rcases ha with ha | ha
    · have := (h.oa.blk a ha).1; omega
    · have := (h.ob.blk a ha).1; omega)).rds
/-- other readers -/
theorem RcP.setS {p : Nat → Prop} {w : World} {s s' : St} {g : Gr} {es : List Qe} {a : Ra} (h : RcP p w s g es a) {A B : Option Addr} {n k m d : Nat} (hd : ∀ w', GrownP p w w' → Rds w' A n k B m d s'.2.1 s'.2.2) : RcP p w s' g es { a with A := A, n := n, k := k, B := B, m := m, d := d } := fun w' kk =>
  ⟨hd w' kk, (h w' kk).gd, (h w' kk).gl, (h w' kk).gi, (h w' kk).qs, (h w' kk).ql, (h w' kk).qe⟩
/-- what Step hands back -/
def SA14 (p : Nat → Prop) (w : World) (o : Int × Int × Int) (r : Int × St × Gr × Qs × List Int) (x : Ending) (w' : World) : Prop := RS14 p w r.2.1 r.2.2.1 r.2.2.2.1 (lastO r.2.2.2.2) (decide (o.1 = 5 ∧ r.1 = 0)) r.1 x w'
set_option maxRecDepth 100000 in
set_option maxHeartbeats 8000000 in
theorem rstep14_bad (p : Nat → Prop) (s : St) (g : Gr) (a : Ra) (k c x : Int) (n : Nat) (w : World) (hnq : a.nq = n) (hbad : (k < 1 ∨ 5 < k) ∨ (c < 0 ∨ (n : Int) ≤ c)) :
    Calls Tryz.prog 11 #[rcv s g a, .agg #[.int .i64 k, .int .i64 c, .int .u64 x]] w (RS14 p w zSt zGr [] 0 false (if k < 1 ∨ 5 < k then 242 else 2)) := by
  have HB := hid (Below.refl w.heap.size w)
  subst hnq
  obtain ⟨cd, hcd⟩ : ∃ cd : Int, cd = if k < 1 ∨ 5 < k then 242 else 2 := ⟨_, rfl⟩
  rw [← hcd]
  have bx := below_box w (.cells (rcells s g a) 30)
  replace HB := hid (below_then HB.out bx)
  clear bx
  have P := hid (Blk.new w 30 (rcells s g a))
  have bx := below_box (w.alloc (.cells (rcells s g a) 30)) (.cells #[.int .i64 k, .int .i64 c, .int .u64 x] 37)
  replace P := hid (P.out.step bx); replace HB := hid (below_then HB.out bx)
  clear bx
  have PO := hid (Blk.new2 w 37 #[.int .i64 k, .int .i64 c, .int .u64 x] (.cells (rcells s g a) 30))
  have bx := below_box ((w.alloc (.cells (rcells s g a) 30)).alloc (.cells #[.int .i64 k, .int .i64 c, .int .u64 x] 37)) (.cells #[.int .i64 0, .slice none 0 0, .slice none 0 0, .int .i64 0, .int .i64 0, .bool false, .slice none 0 0, .slice none 0 0] 30)
  replace P := hid (P.out.step bx); replace PO := hid (PO.out.step bx); replace HB := hid (below_then HB.out bx)
  clear bx
  have PZ := hid (Blk.new3 w 30 #[.int .i64 0, .slice none 0 0, .slice none 0 0, .int .i64 0, .int .i64 0, .bool false, .slice none 0 0, .slice none 0 0] (.cells (rcells s g a) 30) (.cells #[.int .i64 k, .int .i64 c, .int .u64 x] 37))
  go_enter Tryz.func11, Tryz.ntmps11
  by_cases c1 : k < 1
  ·skip
   obtain rfl : cd = 242 := by rw [hcd]; first | exact if_pos (by omega) | exact if_neg (by omega)
   clear hcd hbad
   have c1' := c1
   obtain ⟨y00, y01, y02, y03, y04, y05, y06, y07, yf0⟩ := P.out.cells8
   obtain ⟨y10, y11, y12, yf1⟩ := PO.out.cells3
   go_upto_region 2 with fail
   clear y00 y01 y02 y03 y04 y05 y06 y07 yf0 y10 y11 y12 yf1
   obtain ⟨y00, y01, y02, y03, y04, y05, y06, y07, yf0⟩ := PZ.out.cells8
   go_wp2_with fail
   clear y00 y01 y02 y03 y04 y05 y06 y07 yf0
   generalize ((w.alloc (.cells (rcells s g a) 30)).alloc (.cells #[.int .i64 k, .int .i64 c, .int .u64 x] 37)).alloc (.cells #[.int .i64 0, .slice none 0 0, .slice none 0 0, .int .i64 0, .int .i64 0, .bool false, .slice none 0 0, .slice none 0 0] 30) = Wz at *
   obtain ⟨q0, q1, q2, q3, q4, q5, q6, q7, qf⟩ := PZ.out.cells8

   refine bodyPost_ret (v := .tuple #[rcv zSt zGr zRa, .int .u64 0, .bool false, .int .i64 242]) (by simp [results, Tryz.results11, go_sem, q0, q1, q2, q3, q4, q5, q6, q7, zSt, zGr, zRa]) rfl ⟨zRa, [], rfl, rfl, rfl, RcP.zero _ _, HB.out⟩
  by_cases c2 : 5 < k
  ·skip
   obtain rfl : cd = 242 := by rw [hcd]; first | exact if_pos (by omega) | exact if_neg (by omega)
   clear hcd hbad
   have c1' : ¬ k < 1 := c1
   obtain ⟨y00, y01, y02, y03, y04, y05, y06, y07, yf0⟩ := P.out.cells8
   obtain ⟨y10, y11, y12, yf1⟩ := PO.out.cells3
   go_upto_region 2 with fail
   clear y00 y01 y02 y03 y04 y05 y06 y07 yf0 y10 y11 y12 yf1
   obtain ⟨y00, y01, y02, y03, y04, y05, y06, y07, yf0⟩ := PZ.out.cells8
   go_wp2_with fail
   clear y00 y01 y02 y03 y04 y05 y06 y07 yf0
   generalize ((w.alloc (.cells (rcells s g a) 30)).alloc (.cells #[.int .i64 k, .int .i64 c, .int .u64 x] 37)).alloc (.cells #[.int .i64 0, .slice none 0 0, .slice none 0 0, .int .i64 0, .int .i64 0, .bool false, .slice none 0 0, .slice none 0 0] 30) = Wz at *
   obtain ⟨q0, q1, q2, q3, q4, q5, q6, q7, qf⟩ := PZ.out.cells8

   refine bodyPost_ret (v := .tuple #[rcv zSt zGr zRa, .int .u64 0, .bool false, .int .i64 242]) (by simp [results, Tryz.results11, go_sem, q0, q1, q2, q3, q4, q5, q6, q7, zSt, zGr, zRa]) rfl ⟨zRa, [], rfl, rfl, rfl, RcP.zero _ _, HB.out⟩
  by_cases c3 : c < 0
  ·skip
   obtain rfl : cd = 2 := by rw [hcd]; first | exact if_pos (by omega) | exact if_neg (by omega)
   clear hcd hbad
   have c1' : ¬ k < 1 := c1
   obtain ⟨y00, y01, y02, y03, y04, y05, y06, y07, yf0⟩ := P.out.cells8
   obtain ⟨y10, y11, y12, yf1⟩ := PO.out.cells3
   go_upto_region 4 with fail
   clear y00 y01 y02 y03 y04 y05 y06 y07 yf0 y10 y11 y12 yf1
   obtain ⟨y00, y01, y02, y03, y04, y05, y06, y07, yf0⟩ := PZ.out.cells8
   go_wp2_with fail
   clear y00 y01 y02 y03 y04 y05 y06 y07 yf0
   generalize ((w.alloc (.cells (rcells s g a) 30)).alloc (.cells #[.int .i64 k, .int .i64 c, .int .u64 x] 37)).alloc (.cells #[.int .i64 0, .slice none 0 0, .slice none 0 0, .int .i64 0, .int .i64 0, .bool false, .slice none 0 0, .slice none 0 0] 30) = Wz at *
   obtain ⟨q0, q1, q2, q3, q4, q5, q6, q7, qf⟩ := PZ.out.cells8

   refine bodyPost_ret (v := .tuple #[rcv zSt zGr zRa, .int .u64 0, .bool false, .int .i64 2]) (by simp [results, Tryz.results11, go_sem, q0, q1, q2, q3, q4, q5, q6, q7, zSt, zGr, zRa]) rfl ⟨zRa, [], rfl, rfl, rfl, RcP.zero _ _, HB.out⟩
  have c4 : (a.nq : Int) ≤ c := by omega
  obtain rfl : cd = 2 := by rw [hcd]; first | exact if_pos (by omega) | exact if_neg (by omega)
  clear hcd hbad
  have c1' : ¬ k < 1 := c1
  obtain ⟨y00, y01, y02, y03, y04, y05, y06, y07, yf0⟩ := P.out.cells8
  obtain ⟨y10, y11, y12, yf1⟩ := PO.out.cells3
  go_upto_region 4 with fail
  clear y00 y01 y02 y03 y04 y05 y06 y07 yf0 y10 y11 y12 yf1
  obtain ⟨y00, y01, y02, y03, y04, y05, y06, y07, yf0⟩ := PZ.out.cells8
  go_wp2_with fail
  clear y00 y01 y02 y03 y04 y05 y06 y07 yf0
  generalize ((w.alloc (.cells (rcells s g a) 30)).alloc (.cells #[.int .i64 k, .int .i64 c, .int .u64 x] 37)).alloc (.cells #[.int .i64 0, .slice none 0 0, .slice none 0 0, .int .i64 0, .int .i64 0, .bool false, .slice none 0 0, .slice none 0 0] 30) = Wz at *
  obtain ⟨q0, q1, q2, q3, q4, q5, q6, q7, qf⟩ := PZ.out.cells8

  refine bodyPost_ret (v := .tuple #[rcv zSt zGr zRa, .int .u64 0, .bool false, .int .i64 2]) (by simp [results, Tryz.results11, go_sem, q0, q1, q2, q3, q4, q5, q6, q7, zSt, zGr, zRa]) rfl ⟨zRa, [], rfl, rfl, rfl, RcP.zero _ _, HB.out⟩
set_option maxRecDepth 100000 in
set_option maxHeartbeats 8000000 in
theorem rstep14_call (p : Nat → Prop) (s : St) (g : Gr) (es : List Qe) (a : Ra) (cp : Nat) (what : Int) (w : World) (h : RcP p w s g es a) (hp : ∀ i, p i → i < w.heap.size) (hcp : cp < es.length) (hnq : a.nq = es.length) (hg : RcGood s g (ql es)) :
    Calls Tryz.prog 11 #[rcv s g a, .agg #[.int .i64 3, .int .i64 cp, .int .u64 what]] w (RS14 p w (opsA s g (ql es) [] [(3, (cp : Int), what)]).2.1 (opsA s g (ql es) [] [(3, (cp : Int), what)]).2.2.1 (opsA s g (ql es) [] [(3, (cp : Int), what)]).2.2.2.1 0 false (opsA s g (ql es) [] [(3, (cp : Int), what)]).1) := by
  have HB := hid (Below.refl w.heap.size w); have HR := hid h.fresh; have HP := hid hp; have HC := hid hcp; have HNQ := hid hnq; have HG := hid hg
  clear h hp hcp hnq hg
  obtain ⟨r, hr⟩ : ∃ r, r = opsA s g (ql es) [] [(3, (cp : Int), what)] := ⟨_, rfl⟩
  have HRE := hid hr
  rw [← hr]
  clear hr
  obtain ⟨r1, s2, g2, q2, ran2⟩ := r
  dsimp only
  have bx := below_box w (.cells (rcells s g a) 30)
  replace HR := hid (HR.out.step bx); replace HB := hid (below_then HB.out bx)
  clear bx
  have P := hid (Blk.new w 30 (rcells s g a))
  have bx := below_box (w.alloc (.cells (rcells s g a) 30)) (.cells #[.int .i64 3, .int .i64 cp, .int .u64 what] 37)
  replace HR := hid (HR.out.step bx); replace P := hid (P.out.step bx); replace HB := hid (below_then HB.out bx)
  clear bx
  have PO := hid (Blk.new2 w 37 #[.int .i64 3, .int .i64 cp, .int .u64 what] (.cells (rcells s g a) 30))
  have bx := below_box ((w.alloc (.cells (rcells s g a) 30)).alloc (.cells #[.int .i64 3, .int .i64 cp, .int .u64 what] 37)) (.cells #[.int .i64 0, .slice none 0 0, .slice none 0 0, .int .i64 0, .int .i64 0, .bool false, .slice none 0 0, .slice none 0 0] 30)
  replace HR := hid (HR.out.step bx); replace P := hid (P.out.step bx); replace PO := hid (PO.out.step bx); replace HB := hid (below_then HB.out bx)
  clear bx
  have PZ := hid (Blk.new3 w 30 #[.int .i64 0, .slice none 0 0, .slice none 0 0, .int .i64 0, .int .i64 0, .bool false, .slice none 0 0, .slice none 0 0] (.cells (rcells s g a) 30) (.cells #[.int .i64 3, .int .i64 cp, .int .u64 what] 37))
  go_enter Tryz.func11, Tryz.ntmps11
  have hci2 : ¬ ((a.nq : Int) ≤ (cp : Int)) := by have := HC.out; have := HNQ.out; omega
  have hci3 : ¬ ((cp : Int) < 0) := by omega
  obtain ⟨y00, y01, y02, y03, y04, y05, y06, y07, yf0⟩ := P.out.cells8
  obtain ⟨y10, y11, y12, yf1⟩ := PO.out.cells3
  go_wp2_with fail
  clear y00 y01 y02 y03 y04 y05 y06 y07 yf0 y10 y11 y12 yf1 hci2 hci3
  have hz0 := hid (show (((w.alloc (.cells (rcells s g a) 30)).alloc (.cells #[.int .i64 3, .int .i64 cp, .int .u64 what] 37)).alloc (.cells #[.int .i64 0, .slice none 0 0, .slice none 0 0, .int .i64 0, .int .i64 0, .bool false, .slice none 0 0, .slice none 0 0] 30)).heap.size = w.heap.size + 3 by simp)
  generalize ((w.alloc (.cells (rcells s g a) 30)).alloc (.cells #[.int .i64 3, .int .i64 cp, .int .u64 what] 37)).alloc (.cells #[.int .i64 0, .slice none 0 0, .slice none 0 0, .int .i64 0, .int .i64 0, .bool false, .slice none 0 0, .slice none 0 0] 30) = W0 at *
  obtain ⟨pp, hpp⟩ : ∃ pp : Nat → Prop, pp = fun i => p i ∨ (w.heap.size ≤ i ∧ i < w.heap.size + 3) := ⟨_, rfl⟩
  have HP2 := hid (show pp w.heap.size ∧ pp (w.heap.size + 1 + 1) by rw [hpp]; exact ⟨.inr (by omega), .inr (by omega)⟩)
  have HPI := hid (show ∀ i, p i → pp i by rw [hpp]; exact fun i hi => .inl hi)
  have HLT := hid (show ∀ i, pp i → i < W0.heap.size by rw [hpp]; exact fun i hi => by have := hz0.out; rcases hi with hi | hi; have := HP.out i hi; omega; omega)
  have HS0 := hid (show w.heap.size + 3 ≤ W0.heap.size by have := hz0.out; omega)
  replace HR := hid (HR.out.mono (q := pp) (fun i hi => by rw [hpp] at hi; exact hi.elim .inl (fun h => .inr h.1)))
  clear hpp hz0
  refine (show Calls Tryz.prog 36 #[rcv s g a, .int .i64 cp, .int .u64 what] W0 (C14 pp W0 (r1, s2, g2, q2, ran2)) from HRE.out ▸ rcall14_any pp s g es a cp what W0 HR.out HLT.out HC.out HNQ.out HG.out).mono ?_
  rintro e w1 ⟨a2, es2, rfl, hqs, hnq, hR, hb⟩
  dsimp only at hqs hR ⊢
  have HRR := hid hR; have HQS := hid hqs; have HN8 := hid hnq
  replace P := hid (P.out.step hb); replace PO := hid (PO.out.step hb); replace PZ := hid (PZ.out.step hb); replace HB := hid (below_then HB.out hb)
  clear hqs hnq hR hb HR HRE
  have bx := below_box w1 (.cells (rcells s2 g2 a2) 30)
  replace P := hid (P.out.step bx); replace PO := hid (PO.out.step bx); replace PZ := hid (PZ.out.step bx); replace HRR := hid (HRR.out.step bx); replace HB := hid (below_then HB.out bx)
  clear bx
  have P8 := hid (Blk.new w1 30 (rcells s2 g2 a2))
  obtain ⟨y00, y01, y02, y03, y04, y05, y06, y07, yf0⟩ := P8.out.cells8
  obtain ⟨y10, y11, y12, y13, y14, y15, y16, y17, yf1⟩ := PZ.out.cells8
  go_wp2_with fail
  clear y00 y01 y02 y03 y04 y05 y06 y07 yf0 y10 y11 y12 y13 y14 y15 y16 y17 yf1
  generalize w1.alloc (.cells (rcells s2 g2 a2) 30) = Wz at *
  have hbk0 : Blk (Wz.setCell ⟨w.heap.size + 1 + 1, 0, none⟩ (.int .i64 s2.1)) (w.heap.size + 1 + 1) 30 #[.int .i64 s2.1, .slice none 0 0, .slice none 0 0, .int .i64 0, .int .i64 0, .bool false, .slice none 0 0, .slice none 0 0] := PZ.out.setCell 0 (.int .i64 s2.1)
  have hbk1 : Blk ((Wz.setCell ⟨w.heap.size + 1 + 1, 0, none⟩ (.int .i64 s2.1)).setCell ⟨w.heap.size + 1 + 1, 1, none⟩ (.slice a2.A a2.n a2.k)) (w.heap.size + 1 + 1) 30 #[.int .i64 s2.1, .slice a2.A a2.n a2.k, .slice none 0 0, .int .i64 0, .int .i64 0, .bool false, .slice none 0 0, .slice none 0 0] := hbk0.setCell 1 (.slice a2.A a2.n a2.k)
  have hbk2 : Blk (((Wz.setCell ⟨w.heap.size + 1 + 1, 0, none⟩ (.int .i64 s2.1)).setCell ⟨w.heap.size + 1 + 1, 1, none⟩ (.slice a2.A a2.n a2.k)).setCell ⟨w.heap.size + 1 + 1, 2, none⟩ (.slice a2.B a2.m a2.d)) (w.heap.size + 1 + 1) 30 #[.int .i64 s2.1, .slice a2.A a2.n a2.k, .slice a2.B a2.m a2.d, .int .i64 0, .int .i64 0, .bool false, .slice none 0 0, .slice none 0 0] := hbk1.setCell 2 (.slice a2.B a2.m a2.d)
  have hbk3 : Blk ((((Wz.setCell ⟨w.heap.size + 1 + 1, 0, none⟩ (.int .i64 s2.1)).setCell ⟨w.heap.size + 1 + 1, 1, none⟩ (.slice a2.A a2.n a2.k)).setCell ⟨w.heap.size + 1 + 1, 2, none⟩ (.slice a2.B a2.m a2.d)).setCell ⟨w.heap.size + 1 + 1, 3, none⟩ (.int .i64 g2.dn)) (w.heap.size + 1 + 1) 30 #[.int .i64 s2.1, .slice a2.A a2.n a2.k, .slice a2.B a2.m a2.d, .int .i64 g2.dn, .int .i64 0, .bool false, .slice none 0 0, .slice none 0 0] := hbk2.setCell 3 (.int .i64 g2.dn)
  have hbk4 : Blk (((((Wz.setCell ⟨w.heap.size + 1 + 1, 0, none⟩ (.int .i64 s2.1)).setCell ⟨w.heap.size + 1 + 1, 1, none⟩ (.slice a2.A a2.n a2.k)).setCell ⟨w.heap.size + 1 + 1, 2, none⟩ (.slice a2.B a2.m a2.d)).setCell ⟨w.heap.size + 1 + 1, 3, none⟩ (.int .i64 g2.dn)).setCell ⟨w.heap.size + 1 + 1, 4, none⟩ (.int .i64 g2.ak)) (w.heap.size + 1 + 1) 30 #[.int .i64 s2.1, .slice a2.A a2.n a2.k, .slice a2.B a2.m a2.d, .int .i64 g2.dn, .int .i64 g2.ak, .bool false, .slice none 0 0, .slice none 0 0] := hbk3.setCell 4 (.int .i64 g2.ak)
  have hbk5 : Blk ((((((Wz.setCell ⟨w.heap.size + 1 + 1, 0, none⟩ (.int .i64 s2.1)).setCell ⟨w.heap.size + 1 + 1, 1, none⟩ (.slice a2.A a2.n a2.k)).setCell ⟨w.heap.size + 1 + 1, 2, none⟩ (.slice a2.B a2.m a2.d)).setCell ⟨w.heap.size + 1 + 1, 3, none⟩ (.int .i64 g2.dn)).setCell ⟨w.heap.size + 1 + 1, 4, none⟩ (.int .i64 g2.ak)).setCell ⟨w.heap.size + 1 + 1, 5, none⟩ (.bool g2.on)) (w.heap.size + 1 + 1) 30 #[.int .i64 s2.1, .slice a2.A a2.n a2.k, .slice a2.B a2.m a2.d, .int .i64 g2.dn, .int .i64 g2.ak, .bool g2.on, .slice none 0 0, .slice none 0 0] := hbk4.setCell 5 (.bool g2.on)
  have hbk6 : Blk (((((((Wz.setCell ⟨w.heap.size + 1 + 1, 0, none⟩ (.int .i64 s2.1)).setCell ⟨w.heap.size + 1 + 1, 1, none⟩ (.slice a2.A a2.n a2.k)).setCell ⟨w.heap.size + 1 + 1, 2, none⟩ (.slice a2.B a2.m a2.d)).setCell ⟨w.heap.size + 1 + 1, 3, none⟩ (.int .i64 g2.dn)).setCell ⟨w.heap.size + 1 + 1, 4, none⟩ (.int .i64 g2.ak)).setCell ⟨w.heap.size + 1 + 1, 5, none⟩ (.bool g2.on)).setCell ⟨w.heap.size + 1 + 1, 6, none⟩ (.slice a2.D g2.nd.length a2.kd)) (w.heap.size + 1 + 1) 30 #[.int .i64 s2.1, .slice a2.A a2.n a2.k, .slice a2.B a2.m a2.d, .int .i64 g2.dn, .int .i64 g2.ak, .bool g2.on, .slice a2.D g2.nd.length a2.kd, .slice none 0 0] := hbk5.setCell 6 (.slice a2.D g2.nd.length a2.kd)
  have hbk7 : Blk ((((((((Wz.setCell ⟨w.heap.size + 1 + 1, 0, none⟩ (.int .i64 s2.1)).setCell ⟨w.heap.size + 1 + 1, 1, none⟩ (.slice a2.A a2.n a2.k)).setCell ⟨w.heap.size + 1 + 1, 2, none⟩ (.slice a2.B a2.m a2.d)).setCell ⟨w.heap.size + 1 + 1, 3, none⟩ (.int .i64 g2.dn)).setCell ⟨w.heap.size + 1 + 1, 4, none⟩ (.int .i64 g2.ak)).setCell ⟨w.heap.size + 1 + 1, 5, none⟩ (.bool g2.on)).setCell ⟨w.heap.size + 1 + 1, 6, none⟩ (.slice a2.D g2.nd.length a2.kd)).setCell ⟨w.heap.size + 1 + 1, 7, none⟩ (.slice a2.Q a2.nq a2.kq)) (w.heap.size + 1 + 1) 30 #[.int .i64 s2.1, .slice a2.A a2.n a2.k, .slice a2.B a2.m a2.d, .int .i64 g2.dn, .int .i64 g2.ak, .bool g2.on, .slice a2.D g2.nd.length a2.kd, .slice a2.Q a2.nq a2.kq] := hbk6.setCell 7 (.slice a2.Q a2.nq a2.kq)
  have hgr : Wz.grownBy ((((((((Wz.setCell ⟨w.heap.size + 1 + 1, 0, none⟩ (.int .i64 s2.1)).setCell ⟨w.heap.size + 1 + 1, 1, none⟩ (.slice a2.A a2.n a2.k)).setCell ⟨w.heap.size + 1 + 1, 2, none⟩ (.slice a2.B a2.m a2.d)).setCell ⟨w.heap.size + 1 + 1, 3, none⟩ (.int .i64 g2.dn)).setCell ⟨w.heap.size + 1 + 1, 4, none⟩ (.int .i64 g2.ak)).setCell ⟨w.heap.size + 1 + 1, 5, none⟩ (.bool g2.on)).setCell ⟨w.heap.size + 1 + 1, 6, none⟩ (.slice a2.D g2.nd.length a2.kd)).setCell ⟨w.heap.size + 1 + 1, 7, none⟩ (.slice a2.Q a2.nq a2.kq)) (some (w.heap.size + 1 + 1)) := (grown_set (grown_set (grown_set (grown_set (grown_set (grown_set (grown_set (grown_set (World.grownBy.refl Wz (some (w.heap.size + 1 + 1))) 0 (.int .i64 s2.1)) 1 (.slice a2.A a2.n a2.k)) 2 (.slice a2.B a2.m a2.d)) 3 (.int .i64 g2.dn)) 4 (.int .i64 g2.ak)) 5 (.bool g2.on)) 6 (.slice a2.D g2.nd.length a2.kd)) 7 (.slice a2.Q a2.nq a2.kq))
  replace PZ := hid hbk7
  clear hbk0 hbk1 hbk2 hbk3 hbk4 hbk5 hbk6 hbk7
  generalize (((((((Wz.setCell ⟨w.heap.size + 1 + 1, 0, none⟩ (.int .i64 s2.1)).setCell ⟨w.heap.size + 1 + 1, 1, none⟩ (.slice a2.A a2.n a2.k)).setCell ⟨w.heap.size + 1 + 1, 2, none⟩ (.slice a2.B a2.m a2.d)).setCell ⟨w.heap.size + 1 + 1, 3, none⟩ (.int .i64 g2.dn)).setCell ⟨w.heap.size + 1 + 1, 4, none⟩ (.int .i64 g2.ak)).setCell ⟨w.heap.size + 1 + 1, 5, none⟩ (.bool g2.on)).setCell ⟨w.heap.size + 1 + 1, 6, none⟩ (.slice a2.D g2.nd.length a2.kd)).setCell ⟨w.heap.size + 1 + 1, 7, none⟩ (.slice a2.Q a2.nq a2.kq) = Wy at *
  replace HRR := hid (HRR.out.turn hgr HP2.out.2); replace HB := hid (HB.out.grown hgr HB.out.size (fun r e => by cases e; omega))
  clear hgr
  obtain ⟨q0, q1, q2, q3, q4, q5, q6, q7, qf⟩ := PZ.out.cells8
  refine bodyPost_ret (v := .tuple #[rcv s2 g2 a2, .int .u64 0, .bool false, .int .i64 r1]) (by simp [results, Tryz.results11, go_sem, q0, q1, q2, q3, q4, q5, q6, q7]) rfl ⟨a2, es2, rfl, HQS.out, HN8.out, HRR.out.mono HPI.out, HB.out⟩
set_option maxRecDepth 100000 in
set_option maxHeartbeats 8000000 in
theorem rstep14_pick (p : Nat → Prop) (s : St) (g : Gr) (es : List Qe) (a : Ra) (cp : Nat) (what : Int) (w : World) (h : RcP p w s g es a) (hp : ∀ i, p i → i < w.heap.size) (hcp : cp < es.length) (hnq : a.nq = es.length) (hg : RcGood s g (ql es)) :
    Calls Tryz.prog 11 #[rcv s g a, .agg #[.int .i64 4, .int .i64 cp, .int .u64 what]] w (RS14 p w s (gPick g cp (decide (s.2.1[cp]?.getD 0 = 0))) ((ql es).map fun x => (x.1, (gPick g cp (decide (s.2.1[cp]?.getD 0 = 0))).dn)) 0 false 0) := by
  have HB := hid (Below.refl w.heap.size w); have HR := hid h.fresh; have HP := hid hp; have HC := hid hcp; have HNQ := hid hnq; have HG := hid hg
  clear h hp hcp hnq hg
  have HL := hid (show cp < g.nd.length ∧ cp < s.2.1.length by have h1 := HG.out.2.1; have h2 := HG.out.1.2.2; have h3 := HC.out; rw [ql_len] at h1; omega)
  obtain ⟨g2, hg2⟩ : ∃ g2, g2 = gPick g cp (decide (s.2.1[cp]?.getD 0 = 0)) := ⟨_, rfl⟩
  have HGE := hid hg2
  rw [← hg2]
  clear hg2
  have bx := below_box w (.cells (rcells s g a) 30)
  replace HR := hid (HR.out.step bx); replace HB := hid (below_then HB.out bx)
  clear bx
  have P := hid (Blk.new w 30 (rcells s g a))
  have bx := below_box (w.alloc (.cells (rcells s g a) 30)) (.cells #[.int .i64 4, .int .i64 cp, .int .u64 what] 37)
  replace HR := hid (HR.out.step bx); replace P := hid (P.out.step bx); replace HB := hid (below_then HB.out bx)
  clear bx
  have PO := hid (Blk.new2 w 37 #[.int .i64 4, .int .i64 cp, .int .u64 what] (.cells (rcells s g a) 30))
  have bx := below_box ((w.alloc (.cells (rcells s g a) 30)).alloc (.cells #[.int .i64 4, .int .i64 cp, .int .u64 what] 37)) (.cells #[.int .i64 0, .slice none 0 0, .slice none 0 0, .int .i64 0, .int .i64 0, .bool false, .slice none 0 0, .slice none 0 0] 30)
  replace HR := hid (HR.out.step bx); replace P := hid (P.out.step bx); replace PO := hid (PO.out.step bx); replace HB := hid (below_then HB.out bx)
  clear bx
  have PZ := hid (Blk.new3 w 30 #[.int .i64 0, .slice none 0 0, .slice none 0 0, .int .i64 0, .int .i64 0, .bool false, .slice none 0 0, .slice none 0 0] (.cells (rcells s g a) 30) (.cells #[.int .i64 4, .int .i64 cp, .int .u64 what] 37))
  go_enter Tryz.func11, Tryz.ntmps11
  have hci2 : ¬ ((a.nq : Int) ≤ (cp : Int)) := by have := HC.out; have := HNQ.out; omega
  have hci3 : ¬ ((cp : Int) < 0) := by omega
  obtain ⟨y00, y01, y02, y03, y04, y05, y06, y07, yf0⟩ := P.out.cells8
  obtain ⟨y10, y11, y12, yf1⟩ := PO.out.cells3
  go_wp2_with fail
  clear y00 y01 y02 y03 y04 y05 y06 y07 yf0 y10 y11 y12 yf1 hci2 hci3
  have hz0 := hid (show (((w.alloc (.cells (rcells s g a) 30)).alloc (.cells #[.int .i64 4, .int .i64 cp, .int .u64 what] 37)).alloc (.cells #[.int .i64 0, .slice none 0 0, .slice none 0 0, .int .i64 0, .int .i64 0, .bool false, .slice none 0 0, .slice none 0 0] 30)).heap.size = w.heap.size + 3 by simp)
  generalize ((w.alloc (.cells (rcells s g a) 30)).alloc (.cells #[.int .i64 4, .int .i64 cp, .int .u64 what] 37)).alloc (.cells #[.int .i64 0, .slice none 0 0, .slice none 0 0, .int .i64 0, .int .i64 0, .bool false, .slice none 0 0, .slice none 0 0] 30) = W0 at *
  obtain ⟨pp, hpp⟩ : ∃ pp : Nat → Prop, pp = fun i => p i ∨ (w.heap.size ≤ i ∧ i < w.heap.size + 3) := ⟨_, rfl⟩
  have HP2 := hid (show pp w.heap.size ∧ pp (w.heap.size + 1 + 1) by rw [hpp]; exact ⟨.inr (by omega), .inr (by omega)⟩)
  have HPI := hid (show ∀ i, p i → pp i by rw [hpp]; exact fun i hi => .inl hi)
  have HLT := hid (show ∀ i, pp i → i < W0.heap.size by rw [hpp]; exact fun i hi => by have := hz0.out; rcases hi with hi | hi; have := HP.out i hi; omega; omega)
  have HS0 := hid (show w.heap.size + 3 ≤ W0.heap.size by have := hz0.out; omega)
  replace HR := hid (HR.out.mono (q := pp) (fun i hi => by rw [hpp] at hi; exact hi.elim .inl (fun h => .inr h.1)))
  clear hpp hz0
  refine (show Calls Tryz.prog 37 #[rcv s g a, .int .i64 cp] W0 (R14 pp W0 s g2 ((ql es).map fun x => (x.1, g2.dn))) from HGE.out ▸ rpick14_any pp s g es a cp W0 HR.out HLT.out HL.out.1 HL.out.2 HNQ.out ⟨HG.out.1.2.1.2.2.1, by have := HG.out.1.2.1.small; omega⟩ HG.out.1.2.1.2.2.2.2.2.1).mono ?_
  rintro e w1 ⟨a2, es2, rfl, hqs, hnq, hR, hb⟩
  have HRR := hid hR; have HQS := hid hqs; have HN8 := hid hnq
  replace P := hid (P.out.step hb); replace PO := hid (PO.out.step hb); replace PZ := hid (PZ.out.step hb); replace HB := hid (below_then HB.out hb)
  clear hqs hnq hR hb HR HGE
  obtain ⟨y00, y01, y02, y03, y04, y05, y06, y07, yf0⟩ := PZ.out.cells8
  go_wp2_with fail
  clear y00 y01 y02 y03 y04 y05 y06 y07 yf0
  have hbk0 : Blk (w1.setCell ⟨w.heap.size + 1 + 1, 0, none⟩ (.int .i64 s.1)) (w.heap.size + 1 + 1) 30 #[.int .i64 s.1, .slice none 0 0, .slice none 0 0, .int .i64 0, .int .i64 0, .bool false, .slice none 0 0, .slice none 0 0] := PZ.out.setCell 0 (.int .i64 s.1)
  have hbk1 : Blk ((w1.setCell ⟨w.heap.size + 1 + 1, 0, none⟩ (.int .i64 s.1)).setCell ⟨w.heap.size + 1 + 1, 1, none⟩ (.slice a2.A a2.n a2.k)) (w.heap.size + 1 + 1) 30 #[.int .i64 s.1, .slice a2.A a2.n a2.k, .slice none 0 0, .int .i64 0, .int .i64 0, .bool false, .slice none 0 0, .slice none 0 0] := hbk0.setCell 1 (.slice a2.A a2.n a2.k)
  have hbk2 : Blk (((w1.setCell ⟨w.heap.size + 1 + 1, 0, none⟩ (.int .i64 s.1)).setCell ⟨w.heap.size + 1 + 1, 1, none⟩ (.slice a2.A a2.n a2.k)).setCell ⟨w.heap.size + 1 + 1, 2, none⟩ (.slice a2.B a2.m a2.d)) (w.heap.size + 1 + 1) 30 #[.int .i64 s.1, .slice a2.A a2.n a2.k, .slice a2.B a2.m a2.d, .int .i64 0, .int .i64 0, .bool false, .slice none 0 0, .slice none 0 0] := hbk1.setCell 2 (.slice a2.B a2.m a2.d)
  have hbk3 : Blk ((((w1.setCell ⟨w.heap.size + 1 + 1, 0, none⟩ (.int .i64 s.1)).setCell ⟨w.heap.size + 1 + 1, 1, none⟩ (.slice a2.A a2.n a2.k)).setCell ⟨w.heap.size + 1 + 1, 2, none⟩ (.slice a2.B a2.m a2.d)).setCell ⟨w.heap.size + 1 + 1, 3, none⟩ (.int .i64 g2.dn)) (w.heap.size + 1 + 1) 30 #[.int .i64 s.1, .slice a2.A a2.n a2.k, .slice a2.B a2.m a2.d, .int .i64 g2.dn, .int .i64 0, .bool false, .slice none 0 0, .slice none 0 0] := hbk2.setCell 3 (.int .i64 g2.dn)
  have hbk4 : Blk (((((w1.setCell ⟨w.heap.size + 1 + 1, 0, none⟩ (.int .i64 s.1)).setCell ⟨w.heap.size + 1 + 1, 1, none⟩ (.slice a2.A a2.n a2.k)).setCell ⟨w.heap.size + 1 + 1, 2, none⟩ (.slice a2.B a2.m a2.d)).setCell ⟨w.heap.size + 1 + 1, 3, none⟩ (.int .i64 g2.dn)).setCell ⟨w.heap.size + 1 + 1, 4, none⟩ (.int .i64 g2.ak)) (w.heap.size + 1 + 1) 30 #[.int .i64 s.1, .slice a2.A a2.n a2.k, .slice a2.B a2.m a2.d, .int .i64 g2.dn, .int .i64 g2.ak, .bool false, .slice none 0 0, .slice none 0 0] := hbk3.setCell 4 (.int .i64 g2.ak)
  have hbk5 : Blk ((((((w1.setCell ⟨w.heap.size + 1 + 1, 0, none⟩ (.int .i64 s.1)).setCell ⟨w.heap.size + 1 + 1, 1, none⟩ (.slice a2.A a2.n a2.k)).setCell ⟨w.heap.size + 1 + 1, 2, none⟩ (.slice a2.B a2.m a2.d)).setCell ⟨w.heap.size + 1 + 1, 3, none⟩ (.int .i64 g2.dn)).setCell ⟨w.heap.size + 1 + 1, 4, none⟩ (.int .i64 g2.ak)).setCell ⟨w.heap.size + 1 + 1, 5, none⟩ (.bool g2.on)) (w.heap.size + 1 + 1) 30 #[.int .i64 s.1, .slice a2.A a2.n a2.k, .slice a2.B a2.m a2.d, .int .i64 g2.dn, .int .i64 g2.ak, .bool g2.on, .slice none 0 0, .slice none 0 0] := hbk4.setCell 5 (.bool g2.on)
  have hbk6 : Blk (((((((w1.setCell ⟨w.heap.size + 1 + 1, 0, none⟩ (.int .i64 s.1)).setCell ⟨w.heap.size + 1 + 1, 1, none⟩ (.slice a2.A a2.n a2.k)).setCell ⟨w.heap.size + 1 + 1, 2, none⟩ (.slice a2.B a2.m a2.d)).setCell ⟨w.heap.size + 1 + 1, 3, none⟩ (.int .i64 g2.dn)).setCell ⟨w.heap.size + 1 + 1, 4, none⟩ (.int .i64 g2.ak)).setCell ⟨w.heap.size + 1 + 1, 5, none⟩ (.bool g2.on)).setCell ⟨w.heap.size + 1 + 1, 6, none⟩ (.slice a2.D g2.nd.length a2.kd)) (w.heap.size + 1 + 1) 30 #[.int .i64 s.1, .slice a2.A a2.n a2.k, .slice a2.B a2.m a2.d, .int .i64 g2.dn, .int .i64 g2.ak, .bool g2.on, .slice a2.D g2.nd.length a2.kd, .slice none 0 0] := hbk5.setCell 6 (.slice a2.D g2.nd.length a2.kd)
  have hbk7 : Blk ((((((((w1.setCell ⟨w.heap.size + 1 + 1, 0, none⟩ (.int .i64 s.1)).setCell ⟨w.heap.size + 1 + 1, 1, none⟩ (.slice a2.A a2.n a2.k)).setCell ⟨w.heap.size + 1 + 1, 2, none⟩ (.slice a2.B a2.m a2.d)).setCell ⟨w.heap.size + 1 + 1, 3, none⟩ (.int .i64 g2.dn)).setCell ⟨w.heap.size + 1 + 1, 4, none⟩ (.int .i64 g2.ak)).setCell ⟨w.heap.size + 1 + 1, 5, none⟩ (.bool g2.on)).setCell ⟨w.heap.size + 1 + 1, 6, none⟩ (.slice a2.D g2.nd.length a2.kd)).setCell ⟨w.heap.size + 1 + 1, 7, none⟩ (.slice a2.Q a2.nq a2.kq)) (w.heap.size + 1 + 1) 30 #[.int .i64 s.1, .slice a2.A a2.n a2.k, .slice a2.B a2.m a2.d, .int .i64 g2.dn, .int .i64 g2.ak, .bool g2.on, .slice a2.D g2.nd.length a2.kd, .slice a2.Q a2.nq a2.kq] := hbk6.setCell 7 (.slice a2.Q a2.nq a2.kq)
  have hgr : w1.grownBy ((((((((w1.setCell ⟨w.heap.size + 1 + 1, 0, none⟩ (.int .i64 s.1)).setCell ⟨w.heap.size + 1 + 1, 1, none⟩ (.slice a2.A a2.n a2.k)).setCell ⟨w.heap.size + 1 + 1, 2, none⟩ (.slice a2.B a2.m a2.d)).setCell ⟨w.heap.size + 1 + 1, 3, none⟩ (.int .i64 g2.dn)).setCell ⟨w.heap.size + 1 + 1, 4, none⟩ (.int .i64 g2.ak)).setCell ⟨w.heap.size + 1 + 1, 5, none⟩ (.bool g2.on)).setCell ⟨w.heap.size + 1 + 1, 6, none⟩ (.slice a2.D g2.nd.length a2.kd)).setCell ⟨w.heap.size + 1 + 1, 7, none⟩ (.slice a2.Q a2.nq a2.kq)) (some (w.heap.size + 1 + 1)) := (grown_set (grown_set (grown_set (grown_set (grown_set (grown_set (grown_set (grown_set (World.grownBy.refl w1 (some (w.heap.size + 1 + 1))) 0 (.int .i64 s.1)) 1 (.slice a2.A a2.n a2.k)) 2 (.slice a2.B a2.m a2.d)) 3 (.int .i64 g2.dn)) 4 (.int .i64 g2.ak)) 5 (.bool g2.on)) 6 (.slice a2.D g2.nd.length a2.kd)) 7 (.slice a2.Q a2.nq a2.kq))
  replace PZ := hid hbk7
  clear hbk0 hbk1 hbk2 hbk3 hbk4 hbk5 hbk6 hbk7
  generalize (((((((w1.setCell ⟨w.heap.size + 1 + 1, 0, none⟩ (.int .i64 s.1)).setCell ⟨w.heap.size + 1 + 1, 1, none⟩ (.slice a2.A a2.n a2.k)).setCell ⟨w.heap.size + 1 + 1, 2, none⟩ (.slice a2.B a2.m a2.d)).setCell ⟨w.heap.size + 1 + 1, 3, none⟩ (.int .i64 g2.dn)).setCell ⟨w.heap.size + 1 + 1, 4, none⟩ (.int .i64 g2.ak)).setCell ⟨w.heap.size + 1 + 1, 5, none⟩ (.bool g2.on)).setCell ⟨w.heap.size + 1 + 1, 6, none⟩ (.slice a2.D g2.nd.length a2.kd)).setCell ⟨w.heap.size + 1 + 1, 7, none⟩ (.slice a2.Q a2.nq a2.kq) = Wy at *
  replace HRR := hid (HRR.out.turn hgr HP2.out.2); replace HB := hid (HB.out.grown hgr HB.out.size (fun r e => by cases e; omega))
  clear hgr
  obtain ⟨q0, q1, q2, q3, q4, q5, q6, q7, qf⟩ := PZ.out.cells8
  refine bodyPost_ret (v := .tuple #[rcv s g2 a2, .int .u64 0, .bool false, .int .i64 0]) (by simp [results, Tryz.results11, go_sem, q0, q1, q2, q3, q4, q5, q6, q7]) rfl ⟨a2, es2, rfl, HQS.out, HN8.out, HRR.out.mono HPI.out, HB.out⟩
set_option maxRecDepth 100000 in
set_option maxHeartbeats 8000000 in
theorem rstep14_rd1 (p : Nat → Prop) (s : St) (g : Gr) (es : List Qe) (a : Ra) (cp : Nat) (what : Int) (w : World) (h : RcP p w s g es a) (hp : ∀ i, p i → i < w.heap.size) (hcp : cp < es.length) (hnq : a.nq = es.length) (hg : RcGood s g (ql es)) :
    Calls Tryz.prog 11 #[rcv s g a, .agg #[.int .i64 1, .int .i64 cp, .int .u64 what]] w (if stC s ((cp : Int), true) = 0 then RS14 p w (stN s ((cp : Int), true)) g (ql es) 0 false 0 else RS14 p w zSt zGr [] 0 false (stC s ((cp : Int), true))) := by
  have HB := hid (Below.refl w.heap.size w); have HR := hid h.fresh; have HP := hid hp; have HC := hid hcp; have HNQ := hid hnq; have HG := hid hg
  clear h hp hcp hnq hg
  have HL := hid (show cp < s.2.1.length by have h1 := HG.out.2.1; have h2 := HG.out.1.2.2; have h3 := HC.out; rw [ql_len] at h1; omega)
  obtain ⟨Q, hQ⟩ : ∃ Q : Ending → World → Prop, Q = if stC s ((cp : Int), true) = 0 then RS14 p w (stN s ((cp : Int), true)) g (ql es) 0 false 0 else RS14 p w zSt zGr [] 0 false (stC s ((cp : Int), true)) := ⟨_, rfl⟩
  have HQ := hid hQ
  rw [← hQ]
  clear hQ
  have bx := below_box w (.cells (rcells s g a) 30)
  replace HR := hid (HR.out.step bx); replace HB := hid (below_then HB.out bx)
  clear bx
  have P := hid (Blk.new w 30 (rcells s g a))
  have bx := below_box (w.alloc (.cells (rcells s g a) 30)) (.cells #[.int .i64 1, .int .i64 cp, .int .u64 what] 37)
  replace HR := hid (HR.out.step bx); replace P := hid (P.out.step bx); replace HB := hid (below_then HB.out bx)
  clear bx
  have PO := hid (Blk.new2 w 37 #[.int .i64 1, .int .i64 cp, .int .u64 what] (.cells (rcells s g a) 30))
  have bx := below_box ((w.alloc (.cells (rcells s g a) 30)).alloc (.cells #[.int .i64 1, .int .i64 cp, .int .u64 what] 37)) (.cells #[.int .i64 0, .slice none 0 0, .slice none 0 0, .int .i64 0, .int .i64 0, .bool false, .slice none 0 0, .slice none 0 0] 30)
  replace HR := hid (HR.out.step bx); replace P := hid (P.out.step bx); replace PO := hid (PO.out.step bx); replace HB := hid (below_then HB.out bx)
  clear bx
  have PZ := hid (Blk.new3 w 30 #[.int .i64 0, .slice none 0 0, .slice none 0 0, .int .i64 0, .int .i64 0, .bool false, .slice none 0 0, .slice none 0 0] (.cells (rcells s g a) 30) (.cells #[.int .i64 1, .int .i64 cp, .int .u64 what] 37))
  go_enter Tryz.func11, Tryz.ntmps11
  have hci2 : ¬ ((a.nq : Int) ≤ (cp : Int)) := by have := HC.out; have := HNQ.out; omega
  have hci3 : ¬ ((cp : Int) < 0) := by omega
  obtain ⟨y00, y01, y02, y03, y04, y05, y06, y07, yf0⟩ := P.out.cells8
  obtain ⟨y10, y11, y12, yf1⟩ := PO.out.cells3
  go_wp2_with fail
  clear y00 y01 y02 y03 y04 y05 y06 y07 yf0 y10 y11 y12 yf1 hci2 hci3
  have hz0 := hid (show (((w.alloc (.cells (rcells s g a) 30)).alloc (.cells #[.int .i64 1, .int .i64 cp, .int .u64 what] 37)).alloc (.cells #[.int .i64 0, .slice none 0 0, .slice none 0 0, .int .i64 0, .int .i64 0, .bool false, .slice none 0 0, .slice none 0 0] 30)).heap.size = w.heap.size + 3 by simp)
  generalize ((w.alloc (.cells (rcells s g a) 30)).alloc (.cells #[.int .i64 1, .int .i64 cp, .int .u64 what] 37)).alloc (.cells #[.int .i64 0, .slice none 0 0, .slice none 0 0, .int .i64 0, .int .i64 0, .bool false, .slice none 0 0, .slice none 0 0] 30) = W0 at *
  obtain ⟨pp, hpp⟩ : ∃ pp : Nat → Prop, pp = fun i => p i ∨ (w.heap.size ≤ i ∧ i < w.heap.size + 3) := ⟨_, rfl⟩
  have HP2 := hid (show pp w.heap.size ∧ pp (w.heap.size + 1 + 1) by rw [hpp]; exact ⟨.inr (by omega), .inr (by omega)⟩)
  have HPI := hid (show ∀ i, p i → pp i by rw [hpp]; exact fun i hi => .inl hi)
  have HLT := hid (show ∀ i, pp i → i < W0.heap.size by rw [hpp]; exact fun i hi => by have := hz0.out; rcases hi with hi | hi; have := HP.out i hi; omega; omega)
  have HS0 := hid (show w.heap.size + 3 ≤ W0.heap.size by have := hz0.out; omega)
  replace HR := hid (HR.out.mono (q := pp) (fun i hi => by rw [hpp] at hi; exact hi.elim .inl (fun h => .inr h.1)))
  clear hpp hz0
  obtain ⟨r, hr⟩ : ∃ r, r = rstepF s ((cp : Int), true) := ⟨_, rfl⟩
  have HRE := hid hr
  refine (show Calls Tryz.prog 40 #[rv s.1 a.A a.n a.k a.B a.m a.d, rdv (cp : Int) true] W0 (OnePost W0 r) from hr ▸ rstep11_any s a.A a.n a.k a.B a.m a.d cp true W0 HR.out.rcr.rd HG.out.1.1 HL.out).mono ?_
  clear hr
  obtain ⟨r1, s2⟩ := r
  rintro e w1 ⟨A, n, c, B, m, d, rfl, hro, hb⟩
  dsimp only at hro ⊢
  have HRO := hid hro
  have HS1 := hid hb.size
  replace P := hid (P.out.step hb); replace PO := hid (PO.out.step hb); replace PZ := hid (PZ.out.step hb); replace HR := hid (HR.out.step hb); replace HB := hid (below_then HB.out hb)
  clear hro hb
  have bx := below_box w1 (.cells (rcs s2.1 A n c B m d) 24)
  replace P := hid (P.out.step bx); replace PO := hid (PO.out.step bx); replace PZ := hid (PZ.out.step bx); replace HR := hid (HR.out.step bx); replace HRO := hid (HRO.out.step bx); replace HB := hid (below_then HB.out bx)
  clear bx
  have P8 := hid (Blk.new w1 24 (rcs s2.1 A n c B m d))
  rcases Decidable.em (stC s ((cp : Int), true) = 0) with hc | hc
  rotate_left
  ·skip
   have he : (r1, s2) = (stC s ((cp : Int), true), zSt) := by rw [HRE.out]; exact if_neg hc
   cases he
   have HFIN := hid (show Q = RS14 p w zSt zGr [] 0 false (stC s ((cp : Int), true)) by rw [HQ.out, if_neg hc])
   clear HRE HQ
   obtain ⟨cd, hcd⟩ : ∃ cd, cd = stC s ((cp : Int), true) := ⟨_, rfl⟩
   rw [← hcd] at hc HFIN ⊢
   clear hcd
   have hcb : (cd != 0) = true := by simpa using hc
   have hcb2 : (cd == 0) = false := by simpa using hc
   obtain ⟨y00, y01, y02, y03, y04, y05, y06, y07, yf0⟩ := PZ.out.cells8
   go_wp2_with fail
   clear y00 y01 y02 y03 y04 y05 y06 y07 yf0
   generalize w1.alloc (.cells (rcs zSt.1 A n c B m d) 24) = Wz at *
   have hbk0 : Blk (Wz.setCell ⟨w.heap.size + 1 + 1, 0, none⟩ (.int .i64 0)) (w.heap.size + 1 + 1) 30 #[.int .i64 0, .slice none 0 0, .slice none 0 0, .int .i64 0, .int .i64 0, .bool false, .slice none 0 0, .slice none 0 0] := PZ.out.setCell 0 (.int .i64 0)
   have hbk1 : Blk ((Wz.setCell ⟨w.heap.size + 1 + 1, 0, none⟩ (.int .i64 0)).setCell ⟨w.heap.size + 1 + 1, 1, none⟩ (.slice none 0 0)) (w.heap.size + 1 + 1) 30 #[.int .i64 0, .slice none 0 0, .slice none 0 0, .int .i64 0, .int .i64 0, .bool false, .slice none 0 0, .slice none 0 0] := hbk0.setCell 1 (.slice none 0 0)
   have hbk2 : Blk (((Wz.setCell ⟨w.heap.size + 1 + 1, 0, none⟩ (.int .i64 0)).setCell ⟨w.heap.size + 1 + 1, 1, none⟩ (.slice none 0 0)).setCell ⟨w.heap.size + 1 + 1, 2, none⟩ (.slice none 0 0)) (w.heap.size + 1 + 1) 30 #[.int .i64 0, .slice none 0 0, .slice none 0 0, .int .i64 0, .int .i64 0, .bool false, .slice none 0 0, .slice none 0 0] := hbk1.setCell 2 (.slice none 0 0)
   have hbk3 : Blk ((((Wz.setCell ⟨w.heap.size + 1 + 1, 0, none⟩ (.int .i64 0)).setCell ⟨w.heap.size + 1 + 1, 1, none⟩ (.slice none 0 0)).setCell ⟨w.heap.size + 1 + 1, 2, none⟩ (.slice none 0 0)).setCell ⟨w.heap.size + 1 + 1, 3, none⟩ (.int .i64 0)) (w.heap.size + 1 + 1) 30 #[.int .i64 0, .slice none 0 0, .slice none 0 0, .int .i64 0, .int .i64 0, .bool false, .slice none 0 0, .slice none 0 0] := hbk2.setCell 3 (.int .i64 0)
   have hbk4 : Blk (((((Wz.setCell ⟨w.heap.size + 1 + 1, 0, none⟩ (.int .i64 0)).setCell ⟨w.heap.size + 1 + 1, 1, none⟩ (.slice none 0 0)).setCell ⟨w.heap.size + 1 + 1, 2, none⟩ (.slice none 0 0)).setCell ⟨w.heap.size + 1 + 1, 3, none⟩ (.int .i64 0)).setCell ⟨w.heap.size + 1 + 1, 4, none⟩ (.int .i64 0)) (w.heap.size + 1 + 1) 30 #[.int .i64 0, .slice none 0 0, .slice none 0 0, .int .i64 0, .int .i64 0, .bool false, .slice none 0 0, .slice none 0 0] := hbk3.setCell 4 (.int .i64 0)
   have hbk5 : Blk ((((((Wz.setCell ⟨w.heap.size + 1 + 1, 0, none⟩ (.int .i64 0)).setCell ⟨w.heap.size + 1 + 1, 1, none⟩ (.slice none 0 0)).setCell ⟨w.heap.size + 1 + 1, 2, none⟩ (.slice none 0 0)).setCell ⟨w.heap.size + 1 + 1, 3, none⟩ (.int .i64 0)).setCell ⟨w.heap.size + 1 + 1, 4, none⟩ (.int .i64 0)).setCell ⟨w.heap.size + 1 + 1, 5, none⟩ (.bool false)) (w.heap.size + 1 + 1) 30 #[.int .i64 0, .slice none 0 0, .slice none 0 0, .int .i64 0, .int .i64 0, .bool false, .slice none 0 0, .slice none 0 0] := hbk4.setCell 5 (.bool false)
   have hbk6 : Blk (((((((Wz.setCell ⟨w.heap.size + 1 + 1, 0, none⟩ (.int .i64 0)).setCell ⟨w.heap.size + 1 + 1, 1, none⟩ (.slice none 0 0)).setCell ⟨w.heap.size + 1 + 1, 2, none⟩ (.slice none 0 0)).setCell ⟨w.heap.size + 1 + 1, 3, none⟩ (.int .i64 0)).setCell ⟨w.heap.size + 1 + 1, 4, none⟩ (.int .i64 0)).setCell ⟨w.heap.size + 1 + 1, 5, none⟩ (.bool false)).setCell ⟨w.heap.size + 1 + 1, 6, none⟩ (.slice none 0 0)) (w.heap.size + 1 + 1) 30 #[.int .i64 0, .slice none 0 0, .slice none 0 0, .int .i64 0, .int .i64 0, .bool false, .slice none 0 0, .slice none 0 0] := hbk5.setCell 6 (.slice none 0 0)
   have hbk7 : Blk ((((((((Wz.setCell ⟨w.heap.size + 1 + 1, 0, none⟩ (.int .i64 0)).setCell ⟨w.heap.size + 1 + 1, 1, none⟩ (.slice none 0 0)).setCell ⟨w.heap.size + 1 + 1, 2, none⟩ (.slice none 0 0)).setCell ⟨w.heap.size + 1 + 1, 3, none⟩ (.int .i64 0)).setCell ⟨w.heap.size + 1 + 1, 4, none⟩ (.int .i64 0)).setCell ⟨w.heap.size + 1 + 1, 5, none⟩ (.bool false)).setCell ⟨w.heap.size + 1 + 1, 6, none⟩ (.slice none 0 0)).setCell ⟨w.heap.size + 1 + 1, 7, none⟩ (.slice none 0 0)) (w.heap.size + 1 + 1) 30 #[.int .i64 0, .slice none 0 0, .slice none 0 0, .int .i64 0, .int .i64 0, .bool false, .slice none 0 0, .slice none 0 0] := hbk6.setCell 7 (.slice none 0 0)
   have hgr : Wz.grownBy ((((((((Wz.setCell ⟨w.heap.size + 1 + 1, 0, none⟩ (.int .i64 0)).setCell ⟨w.heap.size + 1 + 1, 1, none⟩ (.slice none 0 0)).setCell ⟨w.heap.size + 1 + 1, 2, none⟩ (.slice none 0 0)).setCell ⟨w.heap.size + 1 + 1, 3, none⟩ (.int .i64 0)).setCell ⟨w.heap.size + 1 + 1, 4, none⟩ (.int .i64 0)).setCell ⟨w.heap.size + 1 + 1, 5, none⟩ (.bool false)).setCell ⟨w.heap.size + 1 + 1, 6, none⟩ (.slice none 0 0)).setCell ⟨w.heap.size + 1 + 1, 7, none⟩ (.slice none 0 0)) (some (w.heap.size + 1 + 1)) := (grown_set (grown_set (grown_set (grown_set (grown_set (grown_set (grown_set (grown_set (World.grownBy.refl Wz (some (w.heap.size + 1 + 1))) 0 (.int .i64 0)) 1 (.slice none 0 0)) 2 (.slice none 0 0)) 3 (.int .i64 0)) 4 (.int .i64 0)) 5 (.bool false)) 6 (.slice none 0 0)) 7 (.slice none 0 0))
   replace PZ := hid hbk7
   clear hbk0 hbk1 hbk2 hbk3 hbk4 hbk5 hbk6 hbk7
   generalize (((((((Wz.setCell ⟨w.heap.size + 1 + 1, 0, none⟩ (.int .i64 0)).setCell ⟨w.heap.size + 1 + 1, 1, none⟩ (.slice none 0 0)).setCell ⟨w.heap.size + 1 + 1, 2, none⟩ (.slice none 0 0)).setCell ⟨w.heap.size + 1 + 1, 3, none⟩ (.int .i64 0)).setCell ⟨w.heap.size + 1 + 1, 4, none⟩ (.int .i64 0)).setCell ⟨w.heap.size + 1 + 1, 5, none⟩ (.bool false)).setCell ⟨w.heap.size + 1 + 1, 6, none⟩ (.slice none 0 0)).setCell ⟨w.heap.size + 1 + 1, 7, none⟩ (.slice none 0 0) = Wy at *
   replace HB := hid (HB.out.grown hgr HB.out.size (fun r e => by cases e; omega))
   clear hgr
   obtain ⟨q0, q1, q2, q3, q4, q5, q6, q7, qf⟩ := PZ.out.cells8
   rw [HFIN.out]
   refine bodyPost_ret (v := .tuple #[rcv zSt zGr zRa, .int .u64 0, .bool false, .int .i64 cd]) (by simp [results, Tryz.results11, go_sem, q0, q1, q2, q3, q4, q5, q6, q7, zSt, zGr, zRa]) rfl ⟨zRa, [], rfl, rfl, rfl, RcP.zero _ _, HB.out⟩
  have he : (r1, s2) = (0, stN s ((cp : Int), true)) := by rw [HRE.out]; exact if_pos hc
  rw [Prod.mk.injEq] at he
  obtain ⟨rfl, he⟩ := he
  have HFIN := hid (show Q = RS14 p w s2 g (ql es) 0 false 0 by rw [HQ.out, if_pos hc, he])
  clear HRE HQ he hc
  obtain ⟨y00, y01, y02, yf0⟩ := P8.out.cells3
  obtain ⟨y10, y11, y12, y13, y14, y15, y16, y17, yf1⟩ := P.out.cells8
  go_upto_region 20 with fail
  clear y00 y01 y02 yf0 y10 y11 y12 y13 y14 y15 y16 y17 yf1
  have hz8 := hid (show (w1.alloc (.cells (rcs s2.1 A n c B m d) 24)).heap.size = w1.heap.size + 1 by simp)
  generalize w1.alloc (.cells (rcs s2.1 A n c B m d) 24) = Wx at *
  have hbk0 : Blk (Wx.setCell ⟨w.heap.size, 0, none⟩ (.int .i64 s2.1)) (w.heap.size) 30 #[.int .i64 s2.1, .slice a.A a.n a.k, .slice a.B a.m a.d, .int .i64 g.dn, .int .i64 g.ak, .bool g.on, .slice a.D g.nd.length a.kd, .slice a.Q a.nq a.kq] := P.out.setCell 0 (.int .i64 s2.1)
  have hbk1 : Blk ((Wx.setCell ⟨w.heap.size, 0, none⟩ (.int .i64 s2.1)).setCell ⟨w.heap.size, 1, none⟩ (.slice A n c)) (w.heap.size) 30 #[.int .i64 s2.1, .slice A n c, .slice a.B a.m a.d, .int .i64 g.dn, .int .i64 g.ak, .bool g.on, .slice a.D g.nd.length a.kd, .slice a.Q a.nq a.kq] := hbk0.setCell 1 (.slice A n c)
  have hbk2 : Blk (((Wx.setCell ⟨w.heap.size, 0, none⟩ (.int .i64 s2.1)).setCell ⟨w.heap.size, 1, none⟩ (.slice A n c)).setCell ⟨w.heap.size, 2, none⟩ (.slice B m d)) (w.heap.size) 30 #[.int .i64 s2.1, .slice A n c, .slice B m d, .int .i64 g.dn, .int .i64 g.ak, .bool g.on, .slice a.D g.nd.length a.kd, .slice a.Q a.nq a.kq] := hbk1.setCell 2 (.slice B m d)
  have hgr : Wx.grownBy (((Wx.setCell ⟨w.heap.size, 0, none⟩ (.int .i64 s2.1)).setCell ⟨w.heap.size, 1, none⟩ (.slice A n c)).setCell ⟨w.heap.size, 2, none⟩ (.slice B m d)) (some (w.heap.size)) := (grown_set (grown_set (grown_set (World.grownBy.refl Wx (some (w.heap.size))) 0 (.int .i64 s2.1)) 1 (.slice A n c)) 2 (.slice B m d))
  replace P := hid hbk2
  clear hbk0 hbk1 hbk2
  generalize ((Wx.setCell ⟨w.heap.size, 0, none⟩ (.int .i64 s2.1)).setCell ⟨w.heap.size, 1, none⟩ (.slice A n c)).setCell ⟨w.heap.size, 2, none⟩ (.slice B m d) = Wv at *
  replace PZ := hid (PZ.out.grown hgr (by simp <;> omega)); replace HB := hid (HB.out.grown hgr HB.out.size (fun r e => by cases e; omega)); replace HR := hid (HR.out.turn hgr HP2.out.1)
  have HRO2 : Hid (Rown Wv W0.heap.size A n c B m d s2.2.1 s2.2.2) := hid ((HRO.out.keptP (p := pp) (GrownP.ofGrown hgr HP2.out.1) (fun b hb hq => by
    have := HLT.out _ hq
    rcases hb with hb | hb
    · have := (HRO.out.oa.blk b hb).1; omega
    · have := (HRO.out.ob.blk b hb).1; omega)))
  obtain ⟨a2, ha2⟩ : ∃ a2 : Ra, a2 = { a with A := A, n := n, k := c, B := B, m := m, d := d } := ⟨_, rfl⟩
  have HRR := hid (show RcP pp Wv s2 g es a2 by rw [ha2]; exact HR.out.setS (HRO2.out.forP HLT.out))
  have HN8 := hid (show a2.nq = es.length by rw [ha2]; exact HNQ.out)
  have P2 := hid (show Blk Wv w.heap.size 30 (rcells s2 g a2) by rw [ha2]; exact P.out)
  clear hgr HRO HRO2 HR P ha2 P8 hz8 PO
  obtain ⟨y00, y01, y02, y03, y04, y05, y06, y07, yf0⟩ := P2.out.cells8
  obtain ⟨y10, y11, y12, y13, y14, y15, y16, y17, yf1⟩ := PZ.out.cells8
  go_wp2_with fail
  clear y00 y01 y02 y03 y04 y05 y06 y07 yf0 y10 y11 y12 y13 y14 y15 y16 y17 yf1
  rw [HFIN.out]
  have hbk0 : Blk (Wv.setCell ⟨w.heap.size + 1 + 1, 0, none⟩ (.int .i64 s2.1)) (w.heap.size + 1 + 1) 30 #[.int .i64 s2.1, .slice none 0 0, .slice none 0 0, .int .i64 0, .int .i64 0, .bool false, .slice none 0 0, .slice none 0 0] := PZ.out.setCell 0 (.int .i64 s2.1)
  have hbk1 : Blk ((Wv.setCell ⟨w.heap.size + 1 + 1, 0, none⟩ (.int .i64 s2.1)).setCell ⟨w.heap.size + 1 + 1, 1, none⟩ (.slice a2.A a2.n a2.k)) (w.heap.size + 1 + 1) 30 #[.int .i64 s2.1, .slice a2.A a2.n a2.k, .slice none 0 0, .int .i64 0, .int .i64 0, .bool false, .slice none 0 0, .slice none 0 0] := hbk0.setCell 1 (.slice a2.A a2.n a2.k)
  have hbk2 : Blk (((Wv.setCell ⟨w.heap.size + 1 + 1, 0, none⟩ (.int .i64 s2.1)).setCell ⟨w.heap.size + 1 + 1, 1, none⟩ (.slice a2.A a2.n a2.k)).setCell ⟨w.heap.size + 1 + 1, 2, none⟩ (.slice a2.B a2.m a2.d)) (w.heap.size + 1 + 1) 30 #[.int .i64 s2.1, .slice a2.A a2.n a2.k, .slice a2.B a2.m a2.d, .int .i64 0, .int .i64 0, .bool false, .slice none 0 0, .slice none 0 0] := hbk1.setCell 2 (.slice a2.B a2.m a2.d)
  have hbk3 : Blk ((((Wv.setCell ⟨w.heap.size + 1 + 1, 0, none⟩ (.int .i64 s2.1)).setCell ⟨w.heap.size + 1 + 1, 1, none⟩ (.slice a2.A a2.n a2.k)).setCell ⟨w.heap.size + 1 + 1, 2, none⟩ (.slice a2.B a2.m a2.d)).setCell ⟨w.heap.size + 1 + 1, 3, none⟩ (.int .i64 g.dn)) (w.heap.size + 1 + 1) 30 #[.int .i64 s2.1, .slice a2.A a2.n a2.k, .slice a2.B a2.m a2.d, .int .i64 g.dn, .int .i64 0, .bool false, .slice none 0 0, .slice none 0 0] := hbk2.setCell 3 (.int .i64 g.dn)
  have hbk4 : Blk (((((Wv.setCell ⟨w.heap.size + 1 + 1, 0, none⟩ (.int .i64 s2.1)).setCell ⟨w.heap.size + 1 + 1, 1, none⟩ (.slice a2.A a2.n a2.k)).setCell ⟨w.heap.size + 1 + 1, 2, none⟩ (.slice a2.B a2.m a2.d)).setCell ⟨w.heap.size + 1 + 1, 3, none⟩ (.int .i64 g.dn)).setCell ⟨w.heap.size + 1 + 1, 4, none⟩ (.int .i64 g.ak)) (w.heap.size + 1 + 1) 30 #[.int .i64 s2.1, .slice a2.A a2.n a2.k, .slice a2.B a2.m a2.d, .int .i64 g.dn, .int .i64 g.ak, .bool false, .slice none 0 0, .slice none 0 0] := hbk3.setCell 4 (.int .i64 g.ak)
  have hbk5 : Blk ((((((Wv.setCell ⟨w.heap.size + 1 + 1, 0, none⟩ (.int .i64 s2.1)).setCell ⟨w.heap.size + 1 + 1, 1, none⟩ (.slice a2.A a2.n a2.k)).setCell ⟨w.heap.size + 1 + 1, 2, none⟩ (.slice a2.B a2.m a2.d)).setCell ⟨w.heap.size + 1 + 1, 3, none⟩ (.int .i64 g.dn)).setCell ⟨w.heap.size + 1 + 1, 4, none⟩ (.int .i64 g.ak)).setCell ⟨w.heap.size + 1 + 1, 5, none⟩ (.bool g.on)) (w.heap.size + 1 + 1) 30 #[.int .i64 s2.1, .slice a2.A a2.n a2.k, .slice a2.B a2.m a2.d, .int .i64 g.dn, .int .i64 g.ak, .bool g.on, .slice none 0 0, .slice none 0 0] := hbk4.setCell 5 (.bool g.on)
  have hbk6 : Blk (((((((Wv.setCell ⟨w.heap.size + 1 + 1, 0, none⟩ (.int .i64 s2.1)).setCell ⟨w.heap.size + 1 + 1, 1, none⟩ (.slice a2.A a2.n a2.k)).setCell ⟨w.heap.size + 1 + 1, 2, none⟩ (.slice a2.B a2.m a2.d)).setCell ⟨w.heap.size + 1 + 1, 3, none⟩ (.int .i64 g.dn)).setCell ⟨w.heap.size + 1 + 1, 4, none⟩ (.int .i64 g.ak)).setCell ⟨w.heap.size + 1 + 1, 5, none⟩ (.bool g.on)).setCell ⟨w.heap.size + 1 + 1, 6, none⟩ (.slice a2.D g.nd.length a2.kd)) (w.heap.size + 1 + 1) 30 #[.int .i64 s2.1, .slice a2.A a2.n a2.k, .slice a2.B a2.m a2.d, .int .i64 g.dn, .int .i64 g.ak, .bool g.on, .slice a2.D g.nd.length a2.kd, .slice none 0 0] := hbk5.setCell 6 (.slice a2.D g.nd.length a2.kd)
  have hbk7 : Blk ((((((((Wv.setCell ⟨w.heap.size + 1 + 1, 0, none⟩ (.int .i64 s2.1)).setCell ⟨w.heap.size + 1 + 1, 1, none⟩ (.slice a2.A a2.n a2.k)).setCell ⟨w.heap.size + 1 + 1, 2, none⟩ (.slice a2.B a2.m a2.d)).setCell ⟨w.heap.size + 1 + 1, 3, none⟩ (.int .i64 g.dn)).setCell ⟨w.heap.size + 1 + 1, 4, none⟩ (.int .i64 g.ak)).setCell ⟨w.heap.size + 1 + 1, 5, none⟩ (.bool g.on)).setCell ⟨w.heap.size + 1 + 1, 6, none⟩ (.slice a2.D g.nd.length a2.kd)).setCell ⟨w.heap.size + 1 + 1, 7, none⟩ (.slice a2.Q a2.nq a2.kq)) (w.heap.size + 1 + 1) 30 #[.int .i64 s2.1, .slice a2.A a2.n a2.k, .slice a2.B a2.m a2.d, .int .i64 g.dn, .int .i64 g.ak, .bool g.on, .slice a2.D g.nd.length a2.kd, .slice a2.Q a2.nq a2.kq] := hbk6.setCell 7 (.slice a2.Q a2.nq a2.kq)
  have hgr : Wv.grownBy ((((((((Wv.setCell ⟨w.heap.size + 1 + 1, 0, none⟩ (.int .i64 s2.1)).setCell ⟨w.heap.size + 1 + 1, 1, none⟩ (.slice a2.A a2.n a2.k)).setCell ⟨w.heap.size + 1 + 1, 2, none⟩ (.slice a2.B a2.m a2.d)).setCell ⟨w.heap.size + 1 + 1, 3, none⟩ (.int .i64 g.dn)).setCell ⟨w.heap.size + 1 + 1, 4, none⟩ (.int .i64 g.ak)).setCell ⟨w.heap.size + 1 + 1, 5, none⟩ (.bool g.on)).setCell ⟨w.heap.size + 1 + 1, 6, none⟩ (.slice a2.D g.nd.length a2.kd)).setCell ⟨w.heap.size + 1 + 1, 7, none⟩ (.slice a2.Q a2.nq a2.kq)) (some (w.heap.size + 1 + 1)) := (grown_set (grown_set (grown_set (grown_set (grown_set (grown_set (grown_set (grown_set (World.grownBy.refl Wv (some (w.heap.size + 1 + 1))) 0 (.int .i64 s2.1)) 1 (.slice a2.A a2.n a2.k)) 2 (.slice a2.B a2.m a2.d)) 3 (.int .i64 g.dn)) 4 (.int .i64 g.ak)) 5 (.bool g.on)) 6 (.slice a2.D g.nd.length a2.kd)) 7 (.slice a2.Q a2.nq a2.kq))
  replace PZ := hid hbk7
  clear hbk0 hbk1 hbk2 hbk3 hbk4 hbk5 hbk6 hbk7
  generalize (((((((Wv.setCell ⟨w.heap.size + 1 + 1, 0, none⟩ (.int .i64 s2.1)).setCell ⟨w.heap.size + 1 + 1, 1, none⟩ (.slice a2.A a2.n a2.k)).setCell ⟨w.heap.size + 1 + 1, 2, none⟩ (.slice a2.B a2.m a2.d)).setCell ⟨w.heap.size + 1 + 1, 3, none⟩ (.int .i64 g.dn)).setCell ⟨w.heap.size + 1 + 1, 4, none⟩ (.int .i64 g.ak)).setCell ⟨w.heap.size + 1 + 1, 5, none⟩ (.bool g.on)).setCell ⟨w.heap.size + 1 + 1, 6, none⟩ (.slice a2.D g.nd.length a2.kd)).setCell ⟨w.heap.size + 1 + 1, 7, none⟩ (.slice a2.Q a2.nq a2.kq) = Wy at *
  replace HRR := hid (HRR.out.turn hgr HP2.out.2); replace HB := hid (HB.out.grown hgr HB.out.size (fun r e => by cases e; omega))
  clear hgr
  obtain ⟨q0, q1, q2, q3, q4, q5, q6, q7, qf⟩ := PZ.out.cells8
  refine bodyPost_ret (v := .tuple #[rcv s2 g a2, .int .u64 0, .bool false, .int .i64 0]) (by simp [results, Tryz.results11, go_sem, q0, q1, q2, q3, q4, q5, q6, q7]) rfl ⟨a2, es, rfl, rfl, HN8.out, HRR.out.mono HPI.out, HB.out⟩
set_option maxRecDepth 100000 in
set_option maxHeartbeats 8000000 in
theorem rstep14_rd2 (p : Nat → Prop) (s : St) (g : Gr) (es : List Qe) (a : Ra) (cp : Nat) (what : Int) (w : World) (h : RcP p w s g es a) (hp : ∀ i, p i → i < w.heap.size) (hcp : cp < es.length) (hnq : a.nq = es.length) (hg : RcGood s g (ql es)) :
    Calls Tryz.prog 11 #[rcv s g a, .agg #[.int .i64 2, .int .i64 cp, .int .u64 what]] w (if stC s ((cp : Int), false) = 0 then RS14 p w (stN s ((cp : Int), false)) g (ql es) 0 false 0 else RS14 p w zSt zGr [] 0 false (stC s ((cp : Int), false))) := by
  have HB := hid (Below.refl w.heap.size w); have HR := hid h.fresh; have HP := hid hp; have HC := hid hcp; have HNQ := hid hnq; have HG := hid hg
  clear h hp hcp hnq hg
  have HL := hid (show cp < s.2.1.length by have h1 := HG.out.2.1; have h2 := HG.out.1.2.2; have h3 := HC.out; rw [ql_len] at h1; omega)
  obtain ⟨Q, hQ⟩ : ∃ Q : Ending → World → Prop, Q = if stC s ((cp : Int), false) = 0 then RS14 p w (stN s ((cp : Int), false)) g (ql es) 0 false 0 else RS14 p w zSt zGr [] 0 false (stC s ((cp : Int), false)) := ⟨_, rfl⟩
  have HQ := hid hQ
  rw [← hQ]
  clear hQ
  have bx := below_box w (.cells (rcells s g a) 30)
  replace HR := hid (HR.out.step bx); replace HB := hid (below_then HB.out bx)
  clear bx
  have P := hid (Blk.new w 30 (rcells s g a))
  have bx := below_box (w.alloc (.cells (rcells s g a) 30)) (.cells #[.int .i64 2, .int .i64 cp, .int .u64 what] 37)
  replace HR := hid (HR.out.step bx); replace P := hid (P.out.step bx); replace HB := hid (below_then HB.out bx)
  clear bx
  have PO := hid (Blk.new2 w 37 #[.int .i64 2, .int .i64 cp, .int .u64 what] (.cells (rcells s g a) 30))
  have bx := below_box ((w.alloc (.cells (rcells s g a) 30)).alloc (.cells #[.int .i64 2, .int .i64 cp, .int .u64 what] 37)) (.cells #[.int .i64 0, .slice none 0 0, .slice none 0 0, .int .i64 0, .int .i64 0, .bool false, .slice none 0 0, .slice none 0 0] 30)
  replace HR := hid (HR.out.step bx); replace P := hid (P.out.step bx); replace PO := hid (PO.out.step bx); replace HB := hid (below_then HB.out bx)
  clear bx
  have PZ := hid (Blk.new3 w 30 #[.int .i64 0, .slice none 0 0, .slice none 0 0, .int .i64 0, .int .i64 0, .bool false, .slice none 0 0, .slice none 0 0] (.cells (rcells s g a) 30) (.cells #[.int .i64 2, .int .i64 cp, .int .u64 what] 37))
  go_enter Tryz.func11, Tryz.ntmps11
  have hci2 : ¬ ((a.nq : Int) ≤ (cp : Int)) := by have := HC.out; have := HNQ.out; omega
  have hci3 : ¬ ((cp : Int) < 0) := by omega
  obtain ⟨y00, y01, y02, y03, y04, y05, y06, y07, yf0⟩ := P.out.cells8
  obtain ⟨y10, y11, y12, yf1⟩ := PO.out.cells3
  go_wp2_with fail
  clear y00 y01 y02 y03 y04 y05 y06 y07 yf0 y10 y11 y12 yf1 hci2 hci3
  have hz0 := hid (show (((w.alloc (.cells (rcells s g a) 30)).alloc (.cells #[.int .i64 2, .int .i64 cp, .int .u64 what] 37)).alloc (.cells #[.int .i64 0, .slice none 0 0, .slice none 0 0, .int .i64 0, .int .i64 0, .bool false, .slice none 0 0, .slice none 0 0] 30)).heap.size = w.heap.size + 3 by simp)
  generalize ((w.alloc (.cells (rcells s g a) 30)).alloc (.cells #[.int .i64 2, .int .i64 cp, .int .u64 what] 37)).alloc (.cells #[.int .i64 0, .slice none 0 0, .slice none 0 0, .int .i64 0, .int .i64 0, .bool false, .slice none 0 0, .slice none 0 0] 30) = W0 at *
  obtain ⟨pp, hpp⟩ : ∃ pp : Nat → Prop, pp = fun i => p i ∨ (w.heap.size ≤ i ∧ i < w.heap.size + 3) := ⟨_, rfl⟩
  have HP2 := hid (show pp w.heap.size ∧ pp (w.heap.size + 1 + 1) by rw [hpp]; exact ⟨.inr (by omega), .inr (by omega)⟩)
  have HPI := hid (show ∀ i, p i → pp i by rw [hpp]; exact fun i hi => .inl hi)
  have HLT := hid (show ∀ i, pp i → i < W0.heap.size by rw [hpp]; exact fun i hi => by have := hz0.out; rcases hi with hi | hi; have := HP.out i hi; omega; omega)
  have HS0 := hid (show w.heap.size + 3 ≤ W0.heap.size by have := hz0.out; omega)
  replace HR := hid (HR.out.mono (q := pp) (fun i hi => by rw [hpp] at hi; exact hi.elim .inl (fun h => .inr h.1)))
  clear hpp hz0
  obtain ⟨r, hr⟩ : ∃ r, r = rstepF s ((cp : Int), false) := ⟨_, rfl⟩
  have HRE := hid hr
  refine (show Calls Tryz.prog 40 #[rv s.1 a.A a.n a.k a.B a.m a.d, rdv (cp : Int) false] W0 (OnePost W0 r) from hr ▸ rstep11_any s a.A a.n a.k a.B a.m a.d cp false W0 HR.out.rcr.rd HG.out.1.1 HL.out).mono ?_
  clear hr
  obtain ⟨r1, s2⟩ := r
  rintro e w1 ⟨A, n, c, B, m, d, rfl, hro, hb⟩
  dsimp only at hro ⊢
  have HRO := hid hro
  have HS1 := hid hb.size
  replace P := hid (P.out.step hb); replace PO := hid (PO.out.step hb); replace PZ := hid (PZ.out.step hb); replace HR := hid (HR.out.step hb); replace HB := hid (below_then HB.out hb)
  clear hro hb
  have bx := below_box w1 (.cells (rcs s2.1 A n c B m d) 24)
  replace P := hid (P.out.step bx); replace PO := hid (PO.out.step bx); replace PZ := hid (PZ.out.step bx); replace HR := hid (HR.out.step bx); replace HRO := hid (HRO.out.step bx); replace HB := hid (below_then HB.out bx)
  clear bx
  have P8 := hid (Blk.new w1 24 (rcs s2.1 A n c B m d))
  rcases Decidable.em (stC s ((cp : Int), false) = 0) with hc | hc
  rotate_left
  ·skip
   have he : (r1, s2) = (stC s ((cp : Int), false), zSt) := by rw [HRE.out]; exact if_neg hc
   cases he
   have HFIN := hid (show Q = RS14 p w zSt zGr [] 0 false (stC s ((cp : Int), false)) by rw [HQ.out, if_neg hc])
   clear HRE HQ
   obtain ⟨cd, hcd⟩ : ∃ cd, cd = stC s ((cp : Int), false) := ⟨_, rfl⟩
   rw [← hcd] at hc HFIN ⊢
   clear hcd
   have hcb : (cd != 0) = true := by simpa using hc
   have hcb2 : (cd == 0) = false := by simpa using hc
   obtain ⟨y00, y01, y02, y03, y04, y05, y06, y07, yf0⟩ := PZ.out.cells8
   go_wp2_with fail
   clear y00 y01 y02 y03 y04 y05 y06 y07 yf0
   generalize w1.alloc (.cells (rcs zSt.1 A n c B m d) 24) = Wz at *
   have hbk0 : Blk (Wz.setCell ⟨w.heap.size + 1 + 1, 0, none⟩ (.int .i64 0)) (w.heap.size + 1 + 1) 30 #[.int .i64 0, .slice none 0 0, .slice none 0 0, .int .i64 0, .int .i64 0, .bool false, .slice none 0 0, .slice none 0 0] := PZ.out.setCell 0 (.int .i64 0)
   have hbk1 : Blk ((Wz.setCell ⟨w.heap.size + 1 + 1, 0, none⟩ (.int .i64 0)).setCell ⟨w.heap.size + 1 + 1, 1, none⟩ (.slice none 0 0)) (w.heap.size + 1 + 1) 30 #[.int .i64 0, .slice none 0 0, .slice none 0 0, .int .i64 0, .int .i64 0, .bool false, .slice none 0 0, .slice none 0 0] := hbk0.setCell 1 (.slice none 0 0)
   have hbk2 : Blk (((Wz.setCell ⟨w.heap.size + 1 + 1, 0, none⟩ (.int .i64 0)).setCell ⟨w.heap.size + 1 + 1, 1, none⟩ (.slice none 0 0)).setCell ⟨w.heap.size + 1 + 1, 2, none⟩ (.slice none 0 0)) (w.heap.size + 1 + 1) 30 #[.int .i64 0, .slice none 0 0, .slice none 0 0, .int .i64 0, .int .i64 0, .bool false, .slice none 0 0, .slice none 0 0] := hbk1.setCell 2 (.slice none 0 0)
   have hbk3 : Blk ((((Wz.setCell ⟨w.heap.size + 1 + 1, 0, none⟩ (.int .i64 0)).setCell ⟨w.heap.size + 1 + 1, 1, none⟩ (.slice none 0 0)).setCell ⟨w.heap.size + 1 + 1, 2, none⟩ (.slice none 0 0)).setCell ⟨w.heap.size + 1 + 1, 3, none⟩ (.int .i64 0)) (w.heap.size + 1 + 1) 30 #[.int .i64 0, .slice none 0 0, .slice none 0 0, .int .i64 0, .int .i64 0, .bool false, .slice none 0 0, .slice none 0 0] := hbk2.setCell 3 (.int .i64 0)
   have hbk4 : Blk (((((Wz.setCell ⟨w.heap.size + 1 + 1, 0, none⟩ (.int .i64 0)).setCell ⟨w.heap.size + 1 + 1, 1, none⟩ (.slice none 0 0)).setCell ⟨w.heap.size + 1 + 1, 2, none⟩ (.slice none 0 0)).setCell ⟨w.heap.size + 1 + 1, 3, none⟩ (.int .i64 0)).setCell ⟨w.heap.size + 1 + 1, 4, none⟩ (.int .i64 0)) (w.heap.size + 1 + 1) 30 #[.int .i64 0, .slice none 0 0, .slice none 0 0, .int .i64 0, .int .i64 0, .bool false, .slice none 0 0, .slice none 0 0] := hbk3.setCell 4 (.int .i64 0)
   have hbk5 : Blk ((((((Wz.setCell ⟨w.heap.size + 1 + 1, 0, none⟩ (.int .i64 0)).setCell ⟨w.heap.size + 1 + 1, 1, none⟩ (.slice none 0 0)).setCell ⟨w.heap.size + 1 + 1, 2, none⟩ (.slice none 0 0)).setCell ⟨w.heap.size + 1 + 1, 3, none⟩ (.int .i64 0)).setCell ⟨w.heap.size + 1 + 1, 4, none⟩ (.int .i64 0)).setCell ⟨w.heap.size + 1 + 1, 5, none⟩ (.bool false)) (w.heap.size + 1 + 1) 30 #[.int .i64 0, .slice none 0 0, .slice none 0 0, .int .i64 0, .int .i64 0, .bool false, .slice none 0 0, .slice none 0 0] := hbk4.setCell 5 (.bool false)
   have hbk6 : Blk (((((((Wz.setCell ⟨w.heap.size + 1 + 1, 0, none⟩ (.int .i64 0)).setCell ⟨w.heap.size + 1 + 1, 1, none⟩ (.slice none 0 0)).setCell ⟨w.heap.size + 1 + 1, 2, none⟩ (.slice none 0 0)).setCell ⟨w.heap.size + 1 + 1, 3, none⟩ (.int .i64 0)).setCell ⟨w.heap.size + 1 + 1, 4, none⟩ (.int .i64 0)).setCell ⟨w.heap.size + 1 + 1, 5, none⟩ (.bool false)).setCell ⟨w.heap.size + 1 + 1, 6, none⟩ (.slice none 0 0)) (w.heap.size + 1 + 1) 30 #[.int .i64 0, .slice none 0 0, .slice none 0 0, .int .i64 0, .int .i64 0, .bool false, .slice none 0 0, .slice none 0 0] := hbk5.setCell 6 (.slice none 0 0)
   have hbk7 : Blk ((((((((Wz.setCell ⟨w.heap.size + 1 + 1, 0, none⟩ (.int .i64 0)).setCell ⟨w.heap.size + 1 + 1, 1, none⟩ (.slice none 0 0)).setCell ⟨w.heap.size + 1 + 1, 2, none⟩ (.slice none 0 0)).setCell ⟨w.heap.size + 1 + 1, 3, none⟩ (.int .i64 0)).setCell ⟨w.heap.size + 1 + 1, 4, none⟩ (.int .i64 0)).setCell ⟨w.heap.size + 1 + 1, 5, none⟩ (.bool false)).setCell ⟨w.heap.size + 1 + 1, 6, none⟩ (.slice none 0 0)).setCell ⟨w.heap.size + 1 + 1, 7, none⟩ (.slice none 0 0)) (w.heap.size + 1 + 1) 30 #[.int .i64 0, .slice none 0 0, .slice none 0 0, .int .i64 0, .int .i64 0, .bool false, .slice none 0 0, .slice none 0 0] := hbk6.setCell 7 (.slice none 0 0)
   have hgr : Wz.grownBy ((((((((Wz.setCell ⟨w.heap.size + 1 + 1, 0, none⟩ (.int .i64 0)).setCell ⟨w.heap.size + 1 + 1, 1, none⟩ (.slice none 0 0)).setCell ⟨w.heap.size + 1 + 1, 2, none⟩ (.slice none 0 0)).setCell ⟨w.heap.size + 1 + 1, 3, none⟩ (.int .i64 0)).setCell ⟨w.heap.size + 1 + 1, 4, none⟩ (.int .i64 0)).setCell ⟨w.heap.size + 1 + 1, 5, none⟩ (.bool false)).setCell ⟨w.heap.size + 1 + 1, 6, none⟩ (.slice none 0 0)).setCell ⟨w.heap.size + 1 + 1, 7, none⟩ (.slice none 0 0)) (some (w.heap.size + 1 + 1)) := (grown_set (grown_set (grown_set (grown_set (grown_set (grown_set (grown_set (grown_set (World.grownBy.refl Wz (some (w.heap.size + 1 + 1))) 0 (.int .i64 0)) 1 (.slice none 0 0)) 2 (.slice none 0 0)) 3 (.int .i64 0)) 4 (.int .i64 0)) 5 (.bool false)) 6 (.slice none 0 0)) 7 (.slice none 0 0))
   replace PZ := hid hbk7
   clear hbk0 hbk1 hbk2 hbk3 hbk4 hbk5 hbk6 hbk7
   generalize (((((((Wz.setCell ⟨w.heap.size + 1 + 1, 0, none⟩ (.int .i64 0)).setCell ⟨w.heap.size + 1 + 1, 1, none⟩ (.slice none 0 0)).setCell ⟨w.heap.size + 1 + 1, 2, none⟩ (.slice none 0 0)).setCell ⟨w.heap.size + 1 + 1, 3, none⟩ (.int .i64 0)).setCell ⟨w.heap.size + 1 + 1, 4, none⟩ (.int .i64 0)).setCell ⟨w.heap.size + 1 + 1, 5, none⟩ (.bool false)).setCell ⟨w.heap.size + 1 + 1, 6, none⟩ (.slice none 0 0)).setCell ⟨w.heap.size + 1 + 1, 7, none⟩ (.slice none 0 0) = Wy at *
   replace HB := hid (HB.out.grown hgr HB.out.size (fun r e => by cases e; omega))
   clear hgr
   obtain ⟨q0, q1, q2, q3, q4, q5, q6, q7, qf⟩ := PZ.out.cells8
   rw [HFIN.out]
   refine bodyPost_ret (v := .tuple #[rcv zSt zGr zRa, .int .u64 0, .bool false, .int .i64 cd]) (by simp [results, Tryz.results11, go_sem, q0, q1, q2, q3, q4, q5, q6, q7, zSt, zGr, zRa]) rfl ⟨zRa, [], rfl, rfl, rfl, RcP.zero _ _, HB.out⟩
  have he : (r1, s2) = (0, stN s ((cp : Int), false)) := by rw [HRE.out]; exact if_pos hc
  rw [Prod.mk.injEq] at he
  obtain ⟨rfl, he⟩ := he
  have HFIN := hid (show Q = RS14 p w s2 g (ql es) 0 false 0 by rw [HQ.out, if_pos hc, he])
  clear HRE HQ he hc
  obtain ⟨y00, y01, y02, yf0⟩ := P8.out.cells3
  obtain ⟨y10, y11, y12, y13, y14, y15, y16, y17, yf1⟩ := P.out.cells8
  go_upto_region 20 with fail
  clear y00 y01 y02 yf0 y10 y11 y12 y13 y14 y15 y16 y17 yf1
  have hz8 := hid (show (w1.alloc (.cells (rcs s2.1 A n c B m d) 24)).heap.size = w1.heap.size + 1 by simp)
  generalize w1.alloc (.cells (rcs s2.1 A n c B m d) 24) = Wx at *
  have hbk0 : Blk (Wx.setCell ⟨w.heap.size, 0, none⟩ (.int .i64 s2.1)) (w.heap.size) 30 #[.int .i64 s2.1, .slice a.A a.n a.k, .slice a.B a.m a.d, .int .i64 g.dn, .int .i64 g.ak, .bool g.on, .slice a.D g.nd.length a.kd, .slice a.Q a.nq a.kq] := P.out.setCell 0 (.int .i64 s2.1)
  have hbk1 : Blk ((Wx.setCell ⟨w.heap.size, 0, none⟩ (.int .i64 s2.1)).setCell ⟨w.heap.size, 1, none⟩ (.slice A n c)) (w.heap.size) 30 #[.int .i64 s2.1, .slice A n c, .slice a.B a.m a.d, .int .i64 g.dn, .int .i64 g.ak, .bool g.on, .slice a.D g.nd.length a.kd, .slice a.Q a.nq a.kq] := hbk0.setCell 1 (.slice A n c)
  have hbk2 : Blk (((Wx.setCell ⟨w.heap.size, 0, none⟩ (.int .i64 s2.1)).setCell ⟨w.heap.size, 1, none⟩ (.slice A n c)).setCell ⟨w.heap.size, 2, none⟩ (.slice B m d)) (w.heap.size) 30 #[.int .i64 s2.1, .slice A n c, .slice B m d, .int .i64 g.dn, .int .i64 g.ak, .bool g.on, .slice a.D g.nd.length a.kd, .slice a.Q a.nq a.kq] := hbk1.setCell 2 (.slice B m d)
  have hgr : Wx.grownBy (((Wx.setCell ⟨w.heap.size, 0, none⟩ (.int .i64 s2.1)).setCell ⟨w.heap.size, 1, none⟩ (.slice A n c)).setCell ⟨w.heap.size, 2, none⟩ (.slice B m d)) (some (w.heap.size)) := (grown_set (grown_set (grown_set (World.grownBy.refl Wx (some (w.heap.size))) 0 (.int .i64 s2.1)) 1 (.slice A n c)) 2 (.slice B m d))
  replace P := hid hbk2
  clear hbk0 hbk1 hbk2
  generalize ((Wx.setCell ⟨w.heap.size, 0, none⟩ (.int .i64 s2.1)).setCell ⟨w.heap.size, 1, none⟩ (.slice A n c)).setCell ⟨w.heap.size, 2, none⟩ (.slice B m d) = Wv at *
  replace PZ := hid (PZ.out.grown hgr (by simp <;> omega)); replace HB := hid (HB.out.grown hgr HB.out.size (fun r e => by cases e; omega)); replace HR := hid (HR.out.turn hgr HP2.out.1)
  have HRO2 : Hid (Rown Wv W0.heap.size A n c B m d s2.2.1 s2.2.2) := hid ((HRO.out.keptP (p := pp) (GrownP.ofGrown hgr HP2.out.1) (fun b hb hq => by
    have := HLT.out _ hq
    rcases hb with hb | hb
    · have := (HRO.out.oa.blk b hb).1; omega
    · have := (HRO.out.ob.blk b hb).1; omega)))
  obtain ⟨a2, ha2⟩ : ∃ a2 : Ra, a2 = { a with A := A, n := n, k := c, B := B, m := m, d := d } := ⟨_, rfl⟩
  have HRR := hid (show RcP pp Wv s2 g es a2 by rw [ha2]; exact HR.out.setS (HRO2.out.forP HLT.out))
  have HN8 := hid (show a2.nq = es.length by rw [ha2]; exact HNQ.out)
  have P2 := hid (show Blk Wv w.heap.size 30 (rcells s2 g a2) by rw [ha2]; exact P.out)
  clear hgr HRO HRO2 HR P ha2 P8 hz8 PO
  obtain ⟨y00, y01, y02, y03, y04, y05, y06, y07, yf0⟩ := P2.out.cells8
  obtain ⟨y10, y11, y12, y13, y14, y15, y16, y17, yf1⟩ := PZ.out.cells8
  go_wp2_with fail
  clear y00 y01 y02 y03 y04 y05 y06 y07 yf0 y10 y11 y12 y13 y14 y15 y16 y17 yf1
  rw [HFIN.out]
  have hbk0 : Blk (Wv.setCell ⟨w.heap.size + 1 + 1, 0, none⟩ (.int .i64 s2.1)) (w.heap.size + 1 + 1) 30 #[.int .i64 s2.1, .slice none 0 0, .slice none 0 0, .int .i64 0, .int .i64 0, .bool false, .slice none 0 0, .slice none 0 0] := PZ.out.setCell 0 (.int .i64 s2.1)
  have hbk1 : Blk ((Wv.setCell ⟨w.heap.size + 1 + 1, 0, none⟩ (.int .i64 s2.1)).setCell ⟨w.heap.size + 1 + 1, 1, none⟩ (.slice a2.A a2.n a2.k)) (w.heap.size + 1 + 1) 30 #[.int .i64 s2.1, .slice a2.A a2.n a2.k, .slice none 0 0, .int .i64 0, .int .i64 0, .bool false, .slice none 0 0, .slice none 0 0] := hbk0.setCell 1 (.slice a2.A a2.n a2.k)
  have hbk2 : Blk (((Wv.setCell ⟨w.heap.size + 1 + 1, 0, none⟩ (.int .i64 s2.1)).setCell ⟨w.heap.size + 1 + 1, 1, none⟩ (.slice a2.A a2.n a2.k)).setCell ⟨w.heap.size + 1 + 1, 2, none⟩ (.slice a2.B a2.m a2.d)) (w.heap.size + 1 + 1) 30 #[.int .i64 s2.1, .slice a2.A a2.n a2.k, .slice a2.B a2.m a2.d, .int .i64 0, .int .i64 0, .bool false, .slice none 0 0, .slice none 0 0] := hbk1.setCell 2 (.slice a2.B a2.m a2.d)
  have hbk3 : Blk ((((Wv.setCell ⟨w.heap.size + 1 + 1, 0, none⟩ (.int .i64 s2.1)).setCell ⟨w.heap.size + 1 + 1, 1, none⟩ (.slice a2.A a2.n a2.k)).setCell ⟨w.heap.size + 1 + 1, 2, none⟩ (.slice a2.B a2.m a2.d)).setCell ⟨w.heap.size + 1 + 1, 3, none⟩ (.int .i64 g.dn)) (w.heap.size + 1 + 1) 30 #[.int .i64 s2.1, .slice a2.A a2.n a2.k, .slice a2.B a2.m a2.d, .int .i64 g.dn, .int .i64 0, .bool false, .slice none 0 0, .slice none 0 0] := hbk2.setCell 3 (.int .i64 g.dn)
  have hbk4 : Blk (((((Wv.setCell ⟨w.heap.size + 1 + 1, 0, none⟩ (.int .i64 s2.1)).setCell ⟨w.heap.size + 1 + 1, 1, none⟩ (.slice a2.A a2.n a2.k)).setCell ⟨w.heap.size + 1 + 1, 2, none⟩ (.slice a2.B a2.m a2.d)).setCell ⟨w.heap.size + 1 + 1, 3, none⟩ (.int .i64 g.dn)).setCell ⟨w.heap.size + 1 + 1, 4, none⟩ (.int .i64 g.ak)) (w.heap.size + 1 + 1) 30 #[.int .i64 s2.1, .slice a2.A a2.n a2.k, .slice a2.B a2.m a2.d, .int .i64 g.dn, .int .i64 g.ak, .bool false, .slice none 0 0, .slice none 0 0] := hbk3.setCell 4 (.int .i64 g.ak)
  have hbk5 : Blk ((((((Wv.setCell ⟨w.heap.size + 1 + 1, 0, none⟩ (.int .i64 s2.1)).setCell ⟨w.heap.size + 1 + 1, 1, none⟩ (.slice a2.A a2.n a2.k)).setCell ⟨w.heap.size + 1 + 1, 2, none⟩ (.slice a2.B a2.m a2.d)).setCell ⟨w.heap.size + 1 + 1, 3, none⟩ (.int .i64 g.dn)).setCell ⟨w.heap.size + 1 + 1, 4, none⟩ (.int .i64 g.ak)).setCell ⟨w.heap.size + 1 + 1, 5, none⟩ (.bool g.on)) (w.heap.size + 1 + 1) 30 #[.int .i64 s2.1, .slice a2.A a2.n a2.k, .slice a2.B a2.m a2.d, .int .i64 g.dn, .int .i64 g.ak, .bool g.on, .slice none 0 0, .slice none 0 0] := hbk4.setCell 5 (.bool g.on)
  have hbk6 : Blk (((((((Wv.setCell ⟨w.heap.size + 1 + 1, 0, none⟩ (.int .i64 s2.1)).setCell ⟨w.heap.size + 1 + 1, 1, none⟩ (.slice a2.A a2.n a2.k)).setCell ⟨w.heap.size + 1 + 1, 2, none⟩ (.slice a2.B a2.m a2.d)).setCell ⟨w.heap.size + 1 + 1, 3, none⟩ (.int .i64 g.dn)).setCell ⟨w.heap.size + 1 + 1, 4, none⟩ (.int .i64 g.ak)).setCell ⟨w.heap.size + 1 + 1, 5, none⟩ (.bool g.on)).setCell ⟨w.heap.size + 1 + 1, 6, none⟩ (.slice a2.D g.nd.length a2.kd)) (w.heap.size + 1 + 1) 30 #[.int .i64 s2.1, .slice a2.A a2.n a2.k, .slice a2.B a2.m a2.d, .int .i64 g.dn, .int .i64 g.ak, .bool g.on, .slice a2.D g.nd.length a2.kd, .slice none 0 0] := hbk5.setCell 6 (.slice a2.D g.nd.length a2.kd)
  have hbk7 : Blk ((((((((Wv.setCell ⟨w.heap.size + 1 + 1, 0, none⟩ (.int .i64 s2.1)).setCell ⟨w.heap.size + 1 + 1, 1, none⟩ (.slice a2.A a2.n a2.k)).setCell ⟨w.heap.size + 1 + 1, 2, none⟩ (.slice a2.B a2.m a2.d)).setCell ⟨w.heap.size + 1 + 1, 3, none⟩ (.int .i64 g.dn)).setCell ⟨w.heap.size + 1 + 1, 4, none⟩ (.int .i64 g.ak)).setCell ⟨w.heap.size + 1 + 1, 5, none⟩ (.bool g.on)).setCell ⟨w.heap.size + 1 + 1, 6, none⟩ (.slice a2.D g.nd.length a2.kd)).setCell ⟨w.heap.size + 1 + 1, 7, none⟩ (.slice a2.Q a2.nq a2.kq)) (w.heap.size + 1 + 1) 30 #[.int .i64 s2.1, .slice a2.A a2.n a2.k, .slice a2.B a2.m a2.d, .int .i64 g.dn, .int .i64 g.ak, .bool g.on, .slice a2.D g.nd.length a2.kd, .slice a2.Q a2.nq a2.kq] := hbk6.setCell 7 (.slice a2.Q a2.nq a2.kq)
  have hgr : Wv.grownBy ((((((((Wv.setCell ⟨w.heap.size + 1 + 1, 0, none⟩ (.int .i64 s2.1)).setCell ⟨w.heap.size + 1 + 1, 1, none⟩ (.slice a2.A a2.n a2.k)).setCell ⟨w.heap.size + 1 + 1, 2, none⟩ (.slice a2.B a2.m a2.d)).setCell ⟨w.heap.size + 1 + 1, 3, none⟩ (.int .i64 g.dn)).setCell ⟨w.heap.size + 1 + 1, 4, none⟩ (.int .i64 g.ak)).setCell ⟨w.heap.size + 1 + 1, 5, none⟩ (.bool g.on)).setCell ⟨w.heap.size + 1 + 1, 6, none⟩ (.slice a2.D g.nd.length a2.kd)).setCell ⟨w.heap.size + 1 + 1, 7, none⟩ (.slice a2.Q a2.nq a2.kq)) (some (w.heap.size + 1 + 1)) := (grown_set (grown_set (grown_set (grown_set (grown_set (grown_set (grown_set (grown_set (World.grownBy.refl Wv (some (w.heap.size + 1 + 1))) 0 (.int .i64 s2.1)) 1 (.slice a2.A a2.n a2.k)) 2 (.slice a2.B a2.m a2.d)) 3 (.int .i64 g.dn)) 4 (.int .i64 g.ak)) 5 (.bool g.on)) 6 (.slice a2.D g.nd.length a2.kd)) 7 (.slice a2.Q a2.nq a2.kq))
  replace PZ := hid hbk7
  clear hbk0 hbk1 hbk2 hbk3 hbk4 hbk5 hbk6 hbk7
  generalize (((((((Wv.setCell ⟨w.heap.size + 1 + 1, 0, none⟩ (.int .i64 s2.1)).setCell ⟨w.heap.size + 1 + 1, 1, none⟩ (.slice a2.A a2.n a2.k)).setCell ⟨w.heap.size + 1 + 1, 2, none⟩ (.slice a2.B a2.m a2.d)).setCell ⟨w.heap.size + 1 + 1, 3, none⟩ (.int .i64 g.dn)).setCell ⟨w.heap.size + 1 + 1, 4, none⟩ (.int .i64 g.ak)).setCell ⟨w.heap.size + 1 + 1, 5, none⟩ (.bool g.on)).setCell ⟨w.heap.size + 1 + 1, 6, none⟩ (.slice a2.D g.nd.length a2.kd)).setCell ⟨w.heap.size + 1 + 1, 7, none⟩ (.slice a2.Q a2.nq a2.kq) = Wy at *
  replace HRR := hid (HRR.out.turn hgr HP2.out.2); replace HB := hid (HB.out.grown hgr HB.out.size (fun r e => by cases e; omega))
  clear hgr
  obtain ⟨q0, q1, q2, q3, q4, q5, q6, q7, qf⟩ := PZ.out.cells8
  refine bodyPost_ret (v := .tuple #[rcv s2 g a2, .int .u64 0, .bool false, .int .i64 0]) (by simp [results, Tryz.results11, go_sem, q0, q1, q2, q3, q4, q5, q6, q7]) rfl ⟨a2, es, rfl, rfl, HN8.out, HRR.out.mono HPI.out, HB.out⟩
end Go.Proofs.YtfipdoofgbjbjaaGreat

/- afterglowref14: Step, all of it, as the ops plainly. No condition but sizes. -/
namespace Go.Proofs.YtfipdoofgbjbjaaGreat
open Go.RowKit
theorem rstep14_any (p : Nat → Prop) (s : St) (g : Gr) (es : List Qe) (a : Ra) (o : Int × Int × Int) (w : World) (h : RcP p w s g es a) (hp : ∀ i, p i → i < w.heap.size) (hnq : a.nq = es.length) (hg : RcGood s g (ql es)) :
    Calls Tryz.prog 11 #[rcv s g a, .agg (ocs o)] w (SA14 p w o (opsA s g (ql es) [] [o])) := by
  obtain ⟨k, c, x⟩ := o
  have hql : (ql es).length = es.length := ql_len es
  by_cases hbad : (k < 1 ∨ 5 < k) ∨ (c < 0 ∨ (es.length : Int) ≤ c)
  · have e : opsA s g (ql es) [] [(k, c, x)] = ((if k < 1 ∨ 5 < k then 242 else 2), zSt, zGr, [], []) := by
      have hf : opF s g (ql es) (k, c, x) = ((if k < 1 ∨ 5 < k then 242 else 2), s, g, ql es, []) := by
        unfold opF
        dsimp only
        by_cases h1 : k < 1 ∨ 5 < k
        · rw [if_pos h1, if_pos h1]
        · rw [if_neg h1, if_neg h1, if_pos (by rw [hql]; exact hbad.resolve_left h1)]
      rw [ops1, hf]
      exact if_neg (by dsimp only; split <;> decide)
    have e2 : SA14 p w (k, c, x) (opsA s g (ql es) [] [(k, c, x)]) = RS14 p w zSt zGr [] 0 false (if k < 1 ∨ 5 < k then 242 else 2) := by
      rw [e]
      unfold SA14
      dsimp only
      rw [decide_eq_false (by rintro ⟨_, h2⟩; split at h2 <;> exact absurd h2 (by decide))]
      rfl
    rw [e2]
    exact rstep14_bad p s g a k c x es.length w hnq hbad
  have hk : 1 ≤ k ∧ k ≤ 5 := by omega
  obtain ⟨cp, rfl⟩ := Int.eq_ofNat_of_zero_le (show 0 ≤ c by omega)
  have hcp : cp < es.length := by omega
  have hcq : cp < (ql es).length := by omega
  have hop := opF_lt (s := s) (g := g) (qs := ql es) (k := k) (cp := cp) (x := x) hk hcq
  have hK : k = 1 ∨ k = 2 ∨ k = 3 ∨ k = 4 ∨ k = 5 := by omega
  rcases hK with rfl | rfl | rfl | rfl | rfl
  · rw [if_pos (.inl rfl)] at hop
    have e2 : SA14 p w (1, (cp : Int), x) (opsA s g (ql es) [] [(1, (cp : Int), x)]) = if stC s ((cp : Int), true) = 0 then RS14 p w (stN s ((cp : Int), true)) g (ql es) 0 false 0 else RS14 p w zSt zGr [] 0 false (stC s ((cp : Int), true)) := by
      rw [ops1, hop]
      unfold SA14
      by_cases h0 : stC s ((cp : Int), true) = 0
      · rw [if_pos h0, if_pos (show stC s ((cp : Int), decide ((1 : Int) = 1)) = 0 from h0)]; rfl
      · rw [if_neg h0, if_neg (show ¬ stC s ((cp : Int), decide ((1 : Int) = 1)) = 0 from h0)]; rfl
    rw [e2]
    exact rstep14_rd1 p s g es a cp x w h hp hcp hnq hg
  · rw [if_pos (.inr rfl)] at hop
    have e2 : SA14 p w (2, (cp : Int), x) (opsA s g (ql es) [] [(2, (cp : Int), x)]) = if stC s ((cp : Int), false) = 0 then RS14 p w (stN s ((cp : Int), false)) g (ql es) 0 false 0 else RS14 p w zSt zGr [] 0 false (stC s ((cp : Int), false)) := by
      rw [ops1, hop]
      unfold SA14
      by_cases h0 : stC s ((cp : Int), false) = 0
      · rw [if_pos h0, if_pos (show stC s ((cp : Int), decide ((2 : Int) = 1)) = 0 from h0)]; rfl
      · rw [if_neg h0, if_neg (show ¬ stC s ((cp : Int), decide ((2 : Int) = 1)) = 0 from h0)]; rfl
    rw [e2]
    exact rstep14_rd2 p s g es a cp x w h hp hcp hnq hg
  · have e2 : SA14 p w (3, (cp : Int), x) (opsA s g (ql es) [] [(3, (cp : Int), x)]) = RS14 p w (opsA s g (ql es) [] [(3, (cp : Int), x)]).2.1 (opsA s g (ql es) [] [(3, (cp : Int), x)]).2.2.1 (opsA s g (ql es) [] [(3, (cp : Int), x)]).2.2.2.1 0 false (opsA s g (ql es) [] [(3, (cp : Int), x)]).1 := by
      rcases call_cases x hg hcq with ⟨_, e⟩ | ⟨_, _, e⟩ <;> (rw [e]; unfold SA14; dsimp only; rw [decide_eq_false (by omega)]; rfl)
    rw [e2]
    exact rstep14_call p s g es a cp x w h hp hcp hnq hg
  · rw [if_neg (by decide), if_neg (by decide), if_pos rfl, overs_eq hg] at hop
    have e2 : SA14 p w (4, (cp : Int), x) (opsA s g (ql es) [] [(4, (cp : Int), x)]) = RS14 p w s (gPick g cp (decide (s.2.1[cp]?.getD 0 = 0))) ((ql es).map fun x => (x.1, (gPick g cp (decide (s.2.1[cp]?.getD 0 = 0))).dn)) 0 false 0 := by
      rw [ops1, hop]; rfl
    rw [e2]
    exact rstep14_pick p s g es a cp x w h hp hcp hnq hg
  · have e2 : SA14 p w (5, (cp : Int), x) (opsA s g (ql es) [] [(5, (cp : Int), x)]) = RunP p w s g (ql es) cp := by
      funext y w'
      unfold RunP
      rcases run_cases x hg hcq with ⟨h0, e⟩ | ⟨h0, e⟩
      · rw [e, if_pos h0]; unfold SA14; dsimp only; rw [decide_eq_true (by exact ⟨rfl, rfl⟩)]; rfl
      · rw [e, if_neg h0]; unfold SA14; dsimp only; rw [decide_eq_false (by omega)]; rfl
    rw [e2]
    exact rstep14_run p s g es a cp x w h hp hcp hnq (hg.2.2 _ (qAt_mem hcq)).1
end Go.Proofs.YtfipdoofgbjbjaaGreat

/- package rcu: what settling ran: all that waited, each CPU's in its order. No condition. -/
namespace Go.Proofs.YtfipdoofgbjbjaaGreat
open Go.RowKit
/-- the words of all that waits -/
def wAll (qs : Qs) : List Int := (qs.map fun q => q.1.map Prod.snd).flatten
theorem wAll_overs (d d' : Int) (qs : Qs) : wAll (overs d d' qs) = wAll qs := by
  unfold overs wAll
  split
  · rw [List.map_map]; rfl
  · rfl
theorem at_overs (d d' : Int) (qs : Qs) (j : Nat) : (qAt (overs d d' qs) j).1 = (qAt qs j).1 := by
  unfold overs qAt
  split
  · rw [List.getElem?_map]; cases qs[j]? <;> rfl
  · rfl
theorem wAll_drain : ∀ (qs : Qs) (k j : Nat), k < qs.length → (drR qs k j ++ wAll (drQ qs k j)).Perm (wAll qs)
  | q :: qs, 0, j, _ => by
    show ((q.1.take j).map Prod.snd ++ ((q.1.drop j).map Prod.snd ++ wAll qs)).Perm (q.1.map Prod.snd ++ wAll qs)
    rw [← List.append_assoc, ← List.map_append, List.take_append_drop]
  | q :: qs, k + 1, j, h => by
    have ih := wAll_drain qs k j (by simpa using h)
    show (drR qs k j ++ (q.1.map Prod.snd ++ wAll (drQ qs k j))).Perm (q.1.map Prod.snd ++ wAll qs)
    exact (List.perm_append_comm_assoc _ _ _).trans (ih.append_left _)
/-- what was run, and what waits still -/
structure RanInv (q0 : Qs) (t : Sv) : Prop where
  perm : (t.ran ++ wAll t.qs).Perm (wAll q0)
  sub : ∀ j, ∃ d, (qAt t.qs j).1 = (qAt q0 j).1.drop d ∧ (((qAt q0 j).1.take d).map Prod.snd).Sublist t.ran
theorem ran_first (g : Gr) (q0 : Qs) (k : Nat) : RanInv q0 ⟨g, q0, [], k⟩ :=
  ⟨List.Perm.refl _, fun j => ⟨0, rfl, List.Sublist.refl _⟩⟩
theorem ran_turn {s : St} {q0 : Qs} {t : Sv} (h : SvOk s t) (hr : RanInv q0 t) : RanInv q0 (turnF t) := by
  have hk : t.k < (pkQ t).length := by rw [pk_len]; exact h.2.2
  have hat : ∀ j, (qAt (pkQ t) j).1 = (qAt t.qs j).1 := fun j => at_overs _ _ _ _
  refine ⟨?_, fun j => ?_⟩
  · show ((t.ran ++ drR (pkQ t) t.k _) ++ wAll (drQ (pkQ t) t.k _)).Perm _
    rw [List.append_assoc]
    refine ((wAll_drain (pkQ t) t.k _ hk).append_left _).trans ?_
    show (t.ran ++ wAll (overs _ _ _)).Perm _
    rw [wAll_overs]
    exact hr.perm
  · obtain ⟨d, h1, h2⟩ := hr.sub j
    show ∃ e, (qAt (drQ (pkQ t) t.k (drN (pkQ t) t.k)) j).1 = _ ∧ List.Sublist _ (t.ran ++ drR (pkQ t) t.k _)
    by_cases e : j = t.k
    · subst e
      refine ⟨d + drN (pkQ t) t.k, ?_, ?_⟩
      · unfold drQ
        show (((pkQ t).set t.k _)[t.k]?.getD ([], 0)).1 = _
        rw [List.getElem?_set_self hk]
        show (qAt (pkQ t) t.k).1.drop _ = _
        rw [hat, h1, List.drop_drop]
      · unfold drR
        rw [hat, h1, List.take_add, List.map_append]
        exact h2.append (List.Sublist.refl _)
    · refine ⟨d, ?_, h2.trans (List.sublist_append_left _ _)⟩
      unfold drQ
      show (((pkQ t).set t.k _)[j]?.getD ([], 0)).1 = _
      rw [List.getElem?_set_ne (Ne.symm e)]
      exact (hat j).trans h1
theorem wN_zero : ∀ {qs : Qs}, wN qs = 0 → wAll qs = [] ∧ ∀ j, (qAt qs j).1 = []
  | [], _ => ⟨rfl, fun j => rfl⟩
  | q :: qs, h => by
    unfold wN at h
    rw [List.map_cons, List.sum_cons] at h
    obtain ⟨h1, h2⟩ := wN_zero (qs := qs) (by unfold wN; omega)
    have hq : q.1 = [] := List.eq_nil_of_length_eq_zero (by omega)
    refine ⟨?_, fun j => ?_⟩
    · show q.1.map Prod.snd ++ wAll qs = []
      rw [hq, h1]; rfl
    · cases j with
      | zero => exact hq
      | succ j => exact h2 j
theorem idle_wN {s : St} {g : Gr} {qs : Qs} (h : idleB s g qs = true) : wN qs = 0 := by
  unfold idleB at h
  simp only [Bool.and_eq_true, decide_eq_true_eq] at h
  exact h.2.1
/-- what is settled is idle, may be, and has run all that waited -/
theorem settled {s : St} {t : Sv} (h : SvOk s t) (hr : t.ran = []) :
    SvOk s (setF s t) ∧ idleB s (setF s t).g (setF s t).qs = true ∧ (setF s t).ran.Perm (wAll t.qs) ∧ ∀ j, ((qAt t.qs j).1.map Prod.snd).Sublist (setF s t).ran := by
  obtain ⟨h1, h2, h3⟩ := setF_ind (s := s) (RanInv t.qs) (fun u hu hp _ => ran_turn hu hp) (mu t) t (Nat.le_refl _) h (by
    obtain ⟨g, qs, ran, k⟩ := t
    dsimp only at hr
    subst hr
    exact ran_first g qs k)
  obtain ⟨h4, h5⟩ := wN_zero (idle_wN h3)
  refine ⟨h2, h3, ?_, fun j => ?_⟩
  · have := h1.perm
    rw [h4, List.append_nil] at this
    exact this
  · obtain ⟨d, e1, e2⟩ := h1.sub j
    rw [h5 j] at e1
    rw [List.take_of_length_le (List.drop_eq_nil_iff.1 e1.symm)] at e2
    exact e2
/-- a row gone through beside another -/
def eatF : List Int → List Int → List Int
  | xs, [] => xs
  | [], _ => []
  | x :: xs, y :: l => if x = y then eatF xs l else eatF (x :: xs) l
end Go.Proofs.YtfipdoofgbjbjaaGreat

/- A range over a function whose iterator writes nothing old, and reads what its caller tells of: what its caller owes; a function with a label, by what each round starts with; marks among deferred calls. No condition. -/
namespace Go.Proofs.YtfipdoofgbjbjaaGreat
open Go.RowKit
/-- what the caller says abides new blocks -/
def StepsB (J : Nat → World → Prop) : Prop := ∀ k A B, J k A → Below A.heap.size A B → J k B
/-- the contract of an iterator that reads Rd k ahead of its k-th element -/
def ReadSeq (F : Fence) (m : Nat) (P : Program) (gf : Nat) (lb : Array Value) (vs : Nat → Array Value) (N : Nat) (Rd : Nat → World → Prop) : Prop :=
  ∀ (l : Nat) (J Jx : Nat → World → Prop) (W : World), StepsB J → (∀ k W1, k ≤ N → J k W1 → Rd k W1) →
    (∀ k W1, k < N → J k W1 → YieldAt F (m - 1) P l (vs k) W1 fun e W' => (e = .returned (.bool true) ∧ J (k + 1) W') ∨ (e = .returned (.bool false) ∧ Jx (k + 1) W')) →
    J 0 W → CallsIn F m P gf (#[.func (.yield l) #[] #[]] ++ lb) W fun e W' => (∃ v, e = .returned v) ∧ (J N W' ∨ ∃ k, Jx k W')
/-- the least of those -/
theorem least_of (p : Nat → Prop) : (∃ n, p n) → ∃ n, p n ∧ ∀ m, p m → n ≤ m := by
  rintro ⟨n, hn⟩
  induction n using Nat.strongRecOn with
  | ind n ih =>
    by_cases h : ∃ m, m < n ∧ p m
    · obtain ⟨m, hm, hpm⟩ := h
      exact ih m hm hpm
    · exact ⟨n, hn, fun m hm => Nat.le_of_not_lt fun hlt => h ⟨m, hlt, hm⟩⟩
open Classical in
noncomputable def leastN (p : Nat → Prop) : Nat := if h : ∃ n, p n then Classical.choose (least_of p h) else 0
/-- marks of blocks of rounds' deferred calls, none of which was made -/
def Marks (lo : Nat) (W : World) (bs : List Nat) : Prop := bs.Nodup ∧ ∀ b ∈ bs, lo ≤ b ∧ b < W.heap.size ∧ W.heap[b]? = some (.deferred (some []))
def markD (b : Nat) : Deferred := { target := .collected b, args := #[] }
theorem Marks.nil (lo : Nat) (W : World) : Marks lo W [] := ⟨List.nodup_nil, fun _ h => (by cases h)⟩
theorem Marks.keep {lo : Nat} {W W' : World} {bs : List Nat} (h : Marks lo W bs) (hk : ∀ (b : Nat) (o : Obj), W.heap[b]? = some o → o.isCells = false → W'.heap[b]? = some o) : Marks lo W' bs :=
  ⟨h.1, fun b hb => by
    obtain ⟨h1, h2, h3⟩ := h.2 b hb
    have h4 := hk b _ h3 rfl
    exact ⟨h1, (Array.getElem?_eq_some_iff.1 h4).1, h4⟩⟩
theorem Marks.cons {lo b : Nat} {W : World} {bs : List Nat} (h : Marks lo W bs) (hn : b ∉ bs) (hl : lo ≤ b) (hb : W.heap[b]? = some (.deferred (some []))) : Marks lo W (b :: bs) :=
  ⟨List.nodup_cons.2 ⟨hn, h.1⟩, fun c hc => by
    rcases List.mem_cons.1 hc with rfl | hc
    · exact ⟨hl, (Array.getElem?_eq_some_iff.1 hb).1, hb⟩
    · exact h.2 c hc⟩
end Go.Proofs.YtfipdoofgbjbjaaGreat

/- package rcu: what Settle's closure goes through: a pick, and a callback that is run. No condition but sizes. -/
namespace Go.Proofs.YtfipdoofgbjbjaaGreat
open Go.RowKit
theorem Blk.notOther {w : World} {b : Nat} {t : TypeId} {cs : Array Value} (h : Blk w b t cs) {o : Obj} (ho : w.heap[b]? = some o) : o.isCells = true := by
  unfold Blk at h
  rw [h] at ho
  cases ho
  rfl
theorem cell_isCells {w : World} {b i : Nat} {v : Value} (h : w.cell? ⟨b, i, none⟩ = some v) {o : Obj} (ho : w.heap[b]? = some o) : o.isCells = true := by
  unfold World.cell? at h
  cases o <;> simp [ho, Obj.isCells] at h ⊢
section
variable {w w' : World} {l gc : Nat} {s : St} {g : Gr} {es : List Qe} {is what : Int} {ran : List Int} {a : Ra} {R : Option Addr} {nr kr : Nat}
/-- a block that is no cells is turned -/
theorem CA.abides (h : CA w l gc s g es is what ran a R nr kr) {row : Option Nat} (hg : w.grownBy w' row) (hr : ∀ r, row = some r → ∃ o : Obj, w.heap[r]? = some o ∧ o.isCells = false) : CA w' l gc s g es is what ran a R nr kr := by
  have ne : ∀ b t cs, Blk w b t cs → some b ≠ row := fun b t cs hb e => by
    obtain ⟨o, ho, hc⟩ := hr b e.symm
    rw [hb.notOther ho] at hc; cases hc
  refine ⟨h.box.abides hg hr, ⟨h.ro.oa.abides hg hr, h.ro.ob.abides hg hr, h.ro.apart, h.ro.hn, h.ro.hm⟩, h.gd.abides hg hr, h.qs.keptG hg (fun b hb => ?_), h.rn.abides hg hr, fun x hx => ?_, h.lg⟩
  · obtain ⟨_, cs, hk⟩ := h.qs.blk b hb
    exact ne _ _ _ hk
  · obtain ⟨k1, k2⟩ := h.qe x hx
    refine ⟨k1.keptP (p := fun i => some i = row) ⟨hg.os, hg.tape, hg.output, hg.size, fun i hi hp => hg.block i hi hp⟩ (fun hn b hb e => ?_), k2⟩
    obtain ⟨b', off, e2, _, _, hc⟩ := k1.sm.row hn
    rw [hb] at e2
    cases e2
    obtain ⟨o, ho, hoc⟩ := hr _ e.symm
    rw [cell_isCells (hc 0 hn 0 (by omega)) ho] at hoc
    cases hoc
theorem CA.boxes (h : CA w l gc s g es is what ran a R nr kr) (hg : GrownP (CS gc a.Q R) w w') : ∀ b cs, Blk w b 72 cs → Blk w' b 72 cs := fun b cs hb => by
  refine (hg.block b hb.lt ?_).trans hb
  rintro (rfl | ⟨c, hc, rfl⟩ | ⟨c, hc, rfl⟩)
  · exact h.box.neT hb (by decide) rfl
  · obtain ⟨_, ds, q⟩ := h.qs.blk c hc
    exact q.neT hb (by decide) rfl
  · obtain ⟨_, ds, q⟩ := h.rn.blk c hc
    exact q.neT hb (by decide) rfl
end
/-- what a cpu holds, in settling -/
def SA (w : World) (l gc : Nat) (s : St) (t : Sv) : Prop := ∃ a es what R kr, ql es = t.qs ∧ CA w l gc s t.g es t.k what t.ran a R t.ran.length kr
theorem SA.step {w w' : World} {l gc : Nat} {s : St} {t : Sv} (h : SA w l gc s t) (hb : Below w.heap.size w w') : SA w' l gc s t := by
  obtain ⟨a, es, what, R, kr, h1, h2⟩ := h
  exact ⟨a, es, what, R, kr, h1, h2.step hb⟩
theorem SA.abides {w w' : World} {l gc : Nat} {s : St} {t : Sv} (h : SA w l gc s t) {row : Option Nat} (hg : w.grownBy w' row) (hr : ∀ r, row = some r → ∃ o : Obj, w.heap[r]? = some o ∧ o.isCells = false) : SA w' l gc s t := by
  obtain ⟨a, es, what, R, kr, h1, h2⟩ := h
  exact ⟨a, es, what, R, kr, h1, h2.abides hg hr⟩
def SPost (w : World) (l gc : Nat) (s : St) (t : Sv) (x : Ending) (w' : World) : Prop := x = .returned (.tuple #[]) ∧ SA w' l gc s t ∧ GrownP (fun i => l ≤ i) w w' ∧ KeepsOthers w w' ∧ ∀ b cs, Blk w b 72 cs → Blk w' b 72 cs
end Go.Proofs.YtfipdoofgbjbjaaGreat

/- afterglowref14: turn. No condition but sizes. -/
namespace Go.Proofs.YtfipdoofgbjbjaaGreat
open Go.RowKit
attribute [local go_sem] Oper.semAt_some
def lenOf : Value → Nat
  | .slice _ n _ => n
  | _ => 0
/-- those blocks, and that of a row -/
def pOut (p : Nat → Prop) (B : Option Addr) : Nat → Prop := fun i => p i ∨ ∃ b, B = some b ∧ b.block = i
theorem RcP.appended {p : Nat → Prop} {w w' : World} {s : St} {g : Gr} {es : List Qe} {a : Ra} {B A' : Option Addr} {n c n' c' : Nat} (h : RcP (pOut p B) w s g es a) (hg : w.grownBy w' (Value.slice B n c).ownBlock)
    (hat : (Value.slice A' n' c').ownBlock = (Value.slice B n c).ownBlock ∨ (Value.slice A' n' c').ownBlock = some w.heap.size) : RcP (pOut p A') w' s g es a := fun w2 k =>
  h.fresh w2 (((GrownP.refl _ _).thenG hg (fun r e => .inr (.inl (.inr (own_addr e))))).trans (k.mono (fun i hi => by
    rcases hi with hi | ⟨b, hb, rfl⟩
    · exact .inl (.inl hi)
    · have e1 : (Value.slice A' n' c').ownBlock = some b.block := by rw [hb]; rfl
      rcases hat with e2 | e2
      · rw [e1] at e2
        exact .inl (.inr (own_addr e2.symm))
      · rw [e1] at e2
        exact .inr (by have := Option.some.inj e2; omega))))
/-- what turn hands back -/
def TuP (p : Nat → Prop) (w : World) (s : St) (g : Gr) (qs : Qs) (ran : List Int) (x : Ending) (w' : World) : Prop :=
  ∃ a es B m d, x = .returned (.tuple #[rcv s g a, .slice B m d]) ∧ ql es = qs ∧ a.nq = es.length ∧ RcP p w' s g es a ∧ Ow u64v w' w.heap.size 35 B m d ran ∧ Below w.heap.size w w'
end Go.Proofs.YtfipdoofgbjbjaaGreat

/- package rcu: the callbacks that are done, as one ranges over them. No condition but sizes. -/
namespace Go.Proofs.YtfipdoofgbjbjaaGreat
open Go.RowKit Go.Shelf
attribute [local go_sem] Oper.semAt_some
/-- behind j callbacks of a turn -/
def tJ (g : Gr) (qs : Qs) (ran : List Int) (k j : Nat) : Sv := ⟨g, drQ qs k j, ran ++ drR qs k j, k⟩
def RdS (l gc gb : Nat) (s : St) (g : Gr) (qs : Qs) (ran : List Int) (k j : Nat) (w : World) : Prop := Blk w gb 72 #[ptr gc] ∧ SA w l gc s (tJ g qs ran k j)
end Go.Proofs.YtfipdoofgbjbjaaGreat

/- package rcu: Settle. No condition but sizes, and that numbers are of their kinds. -/
namespace Go.Proofs.YtfipdoofgbjbjaaGreat
open Go.RowKit Go.Shelf
attribute [local go_sem] Oper.semAt_some
theorem SvOk.run {s : St} {t : Sv} (h : SvOk s t) (j : Nat) : RcGood s (gPick t.g t.k true) (drQ (pkQ t) t.k j) := good_drain (good_pick h) _ _ (by rw [pk_len]; exact h.2.2)
/-- what holds at the label -/
def LbJ (w : World) (l gc gb : Nat) (s : St) (t0 : Sv) (t : Sv) (bs : List Nat) (W : World) : Prop :=
  SvOk s t ∧ SA W l gc s t ∧ setF s t = setF s t0 ∧ Blk W gb 72 #[ptr gc] ∧ Marks l W bs ∧ GrownP (fun i => l ≤ i) w W ∧ t.ran.length + wN t.qs ≤ 8000
def StJ (w : World) (l gc gb : Nat) (s : St) (t0 : Sv) (t : Sv) (a : Act) (W : World) : Prop :=
  ∃ (bs : List Nat) (u2 u3 u4 u5 u6 u7 u8 u9 u10 u11 u12 u13 u14 u15 u16 u17 u18 u19 u20 u21 u22 u23 u24 u25 u26 u27 u28 u29 u30 u31 u32 u33 u34 u35 : Value), a = { tmps := #[ptr gc, ptr gb, u2, u3, u4, u5, u6, u7, u8, u9, u10, u11, u12, u13, u14, u15, u16, u17, u18, u19, u20, u21, u22, u23, u24, u25, u26, u27, u28, u29, u30, u31, u32, u33, u34, u35], defers := bs.map markD } ∧ LbJ w l gc gb s t0 t bs W
def sv0 (g : Gr) (es : List Qe) : Sv := ⟨g, ql es, [], 0⟩
/-- Settle: the error, and all that is held -/
def settleC (s : St) (g : Gr) (es : List Qe) : Int × St × Gr × Qs × List Int :=
  if RcOk s g es then (if quietB s then (0, s, (setF s (sv0 g es)).g, (setF s (sv0 g es)).qs, (setF s (sv0 g es)).ran) else (241, (0, [], []), zGr, [], [])) else (240, (0, [], []), zGr, [], [])
/-- what Settle hands back, as the laws use it -/
def SeP (r : Int × St × Gr × Qs × List Int) (w : World) (x : Ending) (w' : World) : Prop :=
  ∃ a es R kr, x = .returned (.tuple #[rcv r.2.1 r.2.2.1 a, .slice R r.2.2.2.2.length kr, .int .i64 r.1]) ∧ ql es = r.2.2.2.1 ∧ a.nq = es.length ∧ RcP (fun i => i < w.heap.size) w' r.2.1 r.2.2.1 es a ∧ Ow u64v w' w.heap.size 35 R r.2.2.2.2.length kr r.2.2.2.2 ∧ Below w.heap.size w w'
end Go.Proofs.YtfipdoofgbjbjaaGreat

/- afterglowref14: Settle. No condition but sizes. -/
namespace Go.Proofs.YtfipdoofgbjbjaaGreat
open Go.RowKit
attribute [local go_sem] Oper.semAt_some
def SJ (pp : Nat → Prop) (w : World) (s : St) (F t : Sv) (B : Option Addr) (m d : Nat) (wr : World) : Prop :=
  ∃ a es, SvOk s t ∧ setF s t = F ∧ t.ran.length + wN t.qs ≤ 8000 ∧ ql es = t.qs ∧ a.nq = es.length ∧ Blk wr w.heap.size 30 (rcells s t.g a) ∧ Blk wr (w.heap.size + 1) 30 #[.int .i64 0, .slice none 0 0, .slice none 0 0, .int .i64 0, .int .i64 0, .bool false, .slice none 0 0, .slice none 0 0] ∧
    RcP (pOut pp B) wr s t.g es a ∧ Ow u64v wr (w.heap.size + 2) 35 B m d t.ran ∧ Below w.heap.size w wr ∧ w.heap.size + 2 ≤ wr.heap.size
noncomputable def lbM (pp : Nat → Prop) (w : World) (s : St) (F : Sv) (o : Value) (wr : World) : Nat := leastN (fun n => ∃ (t : Sv) (B : Option Addr) (m d : Nat), o = .slice B m d ∧ t.k = 0 ∧ SJ pp w s F t B m d wr ∧ mu t = n)
end Go.Proofs.YtfipdoofgbjbjaaGreat

/- afterglowref14: Right. No condition but sizes, and that numbers are of their kinds. -/
namespace Go.Proofs.YtfipdoofgbjbjaaGreat
open Go.RowKit
attribute [local go_sem] Oper.semAt_some
def qOk (g : Gr) (x : List Cb × Int) : Prop := QGood x.2 x.1 ∧ x.2 = g.dn ∧ ∀ c ∈ x.1, c.1 ≤ g.ak
instance {s : St} {g : Gr} {qs : Qs} : Decidable (RcGood s g qs) := by unfold RcGood Both; infer_instance
theorem good14_head {s : St} {g : Gr} {qs : Qs} (h : ¬ (Good s.1 s.2.1 s.2.2 ∧ GrOk g ∧ g.nd.length = s.2.1.length ∧ qs.length = s.2.1.length)) : ¬ RcGood s g qs := fun ⟨⟨h1, h2, h3⟩, h4, _⟩ => h ⟨h1, h2, h3.symm, by omega⟩
theorem good14_row {s : St} {g : Gr} {qs : Qs} {j : Nat} (hj : j < qs.length) (h : ¬ qOk g (qAt qs j)) : ¬ RcGood s g qs := fun ⟨_, _, h5⟩ => h (h5 _ (qAt_mem hj))
theorem good14_all {s : St} {g : Gr} {qs : Qs} (h1 : Good s.1 s.2.1 s.2.2) (h2 : GrOk g) (h3 : g.nd.length = s.2.1.length) (h4 : qs.length = s.2.1.length) (h : ∀ j, j < qs.length → qOk g (qAt qs j)) : RcGood s g qs :=
  ⟨⟨h1, h2, h3.symm⟩, by omega, fun q hq => by
    obtain ⟨j, hj, rfl⟩ := List.getElem_of_mem hq
    have := h j hj
    unfold qAt at this
    rw [List.getElem?_eq_getElem hj] at this
    exact this⟩
set_option maxRecDepth 100000 in
set_option maxHeartbeats 8000000 in
theorem rright14_any (s : St) (g : Gr) (es : List Qe) (a : Ra) (w : World) (h : RcR w s g es a) :
    Calls Tryz.prog 9 #[rcv s g a] w fun e w' => e = .returned (.bool (decide (RcGood s g (ql es)))) ∧ Below w.heap.size w w' := by
  have HR := hid h; have HB := hid (Below.refl w.heap.size w)
  have HNX := hid h.rd.lenx; have HNQ := hid h.qs.len; have HQL := hid h.ql; have HNL := hid h.gl; have HNN := hid h.rd.hn
  obtain ⟨V, hV⟩ : ∃ V, V = decide (RcGood s g (ql es)) := ⟨_, rfl⟩
  rw [← hV]
  have HY := hid (fun h : RcGood s g (ql es) => show V = true by rw [hV]; exact decide_eq_true h); have HN := hid (fun h : ¬ RcGood s g (ql es) => show V = false by rw [hV]; exact decide_eq_false h)
  clear h hV
  have bx := below_box w (.cells (rcells s g a) 30)
  replace HR := hid (HR.out.step bx); replace HB := hid (below_then HB.out bx)
  clear bx
  have PR := hid (Blk.new w 30 (rcells s g a))
  go_enter Tryz.func9, Tryz.ntmps9
  obtain ⟨y00, y01, y02, y03, y04, y05, y06, y07, yf0⟩ := PR.out.cells8
  go_wp2_with fail
  clear y00 y01 y02 y03 y04 y05 y06 y07 yf0
  have hz0 := hid (show (w.alloc (.cells (rcells s g a) 30)).heap.size = w.heap.size + 1 by simp)
  generalize w.alloc (.cells (rcells s g a) 30) = W0 at *
  clear hz0
  refine (right_any s.1 a.A a.n a.k a.B a.m a.d s.2.1 s.2.2 _ HR.out.rd).mono ?_
  rintro e w1 ⟨rfl, hb⟩
  replace HR := hid (HR.out.step hb); replace PR := hid (PR.out.step hb); replace HB := hid (below_then HB.out hb)
  clear hb
  by_cases h1 : Good s.1 s.2.1 s.2.2
  rotate_left
  ·skip
   rw [decide_eq_false h1]
   have HF := hid (HN.out (good14_head (fun h => h1 h.1)))
   go_wp2
   go_ret
   exact ⟨ret_bool HF.out.symm, HB.out⟩
  rw [decide_eq_true h1]
  obtain ⟨y00, y01, y02, y03, y04, y05, y06, y07, yf0⟩ := PR.out.cells8
  go_wp2_with fail
  clear y00 y01 y02 y03 y04 y05 y06 y07 yf0
  refine (rgright_any g a.D a.kd _ HR.out.gd (by have := HNL.out; omega)).mono ?_
  rintro e w2 ⟨rfl, hb⟩
  replace HR := hid (HR.out.step hb); replace PR := hid (PR.out.step hb); replace HB := hid (below_then HB.out hb)
  clear hb
  by_cases h2 : GrOk g
  rotate_left
  ·skip
   rw [decide_eq_false h2]
   have HF := hid (HN.out (good14_head (fun h => h2 h.2.1)))
   go_wp2
   go_ret
   exact ⟨ret_bool HF.out.symm, HB.out⟩
  rw [decide_eq_true h2]
  by_cases h3 : g.nd.length = s.2.1.length
  rotate_left
  ·skip
   have d1 : ((g.nd.length : Int) != (a.n : Int)) = true := by simp; rw [← HNX.out]; omega
   obtain ⟨y00, y01, y02, y03, y04, y05, y06, y07, yf0⟩ := PR.out.cells8
   have HF := hid (HN.out (good14_head (fun h => h3 h.2.2.1)))
   go_wp2
   go_ret
   exact ⟨ret_bool HF.out.symm, HB.out⟩
  have H3 := hid h3
  clear h3
  by_cases h4 : a.nq = s.2.1.length
  rotate_left
  ·skip
   have d1 : ((g.nd.length : Int) != (a.n : Int)) = false := by simp; rw [← HNX.out]; have := H3.out; omega
   have d2 : ((a.nq : Int) != (a.n : Int)) = true := by simp; rw [← HNX.out]; omega
   obtain ⟨y00, y01, y02, y03, y04, y05, y06, y07, yf0⟩ := PR.out.cells8
   have HF := hid (HN.out (good14_head (fun h => h4 (by rw [← HNQ.out, ← ql_len]; exact h.2.2.2))))
   go_wp2
   go_ret
   exact ⟨ret_bool HF.out.symm, HB.out⟩
  have H4 := hid h4
  clear h4
  have d1 : ((g.nd.length : Int) != (a.n : Int)) = false := by simp; rw [← HNX.out]; have := H3.out; omega
  have d2 : ((a.nq : Int) != (a.n : Int)) = false := by simp; rw [← HNX.out]; have := H4.out; omega
  obtain ⟨y00, y01, y02, y03, y04, y05, y06, y07, yf0⟩ := PR.out.cells8
  go_wp2_with fail
  clear d1 d2 y00 y01 y02 y03 y04 y05 y06 y07 yf0
  have HALL := hid (good14_all (qs := ql es) h1 h2 H3.out (by rw [ql_len, HNQ.out]; exact H4.out))
  have HGO := hid h2
  have HB0 := hid (Below.refl w2.heap.size w2)
  clear h1 h2 H3 H4
  go_loopw [40] (fun i wr => ∃ j : Nat, j ≤ a.nq ∧ i = .int .i64 j ∧ (∀ k, k < j → qOk g (qAt (ql es) k)) ∧ Below w2.heap.size w2 wr) (fun i _ => a.nq - (intOf i).toNat)
  case atStart => exact ⟨0, Nat.zero_le _, rfl, fun k hk => absurd hk (Nat.not_lt_zero _), HB0.out⟩
  case round =>
    obtain ⟨j, hj, rfl, ha, hbw⟩ := hrel
    have HBW := hid hbw; have HA := hid ha
    clear hbw ha HB0
    by_cases hjn : j < a.nq
    rotate_left
    · obtain rfl : j = a.nq := by omega
      have hnn : ¬ ((a.nq : Int) < (a.nq : Int)) := by omega
      have HV2 := hid (HY.out (HALL.out (fun k hk => HA.out k (by rw [ql_len, HNQ.out] at hk; exact hk))))
      go_wp2
      go_ret
      exact ⟨ret_bool HV2.out.symm, below_then HB.out HBW.out⟩
    replace HR := hid (HR.out.step HBW.out); replace PR := hid (PR.out.step HBW.out); replace HB := hid (below_then HB.out HBW.out)
    obtain ⟨b, off, hQ, _, hbh, hc⟩ := HR.out.qs.row (by omega)
    obtain ⟨x, hx⟩ : ∃ x, x = es[j]?.getD zQe := ⟨_, rfl⟩
    have f0 := hc j hjn 0 (by omega)
    have f1 := hc j hjn 1 (by omega)
    rw [← hx] at f0 f1
    have hjl : j < es.length := by rw [HNQ.out]; exact hjn
    have HJL := hid (show j < (ql es).length by rw [ql_len]; exact hjl)
    have hqa : qAt (ql es) j = (x.l, x.o) := by rw [hx]; unfold qAt ql; rw [List.getElem?_map, List.getElem?_eq_getElem hjl]; rfl
    have HX := hid (HR.out.qe x (show x ∈ es by rw [hx, List.getElem?_eq_getElem hjl]; exact List.getElem_mem _))
    have HQA := hid hqa
    obtain ⟨xl, xo, xA, xn, xc⟩ := x
    replace f0 : wr.cell? ⟨b, off + j * 2, none⟩ = some (.slice xA xn xc) := f0
    replace f1 : wr.cell? ⟨b, off + j * 2 + 1, none⟩ = some (.int .u64 xo) := f1
    have hji : (j : Int) < (a.nq : Int) := by omega
    have hw1 : IntKind.i64.wrap ((j : Int) + 1) = (j : Int) + 1 := by rw [IntKind.wrap_i64]; have := HQL.out; omega
    clear hc hbh hx hjl hqa
    rw [hQ]
    have HBQ := hid (Below.refl wr.heap.size wr)
    have bx := below_box wr (.cells #[.slice xA xn xc, .int .u64 xo] 58)
    replace HR := hid (HR.out.step bx); replace PR := hid (PR.out.step bx); replace HX := hid (HX.out.step bx); replace HB := hid (below_then HB.out bx); replace HBQ := hid (below_then HBQ.out bx)
    clear bx
    have PT := hid (Blk.new wr 58 #[.slice xA xn xc, .int .u64 xo])
    go_wp2_with fail
    clear f0 f1 hji hQ
    generalize wr.alloc (.cells #[.slice xA xn xc, .int .u64 xo] 58) = W3 at *
    refine (qright_any xA xn xc xo xl _ HX.out.1 (by have := HX.out.2.2.1; dsimp only at this; omega) HX.out.2.1 HX.out.2.2.2.1).mono ?_
    rintro e w4 ⟨rfl, hb⟩
    replace HR := hid (HR.out.step hb); replace PR := hid (PR.out.step hb); replace HX := hid (HX.out.step hb); replace PT := hid (PT.out.step hb); replace HB := hid (below_then HB.out hb); replace HBQ := hid (below_then HBQ.out hb)
    clear hb
    by_cases h1 : QGood xo xl
    rotate_left
    ·skip
     rw [decide_eq_false h1]
     have HF := hid (HN.out (good14_row HJL.out (fun h => h1 (by have := h.1; rw [HQA.out] at this; exact this))))
     go_wp2
     go_ret
     exact ⟨ret_bool HF.out.symm, HB.out⟩
    rw [decide_eq_true h1]
    have hw2 : IntKind.u64.wrap g.dn = g.dn := by rw [IntKind.wrap_u64]; obtain ⟨_, _, g3, _⟩ := HGO.out; have := HR.out.gi; omega
    have hw3 : IntKind.u64.wrap g.ak = g.ak := by rw [IntKind.wrap_u64]; obtain ⟨_, _, g3, g4, _⟩ := HGO.out; have := HR.out.gi; split at g4 <;> omega
    by_cases h5 : xo = g.dn
    rotate_left
    ·skip
     have d1 : (xo != g.dn) = true := by simpa using h5
     obtain ⟨y00, y01, y02, y03, y04, y05, y06, y07, yf0⟩ := PR.out.cells8
     obtain ⟨y10, y11, yf1⟩ := PT.out.cells2
     have HF := hid (HN.out (good14_row HJL.out (fun h => h5 (by have := h.2.1; rw [HQA.out] at this; exact this))))
     go_wp2
     go_ret
     exact ⟨ret_bool HF.out.symm, HB.out⟩
    subst h5
    have d1 : (g.dn != g.dn) = false := by simp
    obtain ⟨y00, y01, y02, y03, y04, y05, y06, y07, yf0⟩ := PR.out.cells8
    obtain ⟨y10, y11, yf1⟩ := PT.out.cells2
    go_wp2_with fail
    clear d1 y10 y11 yf1 y00 y01 y02 y03 y04 y05 y06 y07 yf0
    have H1 := hid h1
    have HB4 := hid (Below.refl w4.heap.size w4); have HXL := hid HX.out.1.len
    have HXM := hid (show xn ≤ 1000 from HX.out.2.2.1)
    clear h1
    go_loopw [59] (fun i wq => ∃ k : Nat, k ≤ xn ∧ i = .int .i64 k ∧ (∀ n, n < k → (xl[n]?.getD (0, 0)).1 ≤ g.ak) ∧ Below w4.heap.size w4 wq) (fun i _ => xn - (intOf i).toNat)
    case atStart => exact ⟨0, Nat.zero_le _, rfl, fun n hn => absurd hn (Nat.not_lt_zero _), HB4.out⟩
    case round =>
      obtain ⟨k, hk, rfl, ha, hbq⟩ := hrel
      have HBK := hid hbq; have HAK := hid ha
      clear hbq ha HB4
      by_cases hkn : k < xn
      rotate_left
      · obtain rfl : k = xn := by omega
        have hnn : ¬ ((k : Int) < (k : Int)) := by omega
        clear hw2 hw3
        have HQO := hid (show qOk g (qAt (ql es) j) by
          rw [HQA.out]
          refine ⟨H1.out, rfl, fun c hc => ?_⟩
          obtain ⟨n, hn, rfl⟩ := List.getElem_of_mem hc
          have := HAK.out n (by rw [HXL.out] at hn; exact hn)
          rw [List.getElem?_eq_getElem hn] at this
          exact this)
        clear H1 HAK
        go_wp2_with fail
        refine ⟨⟨j + 1, by omega, rfl, fun n hn => ?_, below_then HBW.out (below_then HBQ.out HBK.out)⟩, ?_⟩
        · rcases Nat.lt_or_ge n j with h | h
          · exact HA.out n h
          · obtain rfl : n = j := by omega
            exact HQO.out
        · have h1 : intOf (.int .i64 ((j : Int) + 1)) = (j : Int) + 1 := rfl
          have h2 : intOf (.int .i64 (j : Int)) = (j : Int) := rfl
          rw [h1, h2]; omega
      replace HR := hid (HR.out.step HBK.out); replace PR := hid (PR.out.step HBK.out); replace HB := hid (below_then HB.out HBK.out); replace HX := hid (HX.out.step HBK.out)
      obtain ⟨b', off', hA, _, hbh, hc⟩ := HX.out.1.row (by dsimp only; omega)
      obtain ⟨y, hy⟩ : ∃ y, y = xl[k]?.getD (0, 0) := ⟨_, rfl⟩
      have f0 := hc k hkn 0 (by omega)
      have f1 := hc k hkn 1 (by omega)
      dsimp only at f0 f1 hA
      rw [← hy] at f0 f1
      have HYY := hid hy
      obtain ⟨yp, yv⟩ := y
      replace f0 : wr.cell? ⟨b', off' + k * 2, none⟩ = some (.int .u64 yp) := f0
      replace f1 : wr.cell? ⟨b', off' + k * 2 + 1, none⟩ = some (.int .u64 yv) := f1
      have hki : (k : Int) < (xn : Int) := by omega
      have hw4 : IntKind.i64.wrap ((k : Int) + 1) = (k : Int) + 1 := by rw [IntKind.wrap_i64]; have := HXM.out; omega
      clear hc hbh hy
      rw [hA]
      have HBK2 := HBK
      have bx := below_box wr (.cells #[.int .u64 yp, .int .u64 yv] 60)
      replace HR := hid (HR.out.step bx); replace PR := hid (PR.out.step bx); replace HX := hid (HX.out.step bx); replace HB := hid (below_then HB.out bx); replace HBK2 := hid (below_then HBK2.out bx)
      clear bx
      have PC := hid (Blk.new wr 60 #[.int .u64 yp, .int .u64 yv])
      obtain ⟨y00, y01, y02, y03, y04, y05, y06, y07, yf0⟩ := PR.out.cells8
      obtain ⟨y10, y11, yf1⟩ := PC.out.cells2
      by_cases h6 : g.ak < yp
      ·skip
       have HF := hid (HN.out (good14_row HJL.out (fun h => by have h7 := h.2.2 (yp, yv) (by rw [HQA.out]; dsimp only; rw [HYY.out, List.getElem?_eq_getElem (by rw [HXL.out]; exact hkn)]; exact List.getElem_mem _); dsimp only at h7; omega)))
       go_wp2
       go_ret
       exact ⟨ret_bool HF.out.symm, HB.out⟩
      ·skip
       go_wp2_with fail
       refine ⟨⟨k + 1, by omega, rfl, fun n hn => ?_, HBK2.out⟩, ?_⟩
       · rcases Nat.lt_or_ge n k with h | h
         · exact HAK.out n h
         · obtain rfl : n = k := by omega
           rw [← HYY.out]; dsimp only; omega
       · have h1 : intOf (.int .i64 ((k : Int) + 1)) = (k : Int) + 1 := rfl
         have h2 : intOf (.int .i64 (k : Int)) = (k : Int) := rfl
         rw [h1, h2]; omega
end Go.Proofs.YtfipdoofgbjbjaaGreat

/- afterglowref14: Same. No condition but sizes, and that numbers are of their kinds. -/
namespace Go.Proofs.YtfipdoofgbjbjaaGreat
open Go.RowKit
attribute [local go_sem] Oper.semAt_some
def sameRc (s : St) (g : Gr) (qs : Qs) (s' : St) (g' : Gr) (qs' : Qs) : Bool := sameR s.1 s.2.1 s.2.2 s'.1 s'.2.1 s'.2.2 && (sameG g g' && decide (qs = qs'))
theorem sameRc_refl (s : St) (g : Gr) (qs : Qs) : sameRc s g qs s g qs = true := by unfold sameRc sameR sameG; simp
theorem sameRc_no {s : St} {g : Gr} {qs : Qs} {s' : St} {g' : Gr} {qs' : Qs} (h : ¬ qs = qs') : sameRc s g qs s' g' qs' = false := by unfold sameRc; rw [decide_eq_false h]; simp
theorem qs_ext {qs qs' : Qs} (hl : qs.length = qs'.length) (h : ∀ j, j < qs.length → qAt qs j = qAt qs' j) : qs = qs' :=
  List.ext_getElem hl fun j h1 h2 => by
    have := h j h1
    unfold qAt at this
    rw [List.getElem?_eq_getElem h1, List.getElem?_eq_getElem h2] at this
    exact this
set_option maxRecDepth 100000 in
set_option maxHeartbeats 8000000 in
theorem rsame14_any (s : St) (g : Gr) (es : List Qe) (a : Ra) (s' : St) (g' : Gr) (es' : List Qe) (a' : Ra) (w : World) (h : RcR w s g es a) (h' : RcR w s' g' es' a') :
    Calls Tryz.prog 12 #[rcv s g a, rcv s' g' a'] w fun e w' => e = .returned (.bool (sameRc s g (ql es) s' g' (ql es'))) ∧ Below w.heap.size w w' := by
  have HR := hid h; have HT := hid h'; have HB := hid (Below.refl w.heap.size w)
  have HNQ := hid h.qs.len; have HNT := hid h'.qs.len; have HQL := hid h.ql; have HQT := hid h'.ql; have HNL := hid h.gl; have HNM := hid h'.gl
  obtain ⟨V, hV⟩ : ∃ V, V = sameRc s g (ql es) s' g' (ql es') := ⟨_, rfl⟩
  rw [← hV]
  have HV := hid hV
  clear h h' hV
  have bx := below_box w (.cells (rcells s g a) 30)
  replace HR := hid (HR.out.step bx); replace HT := hid (HT.out.step bx); replace HB := hid (below_then HB.out bx)
  clear bx
  have PR := hid (Blk.new w 30 (rcells s g a))
  have bx := below_box (w.alloc (.cells (rcells s g a) 30)) (.cells (rcells s' g' a') 30)
  replace HR := hid (HR.out.step bx); replace HT := hid (HT.out.step bx); replace PR := hid (PR.out.step bx); replace HB := hid (below_then HB.out bx)
  clear bx
  have PS := hid (Blk.new2 w 30 (rcells s' g' a') (.cells (rcells s g a) 30))
  go_enter Tryz.func12, Tryz.ntmps12
  obtain ⟨y00, y01, y02, y03, y04, y05, y06, y07, yf0⟩ := PR.out.cells8
  obtain ⟨y10, y11, y12, y13, y14, y15, y16, y17, yf1⟩ := PS.out.cells8
  go_wp2_with fail
  clear y00 y01 y02 y03 y04 y05 y06 y07 yf0 y10 y11 y12 y13 y14 y15 y16 y17 yf1
  have hz0 := hid (show ((w.alloc (.cells (rcells s g a) 30)).alloc (.cells (rcells s' g' a') 30)).heap.size = w.heap.size + 2 by simp)
  generalize (w.alloc (.cells (rcells s g a) 30)).alloc (.cells (rcells s' g' a') 30) = W0 at *
  clear hz0
  refine (rsame_any s.1 a.A a.n a.k a.B a.m a.d s.2.1 s.2.2 s'.1 a'.A a'.n a'.k a'.B a'.m a'.d s'.2.1 s'.2.2 _ HR.out.rd HT.out.rd).mono ?_
  rintro e w1 ⟨rfl, hb⟩
  replace HR := hid (HR.out.step hb); replace HT := hid (HT.out.step hb); replace PR := hid (PR.out.step hb); replace PS := hid (PS.out.step hb); replace HB := hid (below_then HB.out hb)
  clear hb
  rcases h1 : sameR s.1 s.2.1 s.2.2 s'.1 s'.2.1 s'.2.2 with _ | _
  ·skip
   have H1 := hid h1
   clear h1
   have HF := hid (show V = false by rw [HV.out]; unfold sameRc; rw [H1.out]; rfl)
   go_wp2
   go_ret
   exact ⟨ret_bool HF.out.symm, HB.out⟩
  have H1 := hid h1
  clear h1
  obtain ⟨y00, y01, y02, y03, y04, y05, y06, y07, yf0⟩ := PR.out.cells8
  obtain ⟨y10, y11, y12, y13, y14, y15, y16, y17, yf1⟩ := PS.out.cells8
  go_wp2_with fail
  clear y00 y01 y02 y03 y04 y05 y06 y07 yf0 y10 y11 y12 y13 y14 y15 y16 y17 yf1
  refine (rgsame_any g g' a.D a'.D a.kd a'.kd _ HR.out.gd HT.out.gd (by have := HNL.out; omega) (by have := HNM.out; omega)).mono ?_
  rintro e w2 ⟨rfl, hb⟩
  replace HR := hid (HR.out.step hb); replace HT := hid (HT.out.step hb); replace PR := hid (PR.out.step hb); replace PS := hid (PS.out.step hb); replace HB := hid (below_then HB.out hb)
  clear hb
  rcases h2 : sameG g g' with _ | _
  ·skip
   have H2 := hid h2
   clear h2
   have HF := hid (show V = false by rw [HV.out]; unfold sameRc; rw [H1.out, H2.out]; rfl)
   go_wp2
   go_ret
   exact ⟨ret_bool HF.out.symm, HB.out⟩
  have H2 := hid h2
  clear h2
  by_cases h3 : a.nq = a'.nq
  rotate_left
  ·skip
   have H3 := hid h3
   have d1 : ((a.nq : Int) != (a'.nq : Int)) = true := by simp; omega
   clear h3
   obtain ⟨y00, y01, y02, y03, y04, y05, y06, y07, yf0⟩ := PR.out.cells8
   obtain ⟨y10, y11, y12, y13, y14, y15, y16, y17, yf1⟩ := PS.out.cells8
   have HF := hid (show V = false by rw [HV.out]; exact sameRc_no (fun e => H3.out (by rw [← HNQ.out, ← HNT.out, ← ql_len, ← ql_len, e])))
   go_wp2
   go_ret
   exact ⟨ret_bool HF.out.symm, HB.out⟩
  have H3 := hid h3
  have d1 : ((a.nq : Int) != (a'.nq : Int)) = false := by simp; omega
  clear h3
  obtain ⟨y00, y01, y02, y03, y04, y05, y06, y07, yf0⟩ := PR.out.cells8
  obtain ⟨y10, y11, y12, y13, y14, y15, y16, y17, yf1⟩ := PS.out.cells8
  go_wp2_with fail
  clear d1 y00 y01 y02 y03 y04 y05 y06 y07 yf0 y10 y11 y12 y13 y14 y15 y16 y17 yf1
  have HYE := hid (fun h : ql es = ql es' => show V = true by rw [HV.out]; unfold sameRc; rw [H1.out, H2.out, decide_eq_true h]; rfl); have HNO := hid (fun h : ¬ ql es = ql es' => show V = false by rw [HV.out]; exact sameRc_no h)
  clear H1 H2 HV
  have HB0 := hid (Below.refl w2.heap.size w2)
  go_loopw [33] (fun i wr => ∃ j : Nat, j ≤ a.nq ∧ i = .int .i64 j ∧ (∀ k, k < j → qAt (ql es) k = qAt (ql es') k) ∧ Below w2.heap.size w2 wr) (fun i _ => a.nq - (intOf i).toNat)
  case atStart => exact ⟨0, Nat.zero_le _, rfl, fun k hk => absurd hk (Nat.not_lt_zero _), HB0.out⟩
  case round =>
    obtain ⟨j, hj, rfl, ha, hbw⟩ := hrel
    have HBW := hid hbw; have HA := hid ha
    clear hbw ha HB0
    by_cases hjn : j < a.nq
    rotate_left
    · obtain rfl : j = a.nq := by omega
      have hnn : ¬ ((a.nq : Int) < (a.nq : Int)) := by omega
      have HV2 := hid (HYE.out (qs_ext (by rw [ql_len, ql_len, HNQ.out, HNT.out]; exact H3.out) (fun k hk => HA.out k (by rw [ql_len, HNQ.out] at hk; exact hk))))
      go_wp2
      go_ret
      exact ⟨ret_bool HV2.out.symm, below_then HB.out HBW.out⟩
    replace HR := hid (HR.out.step HBW.out); replace HT := hid (HT.out.step HBW.out); replace PS := hid (PS.out.step HBW.out); replace HB := hid (below_then HB.out HBW.out)
    have hjm : j < a'.nq := by have := H3.out; omega
    have HJM := hid hjm
    obtain ⟨b, off, hQ, _, hbh, hc⟩ := HR.out.qs.row (by omega)
    obtain ⟨x, hx⟩ : ∃ x, x = es[j]?.getD zQe := ⟨_, rfl⟩
    have f0 := hc j hjn 0 (by omega)
    have f1 := hc j hjn 1 (by omega)
    rw [← hx] at f0 f1
    have hjl : j < es.length := by rw [HNQ.out]; exact hjn
    have hqa : qAt (ql es) j = (x.l, x.o) := by rw [hx]; unfold qAt ql; rw [List.getElem?_map, List.getElem?_eq_getElem hjl]; rfl
    have HX := hid (HR.out.qe x (show x ∈ es by rw [hx, List.getElem?_eq_getElem hjl]; exact List.getElem_mem _))
    have HQA := hid hqa
    obtain ⟨xl, xo, xA, xn, xc⟩ := x
    replace f0 : wr.cell? ⟨b, off + j * 2, none⟩ = some (.slice xA xn xc) := f0
    replace f1 : wr.cell? ⟨b, off + j * 2 + 1, none⟩ = some (.int .u64 xo) := f1
    obtain ⟨y, hy⟩ : ∃ y, y = es'[j]?.getD zQe := ⟨_, rfl⟩
    obtain ⟨b', off', hQ', _, hbh', hc'⟩ := HT.out.qs.row (by omega)
    have HCY := hid (show ∀ W', Below wr.heap.size wr W' → W'.cell? ⟨b', off' + j * 2, none⟩ = some (.slice y.A y.n y.c) ∧ W'.cell? ⟨b', off' + j * 2 + 1, none⟩ = some (.int .u64 y.o) from fun W' hb => by
      obtain ⟨b2, off2, hQ2, _, _, hc2⟩ := (HT.out.step hb).qs.row (by omega)
      rw [hQ'] at hQ2; cases hQ2
      have g0 := hc2 j hjm 0 (by omega)
      have g1 := hc2 j hjm 1 (by omega)
      rw [← hy] at g0 g1
      exact ⟨g0, g1⟩)
    have hjl' : j < es'.length := by rw [HNT.out]; exact hjm
    have hqb : qAt (ql es') j = (y.l, y.o) := by rw [hy]; unfold qAt ql; rw [List.getElem?_map, List.getElem?_eq_getElem hjl']; rfl
    have HY := hid (HT.out.qe y (show y ∈ es' by rw [hy, List.getElem?_eq_getElem hjl']; exact List.getElem_mem _))
    have HQB := hid hqb
    obtain ⟨yl, yo, yA, yn, yc⟩ := y
    dsimp only at HCY
    have hji : (j : Int) < (a.nq : Int) := by omega
    have hjk : (j : Int) < (a'.nq : Int) := by omega
    have hw1 : IntKind.i64.wrap ((j : Int) + 1) = (j : Int) + 1 := by rw [IntKind.wrap_i64]; have := HQL.out; omega
    clear hc hbh hx hjl hqa hy hqb hjl' hc' hbh'
    rw [hQ]
    have HBQ := hid (Below.refl wr.heap.size wr)
    have bx := below_box wr (.cells #[.slice xA xn xc, .int .u64 xo] 58)
    replace HR := hid (HR.out.step bx); replace HT := hid (HT.out.step bx); replace PS := hid (PS.out.step bx); replace HX := hid (HX.out.step bx); replace HY := hid (HY.out.step bx); replace HB := hid (below_then HB.out bx); replace HBQ := hid (below_then HBQ.out bx)
    clear bx
    have PT := hid (Blk.new wr 58 #[.slice xA xn xc, .int .u64 xo])
    go_upto_region 6 with fail
    clear f0 f1 hji hQ
    generalize wr.alloc (.cells #[.slice xA xn xc, .int .u64 xo] 58) = W3 at *
    have P0 := hid (show Blk W3 (w.heap.size + 1) 30 #[.int .i64 s'.1, .slice a'.A a'.n a'.k, .slice a'.B a'.m a'.d, .int .i64 g'.dn, .int .i64 g'.ak, .bool g'.on, .slice a'.D g'.nd.length a'.kd, .slice (some ⟨b', off', none⟩) a'.nq a'.kq] by have h := PS.out; unfold rcells at h; rw [hQ'] at h; exact h)
    clear hQ'
    have bx := (Below.refl W3.heap.size W3).drew
    replace HR := hid (HR.out.step bx); replace HT := hid (HT.out.step bx); replace PS := hid (PS.out.step bx); replace HX := hid (HX.out.step bx); replace HY := hid (HY.out.step bx); replace PT := hid (PT.out.step bx); replace P0 := hid (P0.out.step bx); replace HB := hid (below_then HB.out bx); replace HBQ := hid (below_then HBQ.out bx)
    clear bx
    have hszd := hid (show W3.drew.heap.size = W3.heap.size from rfl)
    refine wp_region_noPanic ?_
    refine wp_region_held_drew (S := (fun W' : World => W'.cell? ⟨w.heap.size + 1, 0, none⟩ = some (.int .i64 s'.1) ∧ W'.cell? ⟨w.heap.size + 1, 1, none⟩ = some (.slice a'.A a'.n a'.k) ∧ W'.cell? ⟨w.heap.size + 1, 2, none⟩ = some (.slice a'.B a'.m a'.d) ∧ W'.cell? ⟨w.heap.size + 1, 3, none⟩ = some (.int .i64 g'.dn) ∧ W'.cell? ⟨w.heap.size + 1, 4, none⟩ = some (.int .i64 g'.ak) ∧ W'.cell? ⟨w.heap.size + 1, 5, none⟩ = some (.bool g'.on) ∧ W'.cell? ⟨w.heap.size + 1, 6, none⟩ = some (.slice a'.D g'.nd.length a'.kd) ∧ W'.cell? ⟨w.heap.size + 1, 7, none⟩ = some (.slice (some ⟨b', off', none⟩) a'.nq a'.kq) ∧ W'.cell? ⟨wr.heap.size, 0, none⟩ = some (.slice xA xn xc) ∧ W'.cell? ⟨wr.heap.size, 1, none⟩ = some (.int .u64 xo) ∧ W'.cell? ⟨b', off' + j * 2, none⟩ = some (.slice yA yn yc) ∧ W'.cell? ⟨b', off' + j * 2 + 1, none⟩ = some (.int .u64 yo))) (by kernel_rfl) ⟨P0.out.cells8.1, P0.out.cells8.2.1, P0.out.cells8.2.2.1, P0.out.cells8.2.2.2.1, P0.out.cells8.2.2.2.2.1, P0.out.cells8.2.2.2.2.2.1, P0.out.cells8.2.2.2.2.2.2.1, P0.out.cells8.2.2.2.2.2.2.2.1, PT.out.cells2.1, PT.out.cells2.2.1, (HCY.out _ HBQ.out).1, (HCY.out _ HBQ.out).2⟩ (fun hS => ?_)
    generalize W3.drew = Wd at *
    refine tk 0 hS ?_
    refine tk 1 hS ?_
    refine tk 2 hS ?_
    refine tk 3 hS ?_
    refine tk 4 hS ?_
    refine tk 5 hS ?_
    refine rdy [6] (csy (fun K hK => ?_) AllReadyH.nil)
    go_simp
    refine (qrsame_any xA xn xc xo xl yA yn yc yo yl _ HX.out.1 HY.out.1 (by have := HX.out.2.2.1; dsimp only at this; omega) (by have := HY.out.2.2.1; dsimp only at this; omega)).mono ?_
    rintro e w6 ⟨rfl, hb⟩
    have hsz0 := hid (show Wd.heap.size ≤ w6.heap.size from hb.size)
    replace HR := hid (HR.out.step hb); replace HT := hid (HT.out.step hb); replace PS := hid (PS.out.step hb); replace HX := hid (HX.out.step hb); replace HY := hid (HY.out.step hb); replace PT := hid (PT.out.step hb); replace P0 := hid (P0.out.step hb); replace HB := hid (below_then HB.out hb); replace HBQ := hid (below_then HBQ.out hb)
    clear hb
    go_wp2_with fail
    clear hS
    refine ky hK ⟨P0.out.cells8.1, P0.out.cells8.2.1, P0.out.cells8.2.2.1, P0.out.cells8.2.2.2.1, P0.out.cells8.2.2.2.2.1, P0.out.cells8.2.2.2.2.2.1, P0.out.cells8.2.2.2.2.2.2.1, P0.out.cells8.2.2.2.2.2.2.2.1, PT.out.cells2.1, PT.out.cells2.2.1, (HCY.out _ HBQ.out).1, (HCY.out _ HBQ.out).2⟩ fun hS => ?_
    clear hK K
    refine tk 7 hS ?_
    refine wpAnyH_done (by kernel_rfl) ?_ _
    refine NoPanic.normal ?_
    clear hS
    rcases hs : sameQ xo xl yo yl with _ | _
    ·skip
     have HSQ := hid hs
     clear hs
     have HF := hid (HNO.out (fun e => by
       have h1 : qAt (ql es) j = qAt (ql es') j := by rw [e]
       rw [HQA.out, HQB.out] at h1
       have h2 := HSQ.out
       unfold sameQ at h2
       have := of_decide_eq_false h2
       simp only [Prod.mk.injEq] at h1
       exact this ⟨h1.2, h1.1⟩))
     go_wp2
     go_ret
     exact ⟨ret_bool HF.out.symm, HB.out⟩
    ·skip
     have HSQ := hid hs
     clear hs
     go_wp2_with fail
     refine ⟨⟨j + 1, by omega, rfl, fun n hn => ?_, below_then HBW.out HBQ.out⟩, ?_⟩
     · rcases Nat.lt_or_ge n j with h | h
       · exact HA.out n h
       · obtain rfl : n = j := by omega
         have h2 := of_decide_eq_true HSQ.out
         have h3 := HQA.out
         have h4 := HQB.out
         rw [h3, h4, h2.1, h2.2]
     · have h1 : intOf (.int .i64 ((j : Int) + 1)) = (j : Int) + 1 := rfl
       have h2 : intOf (.int .i64 (j : Int)) = (j : Int) := rfl
       rw [h1, h2]; omega
end Go.Proofs.YtfipdoofgbjbjaaGreat
