/- afterglowlaw12.GraceWaits returns true at every number of CPUs, and row of ticks, and turns nothing old. No condition. -/
import Derived.Test.YtbibfjncjklclaaGr13
import Derived.Test.YtbibfjncjklclaaKitA
import Derived.Test.YtbibfjncjklclaaGrP
import Derived.Maps.Range
namespace Go.Proofs.Ytbibfjncjklclaa
open Go.RowKit
attribute [local go_sem] Oper.semAt_some
theorem putL_inV (L : List (Int × Int)) (k v : Int) : putL (inV L) k (.int .i64 v) = inV (putI L k v) := by
  induction L with
  | nil => rfl
  | cons x L ih =>
    show putL ((x.1, Value.int .i64 x.2) :: inV L) k _ = inV (putI (x :: L) k v)
    unfold putL putI
    by_cases e : x.1 = k
    · rw [if_pos e, if_pos e]; rfl
    · rw [if_neg e, if_neg e, ih]; rfl
theorem atF_snoc (s : St) (L : List (Int × Int)) (l : List Int) (n : Int) : atF s L (l ++ [n]) = putI (atF s L l) n s.1 := by unfold atF; rw [List.foldl_append]; rfl
set_option maxRecDepth 100000 in
theorem asks_any (g : Nat) (L : List (Int × Int)) (n : Int) (w : World) (h : MapAt w g .i64 (inV L)) :
    Calls Try.prog 35 #[.map (some g), .int .i64 n] w fun x w' => x = .returned (.bool (decide (n ∈ L.map Prod.fst))) ∧ w' = w := by
  have hz : (zeroValue 3).run Try.prog w = .ok (.int .i64 0) w := by kernel_rfl
  have hl := h.look (P := Try.prog) Try.underlying63 Try.underlying3 n hz
  rw [getL_inV] at hl
  clear h hz
  obtain ⟨q, hq⟩ : ∃ q, q = decide (n ∈ L.map Prod.fst) := ⟨_, rfl⟩
  rw [← hq] at hl ⊢
  clear hq
  go_enter Try.func35, Try.ntmps35
  go_wp2
  go_ret
  exact ⟨rfl, rfl⟩
theorem playA_one (s : St) (g : Gr) (t : Int × Int) : playA s g [] [t] = if (tickF s g t).1 = 0 then (0, (tickF s g t).2.1, (tickF s g t).2.2.1, (tickF s g t).2.2.2) else ((tickF s g t).1, (0, [], []), zGr, []) := by
  unfold playA
  split
  · unfold playA; rfl
  · rfl
theorem MapAt.ne_ow {α : Type} {enc : α → Value} {w : World} {g lo n c : Nat} {ik : IntKind} {L : List (Int × Value)} {e : TypeId} {A : Option Addr} {xs : List α} (h : MapAt w g ik L) (ho : Ow enc w lo e A n c xs) : ∀ a, A = some a → a.block ≠ g := by
  intro a ha e
  obtain ⟨_, cs, hb⟩ := ho.blk a ha
  obtain ⟨es, ck, hm, _⟩ := h
  unfold Blk at hb
  rw [e, hm] at hb
  cases hb
theorem MapAt.ne_blk {w : World} {g k : Nat} {ik : IntKind} {L : List (Int × Value)} {t : TypeId} {cs : Array Value} (h : MapAt w g ik L) (hb : Blk w k t cs) : k ≠ g := by
  intro e
  obtain ⟨es, ck, hm, _⟩ := h
  unfold Blk at hb
  rw [e, hm] at hb
  cases hb
theorem IterAt.left {w : World} {r g cnt : Nat} {ik : IntKind} {L : List (Int × Value)} (h : IterAt w r g ik L cnt) : w.rangeLeft g r = cnt := by
  obtain ⟨es, clock, since, seen, c0, k1, _, _, k4, _, _, _, k8⟩ := h
  simp only [World.rangeLeft, k1, k4]
  exact k8
/-- two readers, and two graces, in boxes -/
structure GWB (w1 W : World) (g5 g6 g11 g12 : Nat) (s : St) (g : Gr) (s2 : St) (g2 : Gr) (A : Option Addr) (n k : Nat) (B : Option Addr) (m d : Nat) (D : Option Addr) (kd : Nat) (A2 : Option Addr) (n2 k2 : Nat) (B2 : Option Addr) (m2 d2 : Nat) (D2 : Option Addr) (kd2 : Nat) : Prop where
  p5 : Blk W g5 24 #[.int .i64 s.1, .slice A n k, .slice B m d]
  p6 : Blk W g6 27 #[.int .i64 g.dn, .int .i64 g.ak, .bool g.on, .slice D g.nd.length kd]
  ro : Rown W w1.heap.size A n k B m d s.2.1 s.2.2
  do_ : Ow blv W w1.heap.size 4 D g.nd.length kd g.nd
  p11 : Blk W g11 24 #[.int .i64 s2.1, .slice A2 n2 k2, .slice B2 m2 d2]
  p12 : Blk W g12 27 #[.int .i64 g2.dn, .int .i64 g2.ak, .bool g2.on, .slice D2 g2.nd.length kd2]
  ro2 : Rown W w1.heap.size A2 n2 k2 B2 m2 d2 s2.2.1 s2.2.2
  do2 : Ow blv W w1.heap.size 4 D2 g2.nd.length kd2 g2.nd
  be : Below w1.heap.size w1 W
section
variable {w1 W W' : World} {g5 g6 g11 g12 : Nat} {s : St} {g : Gr} {s2 : St} {g2 : Gr} {A : Option Addr} {n k : Nat} {B : Option Addr} {m d : Nat} {D : Option Addr} {kd : Nat} {A2 : Option Addr} {n2 k2 : Nat} {B2 : Option Addr} {m2 d2 : Nat} {D2 : Option Addr} {kd2 : Nat}
theorem GWB.step (h : GWB w1 W g5 g6 g11 g12 s g s2 g2 A n k B m d D kd A2 n2 k2 B2 m2 d2 D2 kd2) (hb : Below W.heap.size W W') : GWB w1 W' g5 g6 g11 g12 s g s2 g2 A n k B m d D kd A2 n2 k2 B2 m2 d2 D2 kd2 :=
  ⟨h.p5.step hb, h.p6.step hb, h.ro.step hb, h.do_.step hb, h.p11.step hb, h.p12.step hb, h.ro2.step hb, h.do2.step hb, below_then h.be hb⟩
/-- a block that is no cells is turned -/
theorem GWB.turn (h : GWB w1 W g5 g6 g11 g12 s g s2 g2 A n k B m d D kd A2 n2 k2 B2 m2 d2 D2 kd2) {q : Nat} {o : Obj} (ho : W.heap[q]? = some o) (hc : o.isCells = false) (hg : W.grownBy W' (some q)) (hq : w1.heap.size ≤ q) : GWB w1 W' g5 g6 g11 g12 s g s2 g2 A n k B m d D kd A2 n2 k2 B2 m2 d2 D2 kd2 := by
  have hr : ∀ r, some q = some r → ∃ o : Obj, W.heap[r]? = some o ∧ o.isCells = false := fun r e => by cases e; exact ⟨o, ho, hc⟩
  exact ⟨h.p5.abides hg hr, h.p6.abides hg hr, ⟨h.ro.oa.abides hg hr, h.ro.ob.abides hg hr, h.ro.apart, h.ro.hn, h.ro.hm⟩, h.do_.abides hg hr, h.p11.abides hg hr, h.p12.abides hg hr, ⟨h.ro2.oa.abides hg hr, h.ro2.ob.abides hg hr, h.ro2.apart, h.ro2.hn, h.ro2.hm⟩, h.do2.abides hg hr, h.be.grown hg h.be.size (fun r e => by cases e; exact hq)⟩
end
/-- what the loop over ticks keeps -/
structure GWI (w1 W : World) (g5 g6 gm : Nat) (s : St) (g : Gr) (at_ : List (Int × Int)) : Prop where
  out : ∃ A n k B m d D kd, Blk W g5 24 #[.int .i64 s.1, .slice A n k, .slice B m d] ∧ Blk W g6 27 #[.int .i64 g.dn, .int .i64 g.ak, .bool g.on, .slice D g.nd.length kd] ∧ Rown W w1.heap.size A n k B m d s.2.1 s.2.2 ∧ Ow blv W w1.heap.size 4 D g.nd.length kd g.nd
  map : MapAt W gm .i64 (inV at_)
  both : Both s g
  inv : AtInv s g at_
  be : Below w1.heap.size w1 W
set_option maxRecDepth 100000 in
set_option maxHeartbeats 8000000 in
theorem gwaits_any (cpus : Int) (T : Option Addr) (nt kt : Nat) (L : List (Int × Int)) (w : World) (hT : Sm 2 encT (0, 0) w 0 w.heap.size T nt L) :
    Calls Try.prog 7 #[.int .i64 cpus, .slice T nt kt] w fun x w' => x = .returned (.bool true) ∧ Below w.heap.size w w' := by
  have HB := hid (Below.refl w.heap.size w); have HT := hid hT
  clear hT
  go_enter Try.func7, Try.ntmps7
  go_wp2_with fail
  refine (gwakes_any w).mono ?_
  rintro e w1 ⟨rfl, hb⟩
  replace HB := hid (below_then HB.out hb)
  replace HT := hid (HT.out.below hb (Nat.le_refl _))
  have HT1 := HT
  clear hb
  go_wp2_with fail
  obtain ⟨n, hn1, hn8, hn⟩ : ∃ n : Nat, 1 ≤ n ∧ n ≤ 8 ∧ wrap64 (1 + wrap64 ((IntKind.u64.wrap cpus).tmod 8)) = (n : Int) := by
    have h0 : 0 ≤ IntKind.u64.wrap cpus := by rw [IntKind.wrap_u64]; omega
    rw [Int.tmod_eq_emod_of_nonneg h0]
    refine ⟨(1 + IntKind.u64.wrap cpus % 8).toNat, by omega, by omega, ?_⟩
    unfold wrap64; omega
  rw [hn]
  have H1 := hid hn1; have H8 := hid hn8
  clear hn hn1 hn8
  refine (begun_ok n w1 H1.out H8.out).mono ?_
  rintro e w2 ⟨A, B, D, rfl, ro, dq, hb⟩
  have RO := hid (ro.step (Below.refl _ _)); have DO := hid dq
  have HBE := hid hb
  replace HT := hid (HT.out.below hb (by have := HB.out.size; omega))
  have HWS := hid HB.out.size; have HZ2 := hid hb.size
  have gvE : gv (nGr n) D n n = .agg #[.int .i64 0, .int .i64 0, .bool false, .slice D n n] := rfl
  rw [gvE]
  clear gvE ro dq hb
  have bx := below_box w2 (.cells #[.int .i64 0, .slice A n n, .slice B n n] 24)
  replace RO := hid (RO.out.step bx); replace DO := hid (DO.out.step bx); replace HBE := hid (below_then HBE.out bx)
  clear bx
  have P5 := hid (Blk.new w2 24 #[.int .i64 0, .slice A n n, .slice B n n])
  have bx := below_box (w2.alloc (.cells #[.int .i64 0, .slice A n n, .slice B n n] 24)) (.cells #[.int .i64 0, .int .i64 0, .bool false, .slice D n n] 27)
  replace RO := hid (RO.out.step bx); replace DO := hid (DO.out.step bx); replace P5 := hid (P5.out.step bx); replace HBE := hid (below_then HBE.out bx)
  clear bx
  have P6 := hid (Blk.new2 w2 27 #[.int .i64 0, .int .i64 0, .bool false, .slice D n n] (.cells #[.int .i64 0, .slice A n n, .slice B n n] 24))
  skip
  have hmm := @run_makeMap Try.prog
  go_upto_region 6 with fail
  have hz3 := hid (show ((w2.alloc (.cells #[.int .i64 0, .slice A n n, .slice B n n] 24)).alloc (.cells #[.int .i64 0, .int .i64 0, .bool false, .slice D n n] 27)).heap.size = w2.heap.size + 2 by simp)
  generalize (w2.alloc (.cells #[.int .i64 0, .slice A n n, .slice B n n] 24)).alloc (.cells #[.int .i64 0, .int .i64 0, .bool false, .slice D n n] 27) = W3 at *
  go_wp2_with fail
  clear hmm
  have bx := below_box W3 (.map #[] 0)
  have MP := hid (MapAt.new W3 .i64)
  replace RO := hid (RO.out.step bx); replace DO := hid (DO.out.step bx); replace P5 := hid (P5.out.step bx); replace P6 := hid (P6.out.step bx); replace HBE := hid (below_then HBE.out bx)
  have hI := hid (show GWI w1 (W3.alloc (.map #[] 0)) w2.heap.size (w2.heap.size + 1) W3.heap.size (0, List.replicate n 0, List.replicate n 0) (nGr n) [] from
    ⟨⟨A, n, n, B, n, n, D, n, P5.out, by have := P6.out; simpa [nGr] using this, RO.out, by have := DO.out; simpa [nGr] using this⟩, MP.out, nBoth H1.out H8.out, ⟨fun _ h => (by cases h), fun k h1 h2 => absurd (show k ≤ (0 : Int) from h2) (by omega)⟩, HBE.out⟩)
  have hz4 := hid (show w1.heap.size ≤ w2.heap.size from by have := hz3.out; have := HZ2.out; omega)
  clear RO DO P5 P6 MP HBE
  generalize W3.alloc (.map #[] 0) = W4 at *
  clear bx HZ2
  have hz5 := hid (show w2.heap.size + 2 ≤ W3.heap.size by have := hz3.out; omega)
  go_loopw [9, 10, 11, 12, 13, 14, 16, 17, 18, 36] (fun _ _ _ _ _ _ _ _ _ i wr => ∃ (j : Nat) (s : St) (g' : Gr) (at_ : List (Int × Int)), j ≤ nt ∧ j ≤ 120 ∧ i = .int .i64 j ∧ GWI w1 wr w2.heap.size (w2.heap.size + 1) W3.heap.size s g' at_) (fun _ _ _ _ _ _ _ _ _ i _ => nt - (intOf i).toNat)
  case atStart => exact ⟨0, _, _, _, Nat.zero_le _, Nat.zero_le _, rfl, hI.out⟩
  case round =>
    clear hI H1 H8
    obtain ⟨j, s, g', at_, hj, hj120, rfl, ⟨A', n', k', B', m', d', D', kd', p1, p2, p3, p4⟩, i2, i3, i4, i5⟩ := hrel
    have P5 := hid p1; have P6 := hid p2; have RO := hid p3; have DO := hid p4; have MP := hid i2; have HBo := hid i3; have HIN := hid i4; have HBE := hid i5
    clear p1 p2 p3 p4 i2 i3 i4 i5
    by_cases hjn : j < nt
    rotate_left
    ·skip
     obtain rfl : j = nt := by omega
     have hnn : ¬ ((j : Int) < (j : Int)) := by omega
     obtain ⟨y00, y01, y02, y03, yf0⟩ := P6.out.cells4
     go_wp2_with fail
     clear y00 y01 y02 y03 yf0
     have hgv : (Value.agg #[.int .i64 g'.dn, .int .i64 g'.ak, .bool g'.on, .slice D' g'.nd.length kd']) = gv g' D' g'.nd.length kd' := rfl
     refine (gcheck_any g' D' g'.nd.length kd' 0 _ ((DO.out.sl (d := false)).mono (Nat.zero_le _) (Nat.le_refl _)) (by have := HBo.out.2.1.2.1; omega)).mono ?_
     rintro e Wz ⟨rfl, hb⟩
     replace RO := hid (RO.out.step hb); replace DO := hid (DO.out.step hb); replace P5 := hid (P5.out.step hb); replace P6 := hid (P6.out.step hb); replace MP := hid (MP.out.step hb); replace HBE := hid (below_then HBE.out hb)
     rw [gchk_ok HBo.out.2.1]
     go_wp2
     go_ret
     exact ⟨rfl, below_then HB.out HBE.out⟩
    have hji : (j : Int) < (nt : Int) := by omega
    have HTW := hid (show Sm 2 encT (0, 0) wr 0 w.heap.size T nt L from HT1.out.below HBE.out (by have := HWS.out; omega))
    obtain ⟨bT, oT, rfl, _, _, hc⟩ := HTW.out.row (by omega)
    obtain ⟨f0, f1⟩ := Sm.tick (lo := 0) (hi := w.heap.size) hc hjn
    obtain ⟨x, hx⟩ : ∃ x, x = L[j]?.getD (0, 0) := ⟨_, rfl⟩
    rw [← hx] at f0 f1
    obtain ⟨tk, tc⟩ := x
    dsimp only at f0 f1
    clear hc HTW hx
    have bx := below_box wr (.cells #[.int .i64 tk, .int .i64 tc] 34)
    replace RO := hid (RO.out.step bx); replace DO := hid (DO.out.step bx); replace P5 := hid (P5.out.step bx); replace P6 := hid (P6.out.step bx); replace MP := hid (MP.out.step bx); replace HBE := hid (below_then HBE.out bx)
    clear bx
    have PT := hid (Blk.new wr 34 #[.int .i64 tk, .int .i64 tc])
    go_upto_region 10 with fail
    clear f0 f1
    generalize wr.alloc (.cells #[.int .i64 tk, .int .i64 tc] 34) = W5 at *
    by_cases hj2 : j = 120
    ·skip
     subst hj2
     obtain ⟨y00, y01, y02, y03, yf0⟩ := P6.out.cells4
     go_wp2_with fail
     clear y00 y01 y02 y03 yf0
     have hgv : (Value.agg #[.int .i64 g'.dn, .int .i64 g'.ak, .bool g'.on, .slice D' g'.nd.length kd']) = gv g' D' g'.nd.length kd' := rfl
     refine (gcheck_any g' D' g'.nd.length kd' 0 _ ((DO.out.sl (d := false)).mono (Nat.zero_le _) (Nat.le_refl _)) (by have := HBo.out.2.1.2.1; omega)).mono ?_
     rintro e Wz ⟨rfl, hb⟩
     replace RO := hid (RO.out.step hb); replace DO := hid (DO.out.step hb); replace P5 := hid (P5.out.step hb); replace P6 := hid (P6.out.step hb); replace MP := hid (MP.out.step hb); replace PT := hid (PT.out.step hb); replace HBE := hid (below_then HBE.out hb)
     rw [gchk_ok HBo.out.2.1]
     go_wp2
     go_ret
     exact ⟨rfl, below_then HB.out HBE.out⟩
    have d1 : ((j : Int) == 120) = false := by simp; omega
    have hj3 := hid (show j < 120 by omega)
    clear hj2
    obtain ⟨y00, y01, yf0⟩ := PT.out.cells2
    obtain ⟨y10, y11, y12, yf1⟩ := P5.out.cells3
    obtain ⟨y20, y21, y22, y23, yf2⟩ := P6.out.cells4
    go_upto_region 11 with fail
    clear d1
    have hps := fun (W' : World) (hb : Below W5.heap.size W5 W') => RO.out.step hb
    clear hps
    go_wp2_with fail
    clear y00 y01 yf0 y10 y11 y12 yf1 y20 y21 y22 y23 yf2
    have bx := below_box W5 (.cells #[.int .i64 tk, .int .i64 tc] 34)
    replace RO := hid (RO.out.step bx); replace DO := hid (DO.out.step bx); replace P5 := hid (P5.out.step bx); replace P6 := hid (P6.out.step bx); replace MP := hid (MP.out.step bx); replace PT := hid (PT.out.step bx); replace HBE := hid (below_then HBE.out bx)
    clear bx
    have PS := hid (Blk.new W5 34 #[.int .i64 tk, .int .i64 tc])
    have hz6 := hid (show (W5.alloc (.cells #[.int .i64 tk, .int .i64 tc] 34)).heap.size = W5.heap.size + 1 by simp)
    generalize W5.alloc (.cells #[.int .i64 tk, .int .i64 tc] 34) = W6 at *
    have hp := play_any s g' A' n' k' B' m' d' D' kd' (some ⟨W5.heap.size, 0, none⟩) 1 1 [(tk, tc)] W6 RO.out.rds ((DO.out.sl (d := false)).mono (Nat.zero_le _) (Nat.le_refl _)) (PS.out.smT (xs := [(tk, tc)]) rfl (by intro k hk j hj; have hk' : k < 1 := hk; have hj' : j < 2 := hj; match k, hk', j, hj' with | 0, _, 0, _ => rfl | 0, _, 1, _ => rfl)) HBo.out (by omega)
    rw [playA_one] at hp
    have hone := hid (tickF_one s g' (tk, tc))
    have hbt := hid (fun h => both_tick (t := (tk, tc)) HBo.out h)
    have hat := hid (fun h => at_tick (t := (tk, tc)) HIN.out HBo.out h)
    obtain ⟨⟨rc, s2, g2, q2⟩, htf⟩ : ∃ r, r = tickF s g' (tk, tc) := ⟨_, rfl⟩
    rw [← htf] at hp hone hbt hat
    clear htf
    dsimp only at hp hone hbt hat
    by_cases h0 : rc = 0
    rotate_left
    ·skip
     rw [if_neg h0] at hp
     refine hp.mono ?_
     rintro e W7 ⟨A7, n7, k7, B7, m7, d7, D7, kd7, E7, ne7, ke7, rfl, ro, dq, eq, hb⟩
     clear hp ro dq eq hone hbt hat
     replace RO := hid (RO.out.step hb); replace DO := hid (DO.out.step hb); replace P5 := hid (P5.out.step hb); replace P6 := hid (P6.out.step hb); replace MP := hid (MP.out.step hb); replace PT := hid (PT.out.step hb); replace HBE := hid (below_then HBE.out hb)
     have d1 : (rc != 0) = true := by simpa using h0
     clear hb h0
     dsimp only
     have bx := below_box W7 (.cells #[.int .i64 0, .slice A7 n7 k7, .slice B7 m7 d7] 24)
     replace RO := hid (RO.out.step bx); replace DO := hid (DO.out.step bx); replace P5 := hid (P5.out.step bx); replace P6 := hid (P6.out.step bx); replace MP := hid (MP.out.step bx); replace PT := hid (PT.out.step bx); replace HBE := hid (below_then HBE.out bx)
     clear bx
     have bx := below_box (W7.alloc (.cells #[.int .i64 0, .slice A7 n7 k7, .slice B7 m7 d7] 24)) (.cells #[.int .i64 zGr.dn, .int .i64 zGr.ak, .bool zGr.on, .slice D7 zGr.nd.length kd7] 27)
     replace RO := hid (RO.out.step bx); replace DO := hid (DO.out.step bx); replace P5 := hid (P5.out.step bx); replace P6 := hid (P6.out.step bx); replace MP := hid (MP.out.step bx); replace PT := hid (PT.out.step bx); replace HBE := hid (below_then HBE.out bx)
     clear bx
     go_wp2_with fail
     generalize (W7.alloc (.cells #[.int .i64 0, .slice A7 n7 k7, .slice B7 m7 d7] 24)).alloc (.cells #[.int .i64 zGr.dn, .int .i64 zGr.ak, .bool zGr.on, .slice D7 zGr.nd.length kd7] 27) = W8 at *
     clear d1
     have hj4 := hj3.out
     have hw1 : IntKind.i64.wrap ((j : Int) + 1) = (j : Int) + 1 := by rw [IntKind.wrap_i64]; omega
     go_wp2_with fail
     go_roundw
     case rel => exact ⟨j + 1, s, g', at_, by omega, by omega, by go_num, ⟨⟨A', n', k', B', m', d', D', kd', P5.out, P6.out, RO.out, DO.out⟩, MP.out, HBo.out, HIN.out, HBE.out⟩⟩
     case measure => simp [intOf]; omega
    obtain rfl := h0
    rw [if_pos rfl] at hp
    have HBo2 := hid (hbt.out rfl); have HIN2 := hid (hat.out rfl)
    refine hp.mono ?_
    rintro e W7 ⟨A7, n7, k7, B7, m7, d7, D7, kd7, E7, ne7, ke7, rfl, ro, dq, eq, hb⟩
    clear hp hbt hat
    dsimp only at ro dq eq ⊢
    have hW6 := hid (show w1.heap.size ≤ W6.heap.size from HBE.out.size)
    replace RO := hid (RO.out.step hb); replace DO := hid (DO.out.step hb); replace P5 := hid (P5.out.step hb); replace P6 := hid (P6.out.step hb); replace MP := hid (MP.out.step hb); replace PT := hid (PT.out.step hb); replace HBE := hid (below_then HBE.out hb)
    have hW7 := hid (show w1.heap.size ≤ W7.heap.size from HBE.out.size)
    have hW27 := hid (show w2.heap.size + 2 ≤ W7.heap.size by have := P6.out.lt; omega)
    have RO2 := hid (ro.mono hW6.out); have DO2 := hid (dq.mono hW6.out); have EO2 := hid (eq.mono hW6.out)
    clear ro dq eq hb PT PS
    have bx := below_box W7 (.cells #[.int .i64 s2.1, .slice A7 n7 k7, .slice B7 m7 d7] 24)
    replace RO := hid (RO.out.step bx); replace DO := hid (DO.out.step bx); replace P5 := hid (P5.out.step bx); replace P6 := hid (P6.out.step bx); replace MP := hid (MP.out.step bx); replace RO2 := hid (RO2.out.step bx); replace DO2 := hid (DO2.out.step bx); replace EO2 := hid (EO2.out.step bx); replace HBE := hid (below_then HBE.out bx)
    clear bx
    have P11 := hid (Blk.new W7 24 #[.int .i64 s2.1, .slice A7 n7 k7, .slice B7 m7 d7])
    have bx := below_box (W7.alloc (.cells #[.int .i64 s2.1, .slice A7 n7 k7, .slice B7 m7 d7] 24)) (.cells #[.int .i64 g2.dn, .int .i64 g2.ak, .bool g2.on, .slice D7 g2.nd.length kd7] 27)
    replace RO := hid (RO.out.step bx); replace DO := hid (DO.out.step bx); replace P5 := hid (P5.out.step bx); replace P6 := hid (P6.out.step bx); replace MP := hid (MP.out.step bx); replace RO2 := hid (RO2.out.step bx); replace DO2 := hid (DO2.out.step bx); replace EO2 := hid (EO2.out.step bx); replace P11 := hid (P11.out.step bx); replace HBE := hid (below_then HBE.out bx)
    clear bx
    have P12 := hid (Blk.new2 W7 27 #[.int .i64 g2.dn, .int .i64 g2.ak, .bool g2.on, .slice D7 g2.nd.length kd7] (.cells #[.int .i64 s2.1, .slice A7 n7 k7, .slice B7 m7 d7] 24))
    go_wp2_with fail
    have hz8 := hid (show ((W7.alloc (.cells #[.int .i64 s2.1, .slice A7 n7 k7, .slice B7 m7 d7] 24)).alloc (.cells #[.int .i64 g2.dn, .int .i64 g2.ak, .bool g2.on, .slice D7 g2.nd.length kd7] 27)).heap.size = W7.heap.size + 2 by simp)
    generalize (W7.alloc (.cells #[.int .i64 s2.1, .slice A7 n7 k7, .slice B7 m7 d7] 24)).alloc (.cells #[.int .i64 g2.dn, .int .i64 g2.ak, .bool g2.on, .slice D7 g2.nd.length kd7] 27) = W8 at *
    have GB := hid (show GWB w1 W8 w2.heap.size (w2.heap.size + 1) W7.heap.size (W7.heap.size + 1) s g' s2 g2 A' n' k' B' m' d' D' kd' A7 n7 k7 B7 m7 d7 D7 kd7 from ⟨P5.out, P6.out, RO.out, DO.out, P11.out, P12.out, RO2.out, DO2.out, HBE.out⟩)
    have hle := hid EO2.out.len
    clear P5 P6 RO DO P11 P12 RO2 DO2 HBE hW6 HBo HIN
    go_loopw [16, 57] (fun _ i W => ∃ k : Nat, k ≤ ne7 ∧ i = .int .i64 k ∧ MapAt W W3.heap.size .i64 (inV (atF s2 at_ (q2.take k))) ∧ Ow i64 W w1.heap.size 3 E7 ne7 ke7 q2 ∧ GWB w1 W w2.heap.size (w2.heap.size + 1) W7.heap.size (W7.heap.size + 1) s g' s2 g2 A' n' k' B' m' d' D' kd' A7 n7 k7 B7 m7 d7 D7 kd7) (fun _ i _ => ne7 - (intOf i).toNat)
    case atStart => exact ⟨0, Nat.zero_le _, rfl, by rw [List.take_zero]; exact MP.out, EO2.out, GB.out⟩
    case round =>
      rename World => Wa
      obtain ⟨k, hk, rfl, m1, m2, m3⟩ := hrel
      have MP2 := hid m1; have EO3 := hid m2; have GB2 := hid m3
      clear m1 m2 m3 GB MP EO2
      by_cases hkn : k < ne7
      ·skip
       have hki : (k : Int) < (ne7 : Int) := by omega
       obtain ⟨gE, rfl, _, hgE, c0, _⟩ := EO3.out.at_ 0 hkn
       obtain ⟨v, hv⟩ : ∃ v, v = q2[k]?.getD 0 := ⟨_, rfl⟩
       rw [← hv] at c0
       have hsn := hid (show q2.take (k + 1) = q2.take k ++ [v] by rw [List.take_succ_eq_append_getElem (by rw [hle.out]; exact hkn), hv, List.getElem?_eq_getElem (by rw [hle.out]; exact hkn)]; rfl)
       clear hv
       have hw1 : IntKind.i64.wrap ((k : Int) + 1) = (k : Int) + 1 := by rw [IntKind.wrap_i64]; have := hone.out; have := hle.out; omega
       obtain ⟨wm, hup, hm2, hg2⟩ := MP2.out.update (P := Try.prog) Try.underlying63 Try.underlying3 v (.int .i64 s2.1)
       obtain ⟨es, ck, hmo, _⟩ := MP2.out
       have HMo := hid (show Wa.heap[W3.heap.size]? = some (.map es ck) from hmo)
       have HM2 := hid (show MapAt wm W3.heap.size .i64 (inV (atF s2 at_ (q2.take (k + 1)))) by rw [hsn.out, atF_snoc, ← putL_inV]; exact hm2)
       have HEO := hid (EO3.out.abides hg2 (fun r e => by cases e; exact ⟨_, HMo.out, rfl⟩))
       have HGB := hid (GB2.out.turn HMo.out rfl hg2 (by have := hz4.out; have := hz5.out; omega))
       obtain ⟨y0, y1, y2, yf⟩ := GB2.out.p11.cells3
       clear hm2 hg2 hmo MP2 EO3 GB2
       go_wp2_with fail
       clear y0 y1 y2 yf c0 hup
       go_roundw
       case rel => exact ⟨k + 1, by omega, by go_num, HM2.out, HEO.out, HGB.out⟩
       case measure => simp [intOf]; omega
      obtain rfl : k = ne7 := by omega
      have hkni : ¬ ((k : Int) < (k : Int)) := by omega
      have HM3 := hid (show MapAt Wa W3.heap.size .i64 (inV (atF s2 at_ q2)) by have := MP2.out; rwa [List.take_of_length_le (by rw [hle.out]; exact Nat.le_refl _)] at this)
      obtain ⟨at2, hat2⟩ : ∃ l, l = atF s2 at_ q2 := ⟨_, rfl⟩
      rw [← hat2] at HM3 HIN2
      clear hat2 MP2 EO3
      obtain ⟨Wi, cnt, hrg, hit, hbi, hszi⟩ := HM3.out.range (P := Try.prog) Try.underlying63
      have HIT := hid hit
      have GB3 := hid (GB2.out.step hbi)
      clear hit hbi hszi GB2
      go_wp2_with fail
      clear hrg
      have hW2b := hid (show w2.heap.size + 2 ≤ W7.heap.size from hW27.out)
      have hWa := hid (show w1.heap.size ≤ Wa.heap.size by have := hz4.out; have := hz5.out; have := HM3.out.lt; omega)
      clear HM3
      go_loopw [17, 18] (fun _ _ W => ∃ cnt, IterAt W Wa.heap.size W3.heap.size .i64 (inV at2) cnt ∧ GWB w1 W w2.heap.size (w2.heap.size + 1) W7.heap.size (W7.heap.size + 1) s g' s2 g2 A' n' k' B' m' d' D' kd' A7 n7 k7 B7 m7 d7 D7 kd7) (fun _ _ W => W.rangeLeft W3.heap.size Wa.heap.size)
      case atStart => exact ⟨_, HIT.out, GB3.out⟩
      case round =>
        rename World => Wb
        obtain ⟨cn, i1, i2⟩ := hrel
        have HIT2 := hid i1; have GB4 := hid i2
        clear i1 i2 HIT GB3
        rcases HIT2.out.next (P := Try.prog) with ⟨h0, hrun⟩ | ⟨x, hx, wn, cnt2, hrun, hit2, hlt, hg2, hsz2, hen⟩
        rotate_left
        ·skip
         obtain ⟨y, hy, rfl⟩ := List.mem_map.1 hx
         have HY := hid hy; have HLT := hid hlt
         have hob := HIT2.out
         obtain ⟨_, _, _, _, _, _, _, _, hob, _⟩ := hob
         have GB5 := hid (GB4.out.turn hob rfl hg2 hWa.out)
         have HIT3 := hid hit2
         have HL0 := hid HIT2.out.left
         obtain ⟨yk, yv⟩ := y
         clear hx hy hlt hob hit2 hg2 hsz2 GB4 HIT2
         dsimp only at hrun hen HY
         obtain ⟨y0, y1, y2, y3, yf⟩ := GB5.out.p12.cells4
         go_wp2_with fail
         clear y0 y1 y2 y3 yf hrun hen
         refine (over_ok g2 D7 g2.nd.length kd7 yk wn ((GB5.out.do2.sl (d := false)).mono (Nat.zero_le _) (Nat.le_refl _)) (by have := HBo2.out.2.1.2.1; omega) HBo2.out.2.1).mono ?_
         rintro e wo ⟨rfl, hb⟩
         replace GB5 := hid (GB5.out.step hb); replace HIT3 := hid (HIT3.out.step hb)
         clear hb
         by_cases hov : 1 ≤ yk ∧ yk ≤ g2.dn
         ·skip
          have hps := hid (at_passed HIN2.out HBo2.out HY.out hov.2)
          rw [decide_eq_true hov]
          clear hov
          obtain ⟨y0, y1, y2, yf⟩ := GB5.out.p11.cells3
          go_wp2_with fail
          clear y0 y1 y2 yf
          refine (passed_any s2.1 A7 n7 k7 B7 m7 d7 s2.2.1 s2.2.2 yv wo GB5.out.ro2.rds).mono ?_
          rintro e wp ⟨rfl, hb⟩
          rw [decide_eq_true hps.out]
          replace GB5 := hid (GB5.out.step hb); replace HIT3 := hid (HIT3.out.step hb)
          clear hb hps
          go_wp2_with fail
          go_roundw
          case rel => exact ⟨_, HIT3.out, GB5.out⟩
          case measure => rw [HIT3.out.left, HL0.out]; exact HLT.out
         ·skip
          rw [decide_eq_false hov]
          clear hov
          go_wp2_with fail
          go_roundw
          case rel => exact ⟨_, HIT3.out, GB5.out⟩
          case measure => rw [HIT3.out.left, HL0.out]; exact HLT.out
        have HM4 := hid HIT2.out.map
        clear HIT2 hWa
        by_cases hd : 0 < g2.dn
        ·skip
         have d1 : decide (0 < g2.dn) = true := decide_eq_true hd
         have d1' : decide (g2.dn > 0) = true := decide_eq_true hd
         have HIA := hid (at_asked HIN2.out HBo2.out hd)
         clear hd
         obtain ⟨y0, y1, y2, y3, yf⟩ := GB4.out.p12.cells4
         go_wp2_with fail
         clear y0 y1 y2 y3 yf hrun d1 d1'
         refine (asks_any W3.heap.size at2 g2.dn Wb HM4.out).mono ?_
         rintro e wq ⟨rfl, rfl⟩
         rw [decide_eq_true HIA.out]
         go_upto_region 25 with fail
         have P5 := hid GB4.out.p5; have P6 := hid GB4.out.p6; have P11 := hid GB4.out.p11; have P12 := hid GB4.out.p12; have RO2 := hid GB4.out.ro2; have DO2 := hid GB4.out.do2; have HBE := hid GB4.out.be; have hj4 := hid hj3.out
         clear GB4
         have bx := (Below.refl wq.heap.size wq).drew
         replace P5 := hid (P5.out.step bx); replace P6 := hid (P6.out.step bx); replace P11 := hid (P11.out.step bx); replace P12 := hid (P12.out.step bx); replace RO2 := hid (RO2.out.step bx); replace DO2 := hid (DO2.out.step bx); replace HM4 := hid (HM4.out.step bx); replace HBE := hid (below_then HBE.out bx)
         clear bx
         have hszd := hid (show wq.drew.heap.size = wq.heap.size from rfl)
         refine wp_region_noPanic ?_
         refine wp_region_held_drew (S := (fun W' : World => W'.cell? ⟨W7.heap.size, 0, none⟩ = some (.int .i64 s2.1) ∧ W'.cell? ⟨W7.heap.size, 1, none⟩ = some (.slice A7 n7 k7) ∧ W'.cell? ⟨W7.heap.size, 2, none⟩ = some (.slice B7 m7 d7) ∧ W'.cell? ⟨(W7.heap.size + 1), 0, none⟩ = some (.int .i64 g2.dn) ∧ W'.cell? ⟨(W7.heap.size + 1), 1, none⟩ = some (.int .i64 g2.ak) ∧ W'.cell? ⟨(W7.heap.size + 1), 2, none⟩ = some (.bool g2.on) ∧ W'.cell? ⟨(W7.heap.size + 1), 3, none⟩ = some (.slice D7 g2.nd.length kd7))) (by kernel_rfl) ⟨P11.out.cells3.1, P11.out.cells3.2.1, P11.out.cells3.2.2.1, P12.out.cells4.1, P12.out.cells4.2.1, P12.out.cells4.2.2.1, P12.out.cells4.2.2.2.1⟩ (fun hS => ?_)
         generalize wq.drew = Wd at *
         refine wpAnyH_take (i := 0) (v := ?_) (by simp only [List.getElem?_toArray, List.getElem?_cons_succ, List.getElem?_cons_zero]; rfl) (by kernel_rfl) (by kernel_rfl) (by kernel_rfl) (fun _ _ _ h => h) (Or.inl ⟨by rfl, ?_⟩) hS ?_
         rotate_left
         · intro w' hSw; (try dsimp only at hSw); go_split_ands; go_simp; (try with_reducible rfl)
         (try simp only [Act.put, List.setIfInBounds_toArray, List.set_cons_zero, List.set_cons_succ])
         refine wpAnyH_take (i := 1) (v := ?_) (by simp only [List.getElem?_toArray, List.getElem?_cons_succ, List.getElem?_cons_zero]; rfl) (by kernel_rfl) (by kernel_rfl) (by kernel_rfl) (fun _ _ _ h => h) (Or.inl ⟨by rfl, ?_⟩) hS ?_
         rotate_left
         · intro w' hSw; (try dsimp only at hSw); go_split_ands; go_simp; (try with_reducible rfl)
         (try simp only [Act.put, List.setIfInBounds_toArray, List.set_cons_zero, List.set_cons_succ])
         refine wpAnyH_ready (rs := [2]) (by kernel_rfl) (by simp) ?_
         refine AllReadyH.cons (by simp only [List.getElem?_toArray, List.getElem?_cons_succ, List.getElem?_cons_zero]; rfl) (fun K hK => ?_) ?_
         · skip
           obtain ⟨y00, y01, y02, yf0⟩ := P5.out.cells3
           go_simp
           clear y00 y01 y02 yf0
           refine named_store3 P5.out ?_
           intro Ws2 hbk hgr hsz
           have hsz0 := hid hsz
           clear hsz
           replace P11 := hid (P11.out.grown hgr (by have := hW2b.out; simp; try omega))
           replace P12 := hid (P12.out.grown hgr (by have := hW2b.out; simp; try omega))
           replace P6 := hid (P6.out.grown hgr (by have := hW2b.out; simp; try omega))
           replace RO2 := hid (RO2.out.keptR P5.out (by decide) hgr); replace DO2 := hid (DO2.out.keptR P5.out (by decide) hgr)
           replace HM4 := hid (HM4.out.grown hgr (fun e => HM4.out.ne_blk P5.out (Option.some.inj e).symm))
           replace HBE := hid (HBE.out.grown hgr HBE.out.size (fun r e => by cases e; have := hz4.out; omega))
           replace P5 := hid hbk
           clear hbk hgr
           refine hK.out _ _ ⟨P11.out.cells3.1, P11.out.cells3.2.1, P11.out.cells3.2.2.1, P12.out.cells4.1, P12.out.cells4.2.1, P12.out.cells4.2.2.1, P12.out.cells4.2.2.2.1⟩ (fun hS' => ?_)
           clear hK K hS
           have hS := hS'
           clear hS'
           (try simp only [Act.put, List.setIfInBounds_toArray, List.set_cons_zero, List.set_cons_succ])
           refine wpAnyH_ready (rs := [3]) (by kernel_rfl) (by simp) ?_
           refine AllReadyH.cons (by simp only [List.getElem?_toArray, List.getElem?_cons_succ, List.getElem?_cons_zero]; rfl) (fun K hK => ?_) ?_
           · skip
             obtain ⟨y00, y01, y02, y03, yf0⟩ := P6.out.cells4
             go_simp
             clear y00 y01 y02 y03 yf0
             refine named_store4 P6.out ?_
             intro Ws3 hbk hgr hsz
             have hsz1 := hid hsz
             clear hsz
             replace P11 := hid (P11.out.grown hgr (by have := hW2b.out; simp; try omega))
             replace P12 := hid (P12.out.grown hgr (by have := hW2b.out; simp; try omega))
             replace P5 := hid (P5.out.grown hgr (by have := hW2b.out; simp; try omega))
             replace RO2 := hid (RO2.out.keptR P6.out (by decide) hgr); replace DO2 := hid (DO2.out.keptR P6.out (by decide) hgr)
             replace HM4 := hid (HM4.out.grown hgr (fun e => HM4.out.ne_blk P6.out (Option.some.inj e).symm))
             replace HBE := hid (HBE.out.grown hgr HBE.out.size (fun r e => by cases e; have := hz4.out; omega))
             replace P6 := hid hbk
             clear hbk hgr
             refine hK.out _ _ ⟨P11.out.cells3.1, P11.out.cells3.2.1, P11.out.cells3.2.2.1, P12.out.cells4.1, P12.out.cells4.2.1, P12.out.cells4.2.2.1, P12.out.cells4.2.2.2.1⟩ (fun hS' => ?_)
             clear hK K hS
             have hS := hS'
             clear hS'
             (try simp only [Act.put, List.setIfInBounds_toArray, List.set_cons_zero, List.set_cons_succ])
             refine wpAnyH_done (by kernel_rfl) ?_ _
             refine NoPanic.normal ?_
             clear hS
             have hj5 := hj4.out
             have hw1 : IntKind.i64.wrap ((j : Int) + 1) = (j : Int) + 1 := by rw [IntKind.wrap_i64]; omega
             go_wp2_with fail
             go_roundw
             case rel => exact ⟨j + 1, s2, g2, at2, by omega, by omega, by go_num, ⟨⟨A7, n7, k7, B7, m7, d7, D7, kd7, P5.out, P6.out, RO2.out, DO2.out⟩, HM4.out, HBo2.out, HIN2.out, HBE.out⟩⟩
             case measure => simp [intOf]; omega
           exact AllReadyH.nil
         exact AllReadyH.nil
        ·skip
         have d1 : decide (0 < g2.dn) = false := decide_eq_false hd
         have d1' : decide (g2.dn > 0) = false := decide_eq_false hd
         clear hd
         obtain ⟨y0, y1, y2, y3, yf⟩ := GB4.out.p12.cells4
         go_upto_region 25 with fail
         clear y0 y1 y2 y3 yf hrun d1 d1'
         have P5 := hid GB4.out.p5; have P6 := hid GB4.out.p6; have P11 := hid GB4.out.p11; have P12 := hid GB4.out.p12; have RO2 := hid GB4.out.ro2; have DO2 := hid GB4.out.do2; have HBE := hid GB4.out.be; have hj4 := hid hj3.out
         clear GB4
         have bx := (Below.refl Wb.heap.size Wb).drew
         replace P5 := hid (P5.out.step bx); replace P6 := hid (P6.out.step bx); replace P11 := hid (P11.out.step bx); replace P12 := hid (P12.out.step bx); replace RO2 := hid (RO2.out.step bx); replace DO2 := hid (DO2.out.step bx); replace HM4 := hid (HM4.out.step bx); replace HBE := hid (below_then HBE.out bx)
         clear bx
         have hszd := hid (show Wb.drew.heap.size = Wb.heap.size from rfl)
         refine wp_region_noPanic ?_
         refine wp_region_held_drew (S := (fun W' : World => W'.cell? ⟨W7.heap.size, 0, none⟩ = some (.int .i64 s2.1) ∧ W'.cell? ⟨W7.heap.size, 1, none⟩ = some (.slice A7 n7 k7) ∧ W'.cell? ⟨W7.heap.size, 2, none⟩ = some (.slice B7 m7 d7) ∧ W'.cell? ⟨(W7.heap.size + 1), 0, none⟩ = some (.int .i64 g2.dn) ∧ W'.cell? ⟨(W7.heap.size + 1), 1, none⟩ = some (.int .i64 g2.ak) ∧ W'.cell? ⟨(W7.heap.size + 1), 2, none⟩ = some (.bool g2.on) ∧ W'.cell? ⟨(W7.heap.size + 1), 3, none⟩ = some (.slice D7 g2.nd.length kd7))) (by kernel_rfl) ⟨P11.out.cells3.1, P11.out.cells3.2.1, P11.out.cells3.2.2.1, P12.out.cells4.1, P12.out.cells4.2.1, P12.out.cells4.2.2.1, P12.out.cells4.2.2.2.1⟩ (fun hS => ?_)
         generalize Wb.drew = Wd at *
         refine wpAnyH_take (i := 0) (v := ?_) (by simp only [List.getElem?_toArray, List.getElem?_cons_succ, List.getElem?_cons_zero]; rfl) (by kernel_rfl) (by kernel_rfl) (by kernel_rfl) (fun _ _ _ h => h) (Or.inl ⟨by rfl, ?_⟩) hS ?_
         rotate_left
         · intro w' hSw; (try dsimp only at hSw); go_split_ands; go_simp; (try with_reducible rfl)
         (try simp only [Act.put, List.setIfInBounds_toArray, List.set_cons_zero, List.set_cons_succ])
         refine wpAnyH_take (i := 1) (v := ?_) (by simp only [List.getElem?_toArray, List.getElem?_cons_succ, List.getElem?_cons_zero]; rfl) (by kernel_rfl) (by kernel_rfl) (by kernel_rfl) (fun _ _ _ h => h) (Or.inl ⟨by rfl, ?_⟩) hS ?_
         rotate_left
         · intro w' hSw; (try dsimp only at hSw); go_split_ands; go_simp; (try with_reducible rfl)
         (try simp only [Act.put, List.setIfInBounds_toArray, List.set_cons_zero, List.set_cons_succ])
         refine wpAnyH_ready (rs := [2]) (by kernel_rfl) (by simp) ?_
         refine AllReadyH.cons (by simp only [List.getElem?_toArray, List.getElem?_cons_succ, List.getElem?_cons_zero]; rfl) (fun K hK => ?_) ?_
         · skip
           obtain ⟨y00, y01, y02, yf0⟩ := P5.out.cells3
           go_simp
           clear y00 y01 y02 yf0
           refine named_store3 P5.out ?_
           intro Ws2 hbk hgr hsz
           have hsz0 := hid hsz
           clear hsz
           replace P11 := hid (P11.out.grown hgr (by have := hW2b.out; simp; try omega))
           replace P12 := hid (P12.out.grown hgr (by have := hW2b.out; simp; try omega))
           replace P6 := hid (P6.out.grown hgr (by have := hW2b.out; simp; try omega))
           replace RO2 := hid (RO2.out.keptR P5.out (by decide) hgr); replace DO2 := hid (DO2.out.keptR P5.out (by decide) hgr)
           replace HM4 := hid (HM4.out.grown hgr (fun e => HM4.out.ne_blk P5.out (Option.some.inj e).symm))
           replace HBE := hid (HBE.out.grown hgr HBE.out.size (fun r e => by cases e; have := hz4.out; omega))
           replace P5 := hid hbk
           clear hbk hgr
           refine hK.out _ _ ⟨P11.out.cells3.1, P11.out.cells3.2.1, P11.out.cells3.2.2.1, P12.out.cells4.1, P12.out.cells4.2.1, P12.out.cells4.2.2.1, P12.out.cells4.2.2.2.1⟩ (fun hS' => ?_)
           clear hK K hS
           have hS := hS'
           clear hS'
           (try simp only [Act.put, List.setIfInBounds_toArray, List.set_cons_zero, List.set_cons_succ])
           refine wpAnyH_ready (rs := [3]) (by kernel_rfl) (by simp) ?_
           refine AllReadyH.cons (by simp only [List.getElem?_toArray, List.getElem?_cons_succ, List.getElem?_cons_zero]; rfl) (fun K hK => ?_) ?_
           · skip
             obtain ⟨y00, y01, y02, y03, yf0⟩ := P6.out.cells4
             go_simp
             clear y00 y01 y02 y03 yf0
             refine named_store4 P6.out ?_
             intro Ws3 hbk hgr hsz
             have hsz1 := hid hsz
             clear hsz
             replace P11 := hid (P11.out.grown hgr (by have := hW2b.out; simp; try omega))
             replace P12 := hid (P12.out.grown hgr (by have := hW2b.out; simp; try omega))
             replace P5 := hid (P5.out.grown hgr (by have := hW2b.out; simp; try omega))
             replace RO2 := hid (RO2.out.keptR P6.out (by decide) hgr); replace DO2 := hid (DO2.out.keptR P6.out (by decide) hgr)
             replace HM4 := hid (HM4.out.grown hgr (fun e => HM4.out.ne_blk P6.out (Option.some.inj e).symm))
             replace HBE := hid (HBE.out.grown hgr HBE.out.size (fun r e => by cases e; have := hz4.out; omega))
             replace P6 := hid hbk
             clear hbk hgr
             refine hK.out _ _ ⟨P11.out.cells3.1, P11.out.cells3.2.1, P11.out.cells3.2.2.1, P12.out.cells4.1, P12.out.cells4.2.1, P12.out.cells4.2.2.1, P12.out.cells4.2.2.2.1⟩ (fun hS' => ?_)
             clear hK K hS
             have hS := hS'
             clear hS'
             (try simp only [Act.put, List.setIfInBounds_toArray, List.set_cons_zero, List.set_cons_succ])
             refine wpAnyH_done (by kernel_rfl) ?_ _
             refine NoPanic.normal ?_
             clear hS
             have hj5 := hj4.out
             have hw1 : IntKind.i64.wrap ((j : Int) + 1) = (j : Int) + 1 := by rw [IntKind.wrap_i64]; omega
             go_wp2_with fail
             go_roundw
             case rel => exact ⟨j + 1, s2, g2, at2, by omega, by omega, by go_num, ⟨⟨A7, n7, k7, B7, m7, d7, D7, kd7, P5.out, P6.out, RO2.out, DO2.out⟩, HM4.out, HBo2.out, HIN2.out, HBE.out⟩⟩
             case measure => simp [intOf]; omega
           exact AllReadyH.nil
         exact AllReadyH.nil
end Go.Proofs.Ytbibfjncjklclaa
